/- Texts of the proof of MapOrder, part 20. -/
import Derived.Test.YtkhbmgclklmimaaMapOrderM15
import Derived.Test.YtkhbmgclklmimaaMapOrderMA
import Derived.Test.YtkhbmgclklmimaaProg
import Derived.Below
import Derived.Deep.Draws
import Derived.Deep.AppendLies
import Derived.Maps.AppendAt
import Derived.OwnWalk
import Derived.Laws.BytesArg
import Derived.Laws.MakeOwn
import Derived.Laws.OwnMore
import Derived.Deep.OwnRows
import Derived.Tactics
import Derived.Lib.ConvBytes
import Derived.Laws.Slices
import Derived.WalkKit
import Derived.KernelRfl
import Derived.RowKit3
import Derived.Deep.LoopGhost
import Derived.Deep.QuietTactic
import Derived.BigQuiet
import Derived.WideLaws
import Derived.Deep.DeepCutAuto
import Derived.Deep.CutBlock
import Derived.Deep.RegionHeld3
import Derived.Laws.Rows
import Derived.Lib.AppendStr
import Derived.ArgAppend
import Derived.Laws.IdiomCopy
import Derived.OrdersHeld
import Derived.Laws.BitsLemmas
import Derived.RowKit
import Derived.Lib.SliceRun
import Derived.Test.YtkhbmgclklmimaaMapOrderM16
import Derived.Test.YtkhbmgclklmimaaMapOrderM12
import Derived.Test.YtkhbmgclklmimaaMapOrderM0
import Derived.Test.YtkhbmgclklmimaaMapOrderM1
import Derived.Test.YtkhbmgclklmimaaMapOrderM14
import Derived.Test.YtkhbmgclklmimaaMapOrderM2
import Derived.Test.YtkhbmgclklmimaaMapOrderM3
import Derived.Test.YtkhbmgclklmimaaMapOrderM4
import Derived.Test.YtkhbmgclklmimaaMapOrderM5
import Derived.Test.YtkhbmgclklmimaaMapOrderM6
import Derived.Test.YtkhbmgclklmimaaMapOrderM7
import Derived.Test.YtkhbmgclklmimaaMapOrderM8
import Derived.Test.YtkhbmgclklmimaaMapOrderM17
import Derived.Test.YtkhbmgclklmimaaMapOrderM18
import Derived.Test.YtkhbmgclklmimaaMapOrderM19
import Derived.Test.YtkhbmgclklmimaaMapOrderM11
import Derived.Test.YtkhbmgclklmimaaMapOrderM9
import Derived.Test.YtkhbmgclklmimaaMapOrderM10
section
namespace Go.Proofs.Ytkhbmgclklmimaa.Print
open Go.RowKit Go.Proofs.YtkhbmgclklmimaaW.PrintWords Go.Proofs.YtkhbmgclklmimaaW.PrintLast Go.Proofs.YtkhbmgclklmimaaW.PrintMore
attribute [local go_sem] max2_int min2_int max_two min_two max_three min_three max_four min_four   -- for this text's walks alone
attribute [local go_sem ↓] Go.Proofs.Ytkhbmgclklmimaa.Sem.isSome_setCell
attribute [local go_sem] Go.Instr.field Go.asAgg
set_option linter.unusedVariables false
set_option linter.unusedSimpArgs false
def errW:Option Int → Value
 | none=>.nilIface
 | some c=>.iface 0 (.int .i64 c)
theorem errW_none:errW none=.nilIface:=rfl
theorem errW_some (c:Int):errW (some c)=.iface 0 (.int .i64 c):=rfl
theorem info2:(Try.prog.info? 2).map (fun i=>(i.zero,i.size,i.bytes))=some (some (.int .i64 0),1,8):=by kernel_rfl
theorem info4:(Try.prog.info? 4).map (fun i=>(i.zero,i.size,i.bytes))=some (some (.bool false),1,1):=by kernel_rfl
theorem info42:(Try.prog.info? 42).map (fun i=>(i.zero,i.size,i.bytes))=some (some (.agg #[(.int .i64 0),(.int .i64 0),(.int .i64 0),(.int .i64 0),(.slice none 0 0),(.slice none 0 0),(.slice none 0 0)]),7,104):=by kernel_rfl
-- the values' own types
structure S55 where
 f0:Int
 f1:Int
 f2:Int
def z55:S55:=⟨(0:Int),(0:Int),(0:Int)⟩
def k55:Kd S55:=Kd.iso (Kd.pair (Kd.int .i64) (Kd.pair (Kd.int .i64) (Kd.int .i64))) (fun x:S55=>(x.f0,x.f1,x.f2))
theorem k55_heap:Kd.Heap k55:=Kd.heap_iso _ (Kd.heap_pair (Kd.heap_int .i64) (Kd.heap_pair (Kd.heap_int .i64) (Kd.heap_int .i64)))
theorem k55_open {w:World} {x:S55} {cs:List Value} (h:k55.K w x cs):cs=[.int .i64 x.f0,.int .i64 x.f1,.int .i64 x.f2]:=by
 obtain ⟨_,_,rfl,rfl,⟨_,_,rfl,rfl,rfl⟩⟩:=h
 exact rfl
theorem k55_mkM (w:World) (base:Nat) (ok:Nat → Prop) (x:S55) :k55.M w base ok x [.int .i64 x.f0,.int .i64 x.f1,.int .i64 x.f2]:=⟨[.int .i64 x.f0],[.int .i64 x.f1,.int .i64 x.f2],rfl,rfl,⟨[.int .i64 x.f1],[.int .i64 x.f2],rfl,rfl,rfl⟩⟩
def rd_T55 (xs:List S55) (i:Int):S55:=xs.getD i.toNat z55
theorem at_T55 {w:World} {A:Option Addr} {n:Nat} {xs:List S55} (h:Kd.C k55 w A n xs) (i:Int) (h0:0≤i) (h1:i < n):∃ ad ,A=some ad∧w.cell? (ad.add (i.toNat * 3))=some (.int .i64 (rd_T55 xs i).f0)∧w.cell? ⟨(ad.add (i.toNat * 3)).block,(ad.add (i.toNat * 3)).off + 1,none⟩=some (.int .i64 (rd_T55 xs i).f1)∧w.cell? ⟨(ad.add (i.toNat * 3)).block,(ad.add (i.toNat * 3)).off + 2,none⟩=some (.int .i64 (rd_T55 xs i).f2):=by
 obtain ⟨ad,c,e,_,hK,hc0⟩:=Kd.C_get h z55 i h0 h1
 have hc:∀ j u,c[j]?=some u → w.cell? (ad.add (i.toNat * 3 + j))=some u:=hc0
 obtain rfl:=k55_open hK
 exact ⟨ad,e,hc 0 _ rfl,by rw [← add_field _ _ 1 (by omega)];exact hc 1 _ rfl,by rw [← add_field _ _ 2 (by omega)];exact hc 2 _ rfl⟩
structure S42 where
 f0:Int
 f1:Int
 f2:Int
 f3:Int
 f4:(List Bool)
 f5:(List Int)
 f6:(List S55)
def z42:S42:=⟨(0:Int),(0:Int),(0:Int),(0:Int),([]:List Bool),([]:List Int),([]:List S55)⟩
def k42:Kd S42:=Kd.iso (Kd.pair (Kd.int .i64) (Kd.pair (Kd.int .i64) (Kd.pair (Kd.int .i64) (Kd.pair (Kd.int .i64) (Kd.pair (Kd.slice 4 Kd.bool) (Kd.pair (Kd.slice 2 (Kd.int .i64)) (Kd.slice 55 k55))))))) (fun x:S42=>(x.f0,x.f1,x.f2,x.f3,x.f4,x.f5,x.f6))
theorem k42_heap:Kd.Heap k42:=Kd.heap_iso _ (Kd.heap_pair (Kd.heap_int .i64) (Kd.heap_pair (Kd.heap_int .i64) (Kd.heap_pair (Kd.heap_int .i64) (Kd.heap_pair (Kd.heap_int .i64) (Kd.heap_pair (Kd.heap_slice 4 Kd.heap_bool) (Kd.heap_pair (Kd.heap_slice 2 (Kd.heap_int .i64)) (Kd.heap_slice 55 k55_heap)))))))
theorem k42_open {w:World} {x:S42} {cs:List Value} (h:k42.K w x cs):∃ A4 c4 A5 c5 A6 c6,cs=[.int .i64 x.f0,.int .i64 x.f1,.int .i64 x.f2,.int .i64 x.f3,.slice A4 x.f4.length c4,.slice A5 x.f5.length c5,.slice A6 x.f6.length c6]∧x.f4.length≤c4∧Kd.bool.C w A4 x.f4.length x.f4∧x.f5.length≤c5∧(Kd.int .i64).C w A5 x.f5.length x.f5∧x.f6.length≤c6∧k55.C w A6 x.f6.length x.f6:=by
 obtain ⟨_,_,rfl,rfl,⟨_,_,rfl,rfl,⟨_,_,rfl,rfl,⟨_,_,rfl,rfl,⟨_,_,rfl,⟨A4,c4,rfl,l4,g4⟩,⟨_,_,rfl,⟨A5,c5,rfl,l5,g5⟩,⟨A6,c6,rfl,l6,g6⟩⟩⟩⟩⟩⟩⟩:=h
 exact ⟨A4,c4,A5,c5,A6,c6,rfl,l4,g4,l5,g5,l6,g6⟩
theorem k42_mkM (w:World) (base:Nat) (ok:Nat → Prop) (x:S42) {v4:Value} (g4:Kd.bool.R 4 w base ok v4 x.f4) {v5:Value} (g5:(Kd.int .i64).R 2 w base ok v5 x.f5) {v6:Value} (g6:k55.R 55 w base ok v6 x.f6):k42.M w base ok x [.int .i64 x.f0,.int .i64 x.f1,.int .i64 x.f2,.int .i64 x.f3,v4,v5,v6]:=⟨[.int .i64 x.f0],[.int .i64 x.f1,.int .i64 x.f2,.int .i64 x.f3,v4,v5,v6],rfl,rfl,⟨[.int .i64 x.f1],[.int .i64 x.f2,.int .i64 x.f3,v4,v5,v6],rfl,rfl,⟨[.int .i64 x.f2],[.int .i64 x.f3,v4,v5,v6],rfl,rfl,⟨[.int .i64 x.f3],[v4,v5,v6],rfl,rfl,⟨[v4],[v5,v6],rfl,⟨v4,rfl,g4⟩,⟨[v5],[v6],rfl,⟨v5,rfl,g5⟩,⟨v6,rfl,g6⟩⟩⟩⟩⟩⟩⟩
def rd_T42 (xs:List S42) (i:Int):S42:=xs.getD i.toNat z42
theorem at_T42 {w:World} {A:Option Addr} {n:Nat} {xs:List S42} (h:Kd.C k42 w A n xs) (i:Int) (h0:0≤i) (h1:i < n):∃ ad A4 c4 A5 c5 A6 c6,A=some ad∧w.cell? (ad.add (i.toNat * 7))=some (.int .i64 (rd_T42 xs i).f0)∧w.cell? ⟨(ad.add (i.toNat * 7)).block,(ad.add (i.toNat * 7)).off + 1,none⟩=some (.int .i64 (rd_T42 xs i).f1)∧w.cell? ⟨(ad.add (i.toNat * 7)).block,(ad.add (i.toNat * 7)).off + 2,none⟩=some (.int .i64 (rd_T42 xs i).f2)∧w.cell? ⟨(ad.add (i.toNat * 7)).block,(ad.add (i.toNat * 7)).off + 3,none⟩=some (.int .i64 (rd_T42 xs i).f3)∧w.cell? ⟨(ad.add (i.toNat * 7)).block,(ad.add (i.toNat * 7)).off + 4,none⟩=some (.slice A4 (rd_T42 xs i).f4.length c4)∧w.cell? ⟨(ad.add (i.toNat * 7)).block,(ad.add (i.toNat * 7)).off + 5,none⟩=some (.slice A5 (rd_T42 xs i).f5.length c5)∧w.cell? ⟨(ad.add (i.toNat * 7)).block,(ad.add (i.toNat * 7)).off + 6,none⟩=some (.slice A6 (rd_T42 xs i).f6.length c6)∧(rd_T42 xs i).f4.length≤c4∧Kd.bool.C w A4 (rd_T42 xs i).f4.length (rd_T42 xs i).f4∧(rd_T42 xs i).f5.length≤c5∧(Kd.int .i64).C w A5 (rd_T42 xs i).f5.length (rd_T42 xs i).f5∧(rd_T42 xs i).f6.length≤c6∧k55.C w A6 (rd_T42 xs i).f6.length (rd_T42 xs i).f6:=by
 obtain ⟨ad,c,e,_,hK,hc0⟩:=Kd.C_get h z42 i h0 h1
 have hc:∀ j u,c[j]?=some u → w.cell? (ad.add (i.toNat * 7 + j))=some u:=hc0
 obtain ⟨A4,c4,A5,c5,A6,c6,rfl,l4,g4,l5,g5,l6,g6⟩:=k42_open hK
 exact ⟨ad,A4,c4,A5,c5,A6,c6,e,hc 0 _ rfl,by rw [← add_field _ _ 1 (by omega)];exact hc 1 _ rfl,by rw [← add_field _ _ 2 (by omega)];exact hc 2 _ rfl,by rw [← add_field _ _ 3 (by omega)];exact hc 3 _ rfl,by rw [← add_field _ _ 4 (by omega)];exact hc 4 _ rfl,by rw [← add_field _ _ 5 (by omega)];exact hc 5 _ rfl,by rw [← add_field _ _ 6 (by omega)];exact hc 6 _ rfl,l4,g4,l5,g5,l6,g6⟩
def rd_L8 (xs:List (List S42)) (i:Int):(List S42):=xs.getD i.toNat ([]:List S42)
theorem at_L8 {w:World} {A:Option Addr} {n:Nat} {xs:List (List S42)} (h:Kd.C (Kd.slice 42 k42) w A n xs) (i:Int) (h0:0≤i) (h1:i < n):∃ ad A0 c0,A=some ad∧w.cell? (ad.add i.toNat)=some (.slice A0 (rd_L8 xs i).length c0)∧(rd_L8 xs i).length≤c0∧k42.C w A0 (rd_L8 xs i).length (rd_L8 xs i):=by
 obtain ⟨ad,c,e,_,hK,hc0⟩:=Kd.C_get h ([]:List S42) i h0 h1
 have hc:∀ j u,c[j]?=some u → w.cell? (ad.add (i.toNat * 1 + j))=some u:=hc0
 obtain ⟨A0,c0,rfl,l0,g0⟩:=hK
 exact ⟨ad,A0,c0,e,by have hq:=hc 0 _ rfl;rwa [Nat.mul_one,Nat.add_zero] at hq,l0,g0⟩
end Go.Proofs.Ytkhbmgclklmimaa.Print
end
section
namespace Go.Proofs.Ytkhbmgclklmimaa.Print
open Go.RowKit Go.Proofs.YtkhbmgclklmimaaW.PrintWords Go.Proofs.YtkhbmgclklmimaaW.PrintLast Go.Proofs.YtkhbmgclklmimaaW.PrintMore
attribute [local go_sem] max2_int min2_int max_two min_two max_three min_three max_four min_four   -- for this text's walks alone
attribute [local go_sem ↓] Go.Proofs.Ytkhbmgclklmimaa.Sem.isSome_setCell
attribute [local go_sem] Go.Instr.field Go.asAgg
set_option linter.unusedVariables false
set_option linter.unusedSimpArgs false
def mapjnl_seq.f (a0:Int):Option (Bool):=if a0 ≥ 0 then (some (decide (a0≤1152921504606846976))) else (some false)
set_option maxHeartbeats 8000000 in
set_option maxRecDepth 100000 in
theorem mapjnl_seq.calls (a0:Int) (r:Bool) (w:World) (h:mapjnl_seq.f a0=some r) :
  Calls Try.prog 55 #[.int .i64 a0] w fun e w'=>e=.returned (.bool r)∧Drawn0 w w':=by
 have H:(if a0 ≥ 0 then (some (decide (a0≤1152921504606846976))) else (some false))=some r:=h
 clear h
 by_cases c2:a0 ≥ 0
 ·rw [if_pos c2] at H
  have c2b0:decide (0≤a0)=true:=decide_eq_true c2
  clear c2
  obtain rfl:=Option.some.inj H
  go_enter Try.func55,Try.ntmps55
  go_wp2
  go_ret
  exact ⟨by first|rfl|(simp;done)|(simp [*];done),by repeat (first|exact Drawn0.refl _|apply Drawn0.step)⟩
 ·rw [if_neg c2] at H
  have c2b0:decide (0≤a0)=false:=decide_eq_false c2
  clear c2
  obtain rfl:=Option.some.inj H
  go_enter Try.func55,Try.ntmps55
  go_wp2
  go_ret
  exact ⟨by first|rfl|(simp;done)|(simp [*];done),by repeat (first|exact Drawn0.refl _|apply Drawn0.step)⟩
def mapjnl_worn.f (a0:Int):Option (Bool):=if a0 ≥ 0 then (some (decide (a0≤16777215))) else (some false)
set_option maxHeartbeats 8000000 in
set_option maxRecDepth 100000 in
theorem mapjnl_worn.calls (a0:Int) (r:Bool) (w:World) (h:mapjnl_worn.f a0=some r) :
  Calls Try.prog 58 #[.int .i64 a0] w fun e w'=>e=.returned (.bool r)∧Drawn0 w w':=by
 have H:(if a0 ≥ 0 then (some (decide (a0≤16777215))) else (some false))=some r:=h
 clear h
 by_cases c2:a0 ≥ 0
 ·rw [if_pos c2] at H
  have c2b0:decide (0≤a0)=true:=decide_eq_true c2
  clear c2
  obtain rfl:=Option.some.inj H
  go_enter Try.func58,Try.ntmps58
  go_wp2
  go_ret
  exact ⟨by first|rfl|(simp;done)|(simp [*];done),by repeat (first|exact Drawn0.refl _|apply Drawn0.step)⟩
 ·rw [if_neg c2] at H
  have c2b0:decide (0≤a0)=false:=decide_eq_false c2
  clear c2
  obtain rfl:=Option.some.inj H
  go_enter Try.func58,Try.ntmps58
  go_wp2
  go_ret
  exact ⟨by first|rfl|(simp;done)|(simp [*];done),by repeat (first|exact Drawn0.refl _|apply Drawn0.step)⟩
def mapjnl_record.j0:Nat → Bool → Int → Int → Int → Option (Bool)
 | 0,_,_,_,_=>none
 | k + 1,x3,x102000,x102001,x102002=>if x102000=1 then (if x3=true then (some (x102002 == 0)) else (some false)) else (if x102000=2 then (if x3=true then ((mapjnl_worn.f x102002).bind fun t102=>(some t102)) else (some false)) else (if x102000=3 then (if x102001=0 then ((mapjnl_seq.f x102002).bind fun t103=>(some t103)) else (some false)) else (some false)))
def mapjnl_record.f (k:Nat) (a0_0:Int) (a0_1:Int) (a0_2:Int):Option (Bool):=if a0_1 ≥ 0 then (mapjnl_record.j0 k (decide (a0_1 < 256)) a0_0 a0_1 a0_2) else (mapjnl_record.j0 k false a0_0 a0_1 a0_2)
theorem mapjnl_record.mono_l:∀ k,(∀ y0 y1 y2 y3,LeO (mapjnl_record.j0 k y0 y1 y2 y3) (mapjnl_record.j0 (k + 1) y0 y1 y2 y3))
 | 0=>fun _ _ _ _ r h=>by simp [mapjnl_record.j0] at h
 | k + 1=>by
  have ih0:=mapjnl_record.mono_l k
  ·intro y0 y1 y2 y3
   unfold mapjnl_record.j0
   repeat' first
   | (with_reducible exact ih0 _ _ _ _)
   | (with_reducible exact LeO.refl _)
   | (with_reducible exact LeO.none _)
   | (with_reducible refine LeO.ite ?_ ?_)
   | (with_reducible refine LeO.bind ?_ (fun _=>?_))
   | exact ih0 _ _ _ _
   | exact LeO.none _
   | refine LeO.ite ?_ ?_
   | refine LeO.bind ?_ (fun _=>?_)
theorem mapjnl_record.mono:∀ a0 a1 a2 k,LeO (mapjnl_record.f k a0 a1 a2) (mapjnl_record.f (k + 1) a0 a1 a2):=by
 intro a0 a1 a2 k
 have ih0:=mapjnl_record.mono_l k
 unfold mapjnl_record.f
 repeat' first
   | (with_reducible exact ih0 _ _ _ _)
   | (with_reducible exact LeO.refl _)
   | (with_reducible exact LeO.none _)
   | (with_reducible refine LeO.ite ?_ ?_)
   | (with_reducible refine LeO.bind ?_ (fun _=>?_))
   | exact ih0 _ _ _ _
   | exact LeO.none _
   | refine LeO.ite ?_ ?_
   | refine LeO.bind ?_ (fun _=>?_)
set_option maxHeartbeats 8000000 in
set_option maxRecDepth 100000 in
theorem mapjnl_record.calls (k:Nat) (a0_0:Int) (a0_1:Int) (a0_2:Int) (r:Bool) (w:World) (h:mapjnl_record.f k a0_0 a0_1 a0_2=some r) :
  Calls Try.prog 61 #[.agg #[.int .i64 a0_0,.int .i64 a0_1,.int .i64 a0_2]] w fun e w'=>e=.returned (.bool r)∧Below w.heap.size w w':=by
 have hu55:=Try.underlying55
 have HB:=zm (Below.refl w.heap.size w)
 have H:(if a0_1 ≥ 0 then (mapjnl_record.j0 k (decide (a0_1 < 256)) a0_0 a0_1 a0_2) else (mapjnl_record.j0 k false a0_0 a0_1 a0_2))=some r:=h
 clear h
 have HC2:=zm H
 clear H
 go_enter Try.func61,Try.ntmps61
 go_upto_region 1 with (first|((with_reducible refine gate_dst (N:=1) rfl ?_);refine zbx 1 #[.int .i64 a0_0,.int .i64 a0_1,.int .i64 a0_2] 55 ?_;intro gb101 hg w3 hbox hb;have n0_:=zkH HB hb;have n1_:=zm (hbox);have n2_:=zkG HB hg;have n3_:=zkG HB hg;clear HB;have HB:=n0_;have BK101:=n1_;have GW101:=n2_;have GE101:=n3_;clear n0_ n1_ n2_ n3_;clear hb hbox hg))
 (try simp only [Act.put,List.setIfInBounds_toArray,List.set_cons_zero,List.set_cons_succ])
 go_cut [3] (fun v3 wc=>∃ (kq:Nat) (x3_1:Bool),v3=.bool x3_1∧Aside0 (mapjnl_record.j0 kq x3_1 a0_0 a0_1 a0_2=some r)∧Aside0 (kq≤k)∧Aside0 (wc.heap[gb101]?=some (.cells #[.int .i64 a0_0,.int .i64 a0_1,.int .i64 a0_2] 55 (0,0)))∧Aside0 (Below w.heap.size w wc))
 case first =>
  have H:=HC2.out
  clear HC2
  by_cases c4:a0_1 ≥ 0
  ·rw [if_pos c4] at H
   have c4b0:decide (0≤a0_1)=true:=decide_eq_true c4
   clear c4
   (first|rw [c4b0]|(simp only [i64_w,i32_w];rw [c4b0])|skip)
   have H':=zm H
   clear H
   obtain ⟨hcz5_0,hcz5_1,hcz5_2,hfz5_0,hfz5_1,hfz5_2⟩:=zc3 BK101.out
   go_wp2
   go_meet
   case rel=>exact ⟨_,(decide (a0_1 < 256)),zs_,H',⟨by first|omega|exact Nat.le_refl _⟩,⟨zx_⟩,⟨zb_⟩⟩
  ·rw [if_neg c4] at H
   have c4b0:decide (0≤a0_1)=false:=decide_eq_false c4
   clear c4
   (first|rw [c4b0]|(simp only [i64_w,i32_w];rw [c4b0])|skip)
   have H':=zm H
   clear H
   obtain ⟨hcz6_0,hcz6_1,hcz6_2,hfz6_0,hfz6_1,hfz6_2⟩:=zc3 BK101.out
   go_wp2
   go_meet
   case rel=>exact ⟨_,(false),zs_,H',⟨by first|omega|exact Nat.le_refl _⟩,⟨zx_⟩,⟨zb_⟩⟩
 case rest =>
  clear HC2
  try clear p2
  try clear c4
  try clear c4b0
  try clear c6
  try clear hcz5_0
  try clear hcz5_1
  try clear hcz5_2
  try clear hcz6_0
  try clear hcz6_1
  try clear hcz6_2
  try clear hfz5_0
  try clear hfz5_1
  try clear hfz5_2
  try clear hfz6_0
  try clear hfz6_1
  try clear hfz6_2
  obtain ⟨kq,x3_1,rfl,HA,HJ1,BK101,HB⟩:=hcut
  cases kq with
  | zero=>exact absurd HA.out (by simp [mapjnl_record.j0])
  | succ kj1 =>
   have H:=HA.out
   clear HA
   simp only [mapjnl_record.j0] at H
   by_cases c7:a0_0=1
   ·rw [if_pos c7] at H
    have c7b0:(a0_0 == 1)=true:=beq_iff_eq.mpr c7
    have c7b1:(a0_0 != 1)=false:=bne_eq_false_iff_eq.mpr c7
    clear c7
    by_cases c8:x3_1=true
    ·subst c8
     have H1:(some (a0_2 == 0))=some r:=by rw [if_pos rfl] at H;exact H
     clear H
     have H:=H1
     clear H1
     obtain rfl:=Option.some.inj H
     obtain ⟨hcz9_0,hcz9_1,hcz9_2,hfz9_0,hfz9_1,hfz9_2⟩:=zc3 BK101.out
     go_wp2
     go_ret
     exact ⟨ze_,zb_⟩
    ·replace c8:=Bool.eq_false_iff.mpr c8
     subst c8
     have H1:(some false)=some r:=by rw [if_neg (show ¬ (false=true) by decide)] at H;exact H
     clear H
     have H:=H1
     clear H1
     obtain rfl:=Option.some.inj H
     obtain ⟨hcz10_0,hcz10_1,hcz10_2,hfz10_0,hfz10_1,hfz10_2⟩:=zc3 BK101.out
     go_wp2
     go_ret
     exact ⟨ze_,zb_⟩
   ·rw [if_neg c7] at H
    have c7b0:(a0_0 == 1)=false:=beq_eq_false_iff_ne.mpr c7
    have c7b1:(a0_0 != 1)=true:=bne_iff_ne.mpr c7
    by_cases c11:a0_0=2
    ·rw [if_pos c11] at H
     have c11b0:(a0_0 == 2)=true:=beq_iff_eq.mpr c11
     have c11b1:(a0_0 != 2)=false:=bne_eq_false_iff_eq.mpr c11
     clear c11
     by_cases c12:x3_1=true
     ·subst c12
      have H1:((mapjnl_worn.f a0_2).bind fun t102=>(some t102))=some r:=by rw [if_pos rfl] at H;exact H
      clear H
      have H:=H1
      clear H1
      replace H:=Option.bind_eq_some_iff.mp H
      obtain ⟨t102,A130,H⟩:=H
      replace H:(some t102)=some r:=H
      have A13:=zm A130
      clear A130
      obtain rfl:=Option.some.inj H
      obtain ⟨hcz14_0,hcz14_1,hcz14_2,hfz14_0,hfz14_1,hfz14_2⟩:=zc3 BK101.out
      go_wp2_with (first|(go_at_call 58;(with_reducible refine (mapjnl_worn.calls a0_2 t102 _ A13.out).mono ?_);rintro e w' ⟨rfl,⟨nd,rfl⟩⟩))
      go_ret
      exact ⟨ze_,zb_⟩
     ·replace c12:=Bool.eq_false_iff.mpr c12
      subst c12
      have H1:(some false)=some r:=by rw [if_neg (show ¬ (false=true) by decide)] at H;exact H
      clear H
      have H:=H1
      clear H1
      obtain rfl:=Option.some.inj H
      obtain ⟨hcz15_0,hcz15_1,hcz15_2,hfz15_0,hfz15_1,hfz15_2⟩:=zc3 BK101.out
      go_wp2
      go_ret
      exact ⟨ze_,zb_⟩
    ·rw [if_neg c11] at H
     have c11b0:(a0_0 == 2)=false:=beq_eq_false_iff_ne.mpr c11
     have c11b1:(a0_0 != 2)=true:=bne_iff_ne.mpr c11
     by_cases c16:a0_0=3
     ·rw [if_pos c16] at H
      have c16b0:(a0_0 == 3)=true:=beq_iff_eq.mpr c16
      have c16b1:(a0_0 != 3)=false:=bne_eq_false_iff_eq.mpr c16
      clear c16
      by_cases c17:a0_1=0
      ·rw [if_pos c17] at H
       have c17b0:(a0_1 == 0)=true:=beq_iff_eq.mpr c17
       have c17b1:(a0_1 != 0)=false:=bne_eq_false_iff_eq.mpr c17
       clear c17
       replace H:=Option.bind_eq_some_iff.mp H
       obtain ⟨t103,A180,H⟩:=H
       replace H:(some t103)=some r:=H
       have A18:=zm A180
       clear A180
       obtain rfl:=Option.some.inj H
       obtain ⟨hcz19_0,hcz19_1,hcz19_2,hfz19_0,hfz19_1,hfz19_2⟩:=zc3 BK101.out
       go_wp2_with (first|(go_at_call 55;(with_reducible refine (mapjnl_seq.calls a0_2 t103 _ A18.out).mono ?_);rintro e w' ⟨rfl,⟨nd,rfl⟩⟩))
       go_ret
       exact ⟨ze_,zb_⟩
      ·rw [if_neg c17] at H
       have c17b0:(a0_1 == 0)=false:=beq_eq_false_iff_ne.mpr c17
       have c17b1:(a0_1 != 0)=true:=bne_iff_ne.mpr c17
       obtain rfl:=Option.some.inj H
       obtain ⟨hcz20_0,hcz20_1,hcz20_2,hfz20_0,hfz20_1,hfz20_2⟩:=zc3 BK101.out
       go_wp2
       go_ret
       exact ⟨ze_,zb_⟩
     ·rw [if_neg c16] at H
      have c16b0:(a0_0 == 3)=false:=beq_eq_false_iff_ne.mpr c16
      have c16b1:(a0_0 != 3)=true:=bne_iff_ne.mpr c16
      obtain rfl:=Option.some.inj H
      obtain ⟨hcz21_0,hcz21_1,hcz21_2,hfz21_0,hfz21_1,hfz21_2⟩:=zc3 BK101.out
      go_wp2
      go_ret
      exact ⟨ze_,zb_⟩
def mapjnl_blocks.f (a0:Int):Option (Bool):=if a0 ≥ 16 then (some (decide (a0≤256))) else (some false)
set_option maxHeartbeats 8000000 in
set_option maxRecDepth 100000 in
theorem mapjnl_blocks.calls (a0:Int) (r:Bool) (w:World) (h:mapjnl_blocks.f a0=some r) :
  Calls Try.prog 49 #[.int .i64 a0] w fun e w'=>e=.returned (.bool r)∧Drawn0 w w':=by
 have H:(if a0 ≥ 16 then (some (decide (a0≤256))) else (some false))=some r:=h
 clear h
 by_cases c2:a0 ≥ 16
 ·rw [if_pos c2] at H
  have c2b0:decide (16≤a0)=true:=decide_eq_true c2
  clear c2
  obtain rfl:=Option.some.inj H
  go_enter Try.func49,Try.ntmps49
  go_wp2
  go_ret
  exact ⟨by first|rfl|(simp;done)|(simp [*];done),by repeat (first|exact Drawn0.refl _|apply Drawn0.step)⟩
 ·rw [if_neg c2] at H
  have c2b0:decide (16≤a0)=false:=decide_eq_false c2
  clear c2
  obtain rfl:=Option.some.inj H
  go_enter Try.func49,Try.ntmps49
  go_wp2
  go_ret
  exact ⟨by first|rfl|(simp;done)|(simp [*];done),by repeat (first|exact Drawn0.refl _|apply Drawn0.step)⟩
end Go.Proofs.Ytkhbmgclklmimaa.Print
end
section
namespace Go.Proofs.Ytkhbmgclklmimaa.Print
open Go.RowKit Go.Proofs.YtkhbmgclklmimaaW.PrintWords Go.Proofs.YtkhbmgclklmimaaW.PrintLast Go.Proofs.YtkhbmgclklmimaaW.PrintMore
attribute [local go_sem] max2_int min2_int max_two min_two max_three min_three max_four min_four   -- for this text's walks alone
attribute [local go_sem ↓] Go.Proofs.Ytkhbmgclklmimaa.Sem.isSome_setCell
attribute [local go_sem] Go.Instr.field Go.asAgg
set_option linter.unusedVariables false
set_option linter.unusedSimpArgs false
def mapjnl_Check_1.f (a0:Int):Option (Bool):=(mapjnl_worn.f a0).bind fun t119=>(some (!t119))
set_option maxHeartbeats 8000000 in
set_option maxRecDepth 100000 in
theorem mapjnl_Check_1.calls (a0:Int) (r:Bool) (w:World) (h:mapjnl_Check_1.f a0=some r) :
  Calls Try.prog 57 #[.int .i64 a0] w fun e w'=>e=.returned (.bool r)∧Drawn0 w w':=by
 have H:((mapjnl_worn.f a0).bind fun t119=>(some (!t119)))=some r:=h
 clear h
 replace H:=Option.bind_eq_some_iff.mp H
 obtain ⟨t119,A20,H⟩:=H
 replace H:(some (!t119))=some r:=H
 have A2:=zm A20
 clear A20
 obtain rfl:=Option.some.inj H
 go_enter Try.func57,Try.ntmps57
 go_wp2_with (first|((with_reducible refine gate_callee (f:=58) rfl ?_);refine goesL_ (some 4) rfl rfl Try.func58 (by kernel_rfl) rfl #[.int .i64 a0] rfl (by (try simp only [List.map_toArray,List.map_cons,List.map_nil]);first|done|rfl|(simp only [List.length_drop,List.length_take];rfl)) ?_;(with_reducible refine (mapjnl_worn.calls a0 t119 _ A2.out).mono ?_);rintro e w' ⟨rfl,⟨nd,rfl⟩⟩;refine ⟨_,rfl,?_⟩))
 go_ret
 exact ⟨by first|rfl|(simp;done)|(simp [*];done),by repeat (first|exact Drawn0.refl _|apply Drawn0.step)⟩
def slices_IndexFunc_int64_int64_57.l0:Nat → List Int → Int → Int → Option (Int)
 | 0,_,_,_=>none
 | k + 1,x0,x7,x8=>if x8 < x7 then (if 0≤x8 then (if x8 < (x0.length:Int) then ((mapjnl_Check_1.f (rd x0 x8)).bind fun t121=>(if t121=true then (some x8) else (slices_IndexFunc_int64_int64_57.l0 k x0 x7 (wrap64 (x8 + 1))))) else (none)) else (none)) else (some (-1))
def slices_IndexFunc_int64_int64_57.f (k:Nat) (l0:List Int) :Option (Int):=slices_IndexFunc_int64_int64_57.l0 k l0 (l0.length:Int) 0
theorem slices_IndexFunc_int64_int64_57.mono_l:∀ k,(∀ y0 y1 y2,LeO (slices_IndexFunc_int64_int64_57.l0 k y0 y1 y2) (slices_IndexFunc_int64_int64_57.l0 (k + 1) y0 y1 y2))
 | 0=>fun _ _ _ r h=>by simp [slices_IndexFunc_int64_int64_57.l0] at h
 | k + 1=>by
  have ih0:=slices_IndexFunc_int64_int64_57.mono_l k
  ·intro y0 y1 y2
   unfold slices_IndexFunc_int64_int64_57.l0
   repeat' first
   | (with_reducible exact ih0 _ _ _)
   | (with_reducible exact LeO.refl _)
   | (with_reducible exact LeO.none _)
   | (with_reducible refine LeO.ite ?_ ?_)
   | (with_reducible refine LeO.bind ?_ (fun _=>?_))
   | exact ih0 _ _ _
   | exact LeO.none _
   | refine LeO.ite ?_ ?_
   | refine LeO.bind ?_ (fun _=>?_)
theorem slices_IndexFunc_int64_int64_57.mono:∀ a0 k,LeO (slices_IndexFunc_int64_int64_57.f k a0) (slices_IndexFunc_int64_int64_57.f (k + 1) a0):=by
 intro a0 k
 have ih0:=slices_IndexFunc_int64_int64_57.mono_l k
 unfold slices_IndexFunc_int64_int64_57.f
 repeat' first
   | (with_reducible exact ih0 _ _ _)
   | (with_reducible exact LeO.refl _)
   | (with_reducible exact LeO.none _)
   | (with_reducible refine LeO.ite ?_ ?_)
   | (with_reducible refine LeO.bind ?_ (fun _=>?_))
   | exact ih0 _ _ _
   | exact LeO.none _
   | refine LeO.ite ?_ ?_
   | refine LeO.bind ?_ (fun _=>?_)
set_option maxHeartbeats 8000000 in
set_option maxRecDepth 100000 in
theorem slices_IndexFunc_int64_int64_57.calls (k:Nat) (A0:Option Addr) (c0:Nat) (l0:List Int)  (r:Int) (w:World) (hr0:Kd.C (Kd.int .i64) w A0 l0.length l0) (hc0:l0.length≤c0) (h:slices_IndexFunc_int64_int64_57.f k l0=some r) :
  Calls Try.prog 80 #[.slice A0 l0.length c0,.func (.func 57) #[] #[]] w fun e w'=>e=.returned (.int .i64 r)∧Below w.heap.size w w':=by
 have HR0:=zm hr0
 have HC0:=zm hc0
 clear hr0 hc0
 have HB:=zm (Below.refl w.heap.size w)
 have H:(slices_IndexFunc_int64_int64_57.l0 k l0 (l0.length:Int) 0)=some r:=h
 clear h
 have H':=zm H
 clear H
 go_enter Try.func80,Try.ntmps80
 go_wp2
 go_loopg [8] k (fun kq v8 w'=>∃ (x8_1:Int),v8=.int .i64 x8_1∧Aside0 (slices_IndexFunc_int64_int64_57.l0 kq l0 (l0.length:Int) x8_1=some r)∧Aside0 (kq≤k)∧Aside0 (Below w.heap.size w w'))
 case atStart=>exact ⟨(0),zs_,H',⟨Nat.le_refl _⟩,⟨zb_⟩⟩
 case round =>
  clear H'
  try clear p2
  obtain ⟨x8_1,rfl,HA,HK1,HB⟩:=hrel
  cases gk with
  | zero=>exact absurd HA.out (by simp [slices_IndexFunc_int64_int64_57.l0])
  | succ k1 =>
   have H:=HA.out
   clear HA
   simp only [slices_IndexFunc_int64_int64_57.l0] at H
   by_cases c3:x8_1 < (l0.length:Int)
   ·rw [if_pos c3] at H
    have c3b0:decide (x8_1 < (l0.length:Int))=true:=decide_eq_true c3
    clear c3
    by_cases c4:0≤x8_1
    ·rw [if_pos c4] at H
     have c4b0:decide (0≤x8_1)=true:=decide_eq_true c4
     clear c4
     by_cases c5:x8_1 < (l0.length:Int)
     ·rw [if_pos c5] at H
      have c5b0:decide (x8_1 < (l0.length:Int))=true:=decide_eq_true c5
      clear c5
      replace H:=Option.bind_eq_some_iff.mp H
      obtain ⟨t121,A60,H⟩:=H
      replace H:(if t121=true then (some x8_1) else (slices_IndexFunc_int64_int64_57.l0 k1 l0 (l0.length:Int) (wrap64 (x8_1 + 1))))=some r:=H
      have A6:=zm A60
      clear A60
      by_cases c7:t121=true
      ·subst c7
       have H1:(some x8_1)=some r:=by rw [if_pos rfl] at H;exact H
       clear H
       have H:=H1
       clear H1
       obtain rfl:=Option.some.inj H
       have p120:0≤(x8_1:Int):=za_
       have q120:x8_1 < (l0.length:Int):=za_
       obtain ⟨ad120,e120,hx120_0⟩:=Kd.at_int HR0.out x8_1 p120 q120
       cases e120
       replace hx120_0:=zhx HB hx120_0
       replace p120:=eq_true p120
       replace q120:=eq_true q120
       go_wp2_with (first|(go_at_call 57;(with_reducible refine (mapjnl_Check_1.calls  (rd l0 x8_1) true _ A6.out).mono ?_);rintro e w' ⟨rfl,⟨nd,rfl⟩⟩))
       go_ret
       exact ⟨ze_,zb_⟩
      ·replace c7:=Bool.eq_false_iff.mpr c7
       subst c7
       have H1:(slices_IndexFunc_int64_int64_57.l0 k1 l0 (l0.length:Int) (wrap64 (x8_1 + 1)))=some r:=by rw [if_neg (show ¬ (false=true) by decide)] at H;exact H
       clear H
       have H:=H1
       clear H1
       have H':=zm H
       clear H
       have p120:0≤(x8_1:Int):=za_
       have q120:x8_1 < (l0.length:Int):=za_
       obtain ⟨ad120,e120,hx120_0⟩:=Kd.at_int HR0.out x8_1 p120 q120
       cases e120
       replace hx120_0:=zhx HB hx120_0
       replace p120:=eq_true p120
       replace q120:=eq_true q120
       go_wp2_with (first|(go_at_call 57;(with_reducible refine (mapjnl_Check_1.calls  (rd l0 x8_1) false _ A6.out).mono ?_);rintro e w' ⟨rfl,⟨nd,rfl⟩⟩))
       go_roundg k1
       case measure=>have:=HK1.out;omega
       case rel=>exact ⟨(wrap64 (x8_1 + 1)),zs_,H',⟨by have:=HK1.out;omega⟩,⟨zb_⟩⟩
     ·rw [if_neg c5] at H
      exact absurd H (by simp)
    ·rw [if_neg c4] at H
     exact absurd H (by simp)
   ·rw [if_neg c3] at H
    have c3b0:decide (x8_1 < (l0.length:Int))=false:=decide_eq_false c3
    clear c3
    obtain rfl:=Option.some.inj H
    go_wp2
    go_ret
    exact ⟨ze_,zb_⟩
end Go.Proofs.Ytkhbmgclklmimaa.Print
end
section
namespace Go.Proofs.Ytkhbmgclklmimaa.Print
open Go.RowKit Go.Proofs.YtkhbmgclklmimaaW.PrintWords Go.Proofs.YtkhbmgclklmimaaW.PrintLast Go.Proofs.YtkhbmgclklmimaaW.PrintMore
attribute [local go_sem] max2_int min2_int max_two min_two max_three min_three max_four min_four   -- for this text's walks alone
attribute [local go_sem ↓] Go.Proofs.Ytkhbmgclklmimaa.Sem.isSome_setCell
attribute [local go_sem] Go.Instr.field Go.asAgg
set_option linter.unusedVariables false
set_option linter.unusedSimpArgs false
def slices_ContainsFunc_int64_int64_57.f (k:Nat) (l0:List Int) :Option (Bool):=(slices_IndexFunc_int64_int64_57.f k l0).bind fun t122=>(some (decide (t122 ≥ 0)))
theorem slices_ContainsFunc_int64_int64_57.mono:∀ a0 k,LeO (slices_ContainsFunc_int64_int64_57.f k a0) (slices_ContainsFunc_int64_int64_57.f (k + 1) a0):=by
 intro a0 k
 unfold slices_ContainsFunc_int64_int64_57.f
 repeat' first
   | (with_reducible exact slices_IndexFunc_int64_int64_57.mono _ _)
   | (with_reducible exact LeO.refl _)
   | (with_reducible exact LeO.none _)
   | (with_reducible refine LeO.ite ?_ ?_)
   | (with_reducible refine LeO.bind ?_ (fun _=>?_))
   | exact slices_IndexFunc_int64_int64_57.mono _ _
   | exact LeO.none _
   | refine LeO.ite ?_ ?_
   | refine LeO.bind ?_ (fun _=>?_)
set_option maxHeartbeats 8000000 in
set_option maxRecDepth 100000 in
theorem slices_ContainsFunc_int64_int64_57.calls (k:Nat) (A0:Option Addr) (c0:Nat) (l0:List Int)  (r:Bool) (w:World) (hr0:Kd.C (Kd.int .i64) w A0 l0.length l0) (hc0:l0.length≤c0) (h:slices_ContainsFunc_int64_int64_57.f k l0=some r) :
  Calls Try.prog 56 #[.slice A0 l0.length c0,.func (.func 57) #[] #[]] w fun e w'=>e=.returned (.bool r)∧Below w.heap.size w w':=by
 have HR0:=zm hr0
 have HC0:=zm hc0
 clear hr0 hc0
 have HB:=zm (Below.refl w.heap.size w)
 have H:((slices_IndexFunc_int64_int64_57.f k l0).bind fun t122=>(some (decide (t122 ≥ 0))))=some r:=h
 clear h
 replace H:=Option.bind_eq_some_iff.mp H
 obtain ⟨t122,A30,H⟩:=H
 replace H:(some (decide (t122 ≥ 0)))=some r:=H
 have A3:=zm A30
 clear A30
 obtain rfl:=Option.some.inj H
 go_enter Try.func56,Try.ntmps56
 go_wp2_with (first|((with_reducible refine gate_callee (f:=80) rfl ?_);refine goesL_ (some 7) rfl rfl Try.func80 (by kernel_rfl) rfl #[.slice A0 l0.length c0,.func (.func 57) #[] #[]] rfl (by (try simp only [List.map_toArray,List.map_cons,List.map_nil]);first|done|rfl|(simp only [List.length_drop,List.length_take];rfl)) ?_;(with_reducible refine (slices_IndexFunc_int64_int64_57.calls k _ _ l0  t122 _ ?side1 ?side2 A3.out).mono ?_);(case side1=>repeat (first|exact HR0.out|(with_reducible refine Kd.C_alloc ?_ _)|(with_reducible refine Kd.C_drewN ?_ _)|(with_reducible refine Kd.C_drew ?_)));(case side2=>exact HC0.out);rintro e w4 ⟨rfl,hb⟩;refine ⟨_,rfl,?_⟩;have n0_:=zkH HB hb;clear HB;have HB:=n0_;clear n0_;(try clear hb);(try clear hb2);(try clear hk);(try clear hi)))
 go_ret
 exact ⟨ze_,zb_⟩
def mapjnl_Check.f (k:Nat) (l0_0:List Bool) (l0_1:List Int) (a0_2:Int):Option (Int):=(mapjnl_blocks.f (l0_0.length:Int)).bind fun t124=>(if t124=true then (if (l0_1.length:Int)=(l0_0.length:Int) then ((mapjnl_seq.f a0_2).bind fun t125=>(if t125=true then ((slices_ContainsFunc_int64_int64_57.f k l0_1).bind fun t126=>(if t126=true then (some 60) else (some 0))) else (some 60))) else (some 60)) else (some 60))
theorem mapjnl_Check.mono:∀ a0 a1 a2 k,LeO (mapjnl_Check.f k a0 a1 a2) (mapjnl_Check.f (k + 1) a0 a1 a2):=by
 intro a0 a1 a2 k
 unfold mapjnl_Check.f
 repeat' first
   | (with_reducible exact slices_ContainsFunc_int64_int64_57.mono _ _)
   | (with_reducible exact LeO.refl _)
   | (with_reducible exact LeO.none _)
   | (with_reducible refine LeO.ite ?_ ?_)
   | (with_reducible refine LeO.bind ?_ (fun _=>?_))
   | exact slices_ContainsFunc_int64_int64_57.mono _ _
   | exact LeO.none _
   | refine LeO.ite ?_ ?_
   | refine LeO.bind ?_ (fun _=>?_)
set_option maxHeartbeats 8000000 in
set_option maxRecDepth 100000 in
theorem mapjnl_Check.calls (k:Nat) (A0_0:Option Addr) (c0_0:Nat) (l0_0:List Bool) (A0_1:Option Addr) (c0_1:Nat) (l0_1:List Int) (a0_2:Int) (r:Int) (w:World) (hr0_0:Kd.C Kd.bool w A0_0 l0_0.length l0_0) (hc0_0:l0_0.length≤c0_0) (hr0_1:Kd.C (Kd.int .i64) w A0_1 l0_1.length l0_1) (hc0_1:l0_1.length≤c0_1) (h:mapjnl_Check.f k l0_0 l0_1 a0_2=some r) :
  Calls Try.prog 17 #[.agg #[.slice A0_0 l0_0.length c0_0,.slice A0_1 l0_1.length c0_1,.int .i64 a0_2]] w fun e w'=>e=.returned (.int .i64 r)∧Below w.heap.size w w':=by
 have hu25:=Try.underlying25
 have HR0_0:=zm hr0_0
 have HC0_0:=zm hc0_0
 clear hr0_0 hc0_0
 have HR0_1:=zm hr0_1
 have HC0_1:=zm hc0_1
 clear hr0_1 hc0_1
 have HB:=zm (Below.refl w.heap.size w)
 have H:((mapjnl_blocks.f (l0_0.length:Int)).bind fun t124=>(if t124=true then (if (l0_1.length:Int)=(l0_0.length:Int) then ((mapjnl_seq.f a0_2).bind fun t125=>(if t125=true then ((slices_ContainsFunc_int64_int64_57.f k l0_1).bind fun t126=>(if t126=true then (some 60) else (some 0))) else (some 60))) else (some 60)) else (some 60)))=some r:=h
 clear h
 replace H:=Option.bind_eq_some_iff.mp H
 obtain ⟨t124,A20,H⟩:=H
 replace H:(if t124=true then (if (l0_1.length:Int)=(l0_0.length:Int) then ((mapjnl_seq.f a0_2).bind fun t125=>(if t125=true then ((slices_ContainsFunc_int64_int64_57.f k l0_1).bind fun t126=>(if t126=true then (some 60) else (some 0))) else (some 60))) else (some 60)) else (some 60))=some r:=H
 have A2:=zm A20
 clear A20
 by_cases c3:t124=true
 ·subst c3
  have H1:(if (l0_1.length:Int)=(l0_0.length:Int) then ((mapjnl_seq.f a0_2).bind fun t125=>(if t125=true then ((slices_ContainsFunc_int64_int64_57.f k l0_1).bind fun t126=>(if t126=true then (some 60) else (some 0))) else (some 60))) else (some 60))=some r:=by rw [if_pos rfl] at H;exact H
  clear H
  have H:=H1
  clear H1
  by_cases c4:(l0_1.length:Int)=(l0_0.length:Int)
  ·rw [if_pos c4] at H
   have c4b0:((l0_1.length:Int) == (l0_0.length:Int))=true:=beq_iff_eq.mpr c4
   have c4b1:((l0_1.length:Int) != (l0_0.length:Int))=false:=bne_eq_false_iff_eq.mpr c4
   have c4b2:(l0_1.length == l0_0.length)=true:=by first|simpa using c4|(simp at c4 ⊢;omega)
   clear c4
   replace H:=Option.bind_eq_some_iff.mp H
   obtain ⟨t125,A50,H⟩:=H
   replace H:(if t125=true then ((slices_ContainsFunc_int64_int64_57.f k l0_1).bind fun t126=>(if t126=true then (some 60) else (some 0))) else (some 60))=some r:=H
   have A5:=zm A50
   clear A50
   by_cases c6:t125=true
   ·subst c6
    have H1:((slices_ContainsFunc_int64_int64_57.f k l0_1).bind fun t126=>(if t126=true then (some 60) else (some 0)))=some r:=by rw [if_pos rfl] at H;exact H
    clear H
    have H:=H1
    clear H1
    replace H:=Option.bind_eq_some_iff.mp H
    obtain ⟨t126,A70,H⟩:=H
    replace H:(if t126=true then (some 60) else (some 0))=some r:=H
    have A7:=zm A70
    clear A70
    by_cases c8:t126=true
    ·subst c8
     have H1:(some 60)=some r:=by rw [if_pos rfl] at H;exact H
     clear H
     have H:=H1
     clear H1
     obtain rfl:=Option.some.inj H
     go_enter Try.func17,Try.ntmps17
     go_wp2_with (first|((with_reducible refine gate_dst (N:=1) rfl ?_);(try (refine gate_guard (by rfl) ?_;dsimp only));refine zbx 1 #[.slice A0_0 l0_0.length c0_0,.slice A0_1 l0_1.length c0_1,.int .i64 a0_2] 25 ?_;intro gb123 hg w9 hbox hb;have n0_:=zkH HB hb;have n1_:=zm (hbox);have n2_:=zkG HB hg;have n3_:=zkG HB hg;clear HB;have HB:=n0_;have BK123:=n1_;have GW123:=n2_;have GE123:=n3_;clear n0_ n1_ n2_ n3_;clear hb hbox hg;obtain ⟨hcz10_0,hcz10_1,hcz10_2,hfz10_0,hfz10_1,hfz10_2⟩:=zc3 BK123.out)|((with_reducible refine gate_callee (f:=49) rfl ?_);refine goesL_ (some 6) rfl rfl Try.func49 (by kernel_rfl) rfl #[.int .i64 (l0_0.length:Int)] rfl (by (try simp only [List.map_toArray,List.map_cons,List.map_nil]);first|done|rfl|(simp only [List.length_drop,List.length_take];rfl)) ?_;(with_reducible refine (mapjnl_blocks.calls (l0_0.length:Int) true _ A2.out).mono ?_);rintro e w' ⟨rfl,⟨nd,rfl⟩⟩;refine ⟨_,rfl,?_⟩)|(go_at_call 55;(with_reducible refine (mapjnl_seq.calls a0_2 true _ A5.out).mono ?_);rintro e w' ⟨rfl,⟨nd,rfl⟩⟩)|(go_at_call 56;(with_reducible refine (slices_ContainsFunc_int64_int64_57.calls k _ _ l0_1  true _ ?side1 ?side2 A7.out).mono ?_);(case side1=>repeat (first|exact (Kd.C_below HR0_1.out (zb_))|(with_reducible refine Kd.C_alloc ?_ _)|(with_reducible refine Kd.C_drewN ?_ _)|(with_reducible refine Kd.C_drew ?_)));(case side2=>exact HC0_1.out);rintro e w11 ⟨rfl,hb⟩;have n0_:=zkB BK123 hb;have n1_:=zkH HB hb;clear BK123 HB;have BK123:=n0_;have HB:=n1_;clear n0_ n1_;(try clear hb);(try clear hb2);(try clear hk);(try clear hi)))
     go_ret
     exact ⟨ze_,zb_⟩
    ·replace c8:=Bool.eq_false_iff.mpr c8
     subst c8
     have H1:(some 0)=some r:=by rw [if_neg (show ¬ (false=true) by decide)] at H;exact H
     clear H
     have H:=H1
     clear H1
     obtain rfl:=Option.some.inj H
     go_enter Try.func17,Try.ntmps17
     go_wp2_with (first|((with_reducible refine gate_dst (N:=1) rfl ?_);(try (refine gate_guard (by rfl) ?_;dsimp only));refine zbx 1 #[.slice A0_0 l0_0.length c0_0,.slice A0_1 l0_1.length c0_1,.int .i64 a0_2] 25 ?_;intro gb123 hg w12 hbox hb;have n0_:=zkH HB hb;have n1_:=zm (hbox);have n2_:=zkG HB hg;have n3_:=zkG HB hg;clear HB;have HB:=n0_;have BK123:=n1_;have GW123:=n2_;have GE123:=n3_;clear n0_ n1_ n2_ n3_;clear hb hbox hg;obtain ⟨hcz13_0,hcz13_1,hcz13_2,hfz13_0,hfz13_1,hfz13_2⟩:=zc3 BK123.out)|((with_reducible refine gate_callee (f:=49) rfl ?_);refine goesL_ (some 6) rfl rfl Try.func49 (by kernel_rfl) rfl #[.int .i64 (l0_0.length:Int)] rfl (by (try simp only [List.map_toArray,List.map_cons,List.map_nil]);first|done|rfl|(simp only [List.length_drop,List.length_take];rfl)) ?_;(with_reducible refine (mapjnl_blocks.calls (l0_0.length:Int) true _ A2.out).mono ?_);rintro e w' ⟨rfl,⟨nd,rfl⟩⟩;refine ⟨_,rfl,?_⟩)|(go_at_call 55;(with_reducible refine (mapjnl_seq.calls a0_2 true _ A5.out).mono ?_);rintro e w' ⟨rfl,⟨nd,rfl⟩⟩)|(go_at_call 56;(with_reducible refine (slices_ContainsFunc_int64_int64_57.calls k _ _ l0_1  false _ ?side1 ?side2 A7.out).mono ?_);(case side1=>repeat (first|exact (Kd.C_below HR0_1.out (zb_))|(with_reducible refine Kd.C_alloc ?_ _)|(with_reducible refine Kd.C_drewN ?_ _)|(with_reducible refine Kd.C_drew ?_)));(case side2=>exact HC0_1.out);rintro e w14 ⟨rfl,hb⟩;have n0_:=zkB BK123 hb;have n1_:=zkH HB hb;clear BK123 HB;have BK123:=n0_;have HB:=n1_;clear n0_ n1_;(try clear hb);(try clear hb2);(try clear hk);(try clear hi)))
     go_ret
     exact ⟨ze_,zb_⟩
   ·replace c6:=Bool.eq_false_iff.mpr c6
    subst c6
    have H1:(some 60)=some r:=by rw [if_neg (show ¬ (false=true) by decide)] at H;exact H
    clear H
    have H:=H1
    clear H1
    obtain rfl:=Option.some.inj H
    go_enter Try.func17,Try.ntmps17
    go_wp2_with (first|((with_reducible refine gate_dst (N:=1) rfl ?_);(try (refine gate_guard (by rfl) ?_;dsimp only));refine zbx 1 #[.slice A0_0 l0_0.length c0_0,.slice A0_1 l0_1.length c0_1,.int .i64 a0_2] 25 ?_;intro gb123 hg w15 hbox hb;have n0_:=zkH HB hb;have n1_:=zm (hbox);have n2_:=zkG HB hg;have n3_:=zkG HB hg;clear HB;have HB:=n0_;have BK123:=n1_;have GW123:=n2_;have GE123:=n3_;clear n0_ n1_ n2_ n3_;clear hb hbox hg;obtain ⟨hcz16_0,hcz16_1,hcz16_2,hfz16_0,hfz16_1,hfz16_2⟩:=zc3 BK123.out)|((with_reducible refine gate_callee (f:=49) rfl ?_);refine goesL_ (some 6) rfl rfl Try.func49 (by kernel_rfl) rfl #[.int .i64 (l0_0.length:Int)] rfl (by (try simp only [List.map_toArray,List.map_cons,List.map_nil]);first|done|rfl|(simp only [List.length_drop,List.length_take];rfl)) ?_;(with_reducible refine (mapjnl_blocks.calls (l0_0.length:Int) true _ A2.out).mono ?_);rintro e w' ⟨rfl,⟨nd,rfl⟩⟩;refine ⟨_,rfl,?_⟩)|(go_at_call 55;(with_reducible refine (mapjnl_seq.calls a0_2 false _ A5.out).mono ?_);rintro e w' ⟨rfl,⟨nd,rfl⟩⟩))
    go_ret
    exact ⟨ze_,zb_⟩
  ·rw [if_neg c4] at H
   have c4b0:((l0_1.length:Int) == (l0_0.length:Int))=false:=beq_eq_false_iff_ne.mpr c4
   have c4b1:((l0_1.length:Int) != (l0_0.length:Int))=true:=bne_iff_ne.mpr c4
   have c4b2:(l0_1.length == l0_0.length)=false:=by first|simpa using c4|(simp at c4 ⊢;omega)
   obtain rfl:=Option.some.inj H
   go_enter Try.func17,Try.ntmps17
   go_wp2_with (first|((with_reducible refine gate_dst (N:=1) rfl ?_);(try (refine gate_guard (by rfl) ?_;dsimp only));refine zbx 1 #[.slice A0_0 l0_0.length c0_0,.slice A0_1 l0_1.length c0_1,.int .i64 a0_2] 25 ?_;intro gb123 hg w17 hbox hb;have n0_:=zkH HB hb;have n1_:=zm (hbox);have n2_:=zkG HB hg;have n3_:=zkG HB hg;clear HB;have HB:=n0_;have BK123:=n1_;have GW123:=n2_;have GE123:=n3_;clear n0_ n1_ n2_ n3_;clear hb hbox hg;obtain ⟨hcz18_0,hcz18_1,hcz18_2,hfz18_0,hfz18_1,hfz18_2⟩:=zc3 BK123.out)|((with_reducible refine gate_callee (f:=49) rfl ?_);refine goesL_ (some 6) rfl rfl Try.func49 (by kernel_rfl) rfl #[.int .i64 (l0_0.length:Int)] rfl (by (try simp only [List.map_toArray,List.map_cons,List.map_nil]);first|done|rfl|(simp only [List.length_drop,List.length_take];rfl)) ?_;(with_reducible refine (mapjnl_blocks.calls (l0_0.length:Int) true _ A2.out).mono ?_);rintro e w' ⟨rfl,⟨nd,rfl⟩⟩;refine ⟨_,rfl,?_⟩))
   go_ret
   exact ⟨ze_,zb_⟩
 ·replace c3:=Bool.eq_false_iff.mpr c3
  subst c3
  have H1:(some 60)=some r:=by rw [if_neg (show ¬ (false=true) by decide)] at H;exact H
  clear H
  have H:=H1
  clear H1
  obtain rfl:=Option.some.inj H
  go_enter Try.func17,Try.ntmps17
  go_wp2_with (first|((with_reducible refine gate_dst (N:=1) rfl ?_);(try (refine gate_guard (by rfl) ?_;dsimp only));refine zbx 1 #[.slice A0_0 l0_0.length c0_0,.slice A0_1 l0_1.length c0_1,.int .i64 a0_2] 25 ?_;intro gb123 hg w19 hbox hb;have n0_:=zkH HB hb;have n1_:=zm (hbox);have n2_:=zkG HB hg;have n3_:=zkG HB hg;clear HB;have HB:=n0_;have BK123:=n1_;have GW123:=n2_;have GE123:=n3_;clear n0_ n1_ n2_ n3_;clear hb hbox hg;obtain ⟨hcz20_0,hcz20_1,hcz20_2,hfz20_0,hfz20_1,hfz20_2⟩:=zc3 BK123.out)|((with_reducible refine gate_callee (f:=49) rfl ?_);refine goesL_ (some 6) rfl rfl Try.func49 (by kernel_rfl) rfl #[.int .i64 (l0_0.length:Int)] rfl (by (try simp only [List.map_toArray,List.map_cons,List.map_nil]);first|done|rfl|(simp only [List.length_drop,List.length_take];rfl)) ?_;(with_reducible refine (mapjnl_blocks.calls (l0_0.length:Int) false _ A2.out).mono ?_);rintro e w' ⟨rfl,⟨nd,rfl⟩⟩;refine ⟨_,rfl,?_⟩))
  go_ret
  exact ⟨ze_,zb_⟩
def mapjnl_both.j0:Nat → Bool → List Bool → List Int → Int → List Bool → List Int → Int → Option (Int)
 | 0,_,_,_,_,_,_,_=>none
 | k + 1,x5,x128000,x128001,x128002,x129000,x129001,x129002=>if x5=true then (some 60) else (if (x128000.length:Int)=(x129000.length:Int) then (some 0) else (some 1))
def mapjnl_both.f (k:Nat) (l0_0:List Bool) (l0_1:List Int) (a0_2:Int) (l1_0:List Bool) (l1_1:List Int) (a1_2:Int):Option (Int):=(mapjnl_Check.f k l0_0 l0_1 a0_2).bind fun t129=>(if t129=0 then ((mapjnl_Check.f k l1_0 l1_1 a1_2).bind fun t130=>(mapjnl_both.j0 k (t130 != 0) l0_0 l0_1 a0_2 l1_0 l1_1 a1_2)) else (mapjnl_both.j0 k true l0_0 l0_1 a0_2 l1_0 l1_1 a1_2))
theorem mapjnl_both.mono_l:∀ k,(∀ y0 y1 y2 y3 y4 y5 y6,LeO (mapjnl_both.j0 k y0 y1 y2 y3 y4 y5 y6) (mapjnl_both.j0 (k + 1) y0 y1 y2 y3 y4 y5 y6))
 | 0=>fun _ _ _ _ _ _ _ r h=>by simp [mapjnl_both.j0] at h
 | k + 1=>by
  have ih0:=mapjnl_both.mono_l k
  ·intro y0 y1 y2 y3 y4 y5 y6
   unfold mapjnl_both.j0
   repeat' first
   | (with_reducible exact ih0 _ _ _ _ _ _ _)
   | (with_reducible exact mapjnl_Check.mono _ _ _ _)
   | (with_reducible exact LeO.refl _)
   | (with_reducible exact LeO.none _)
   | (with_reducible refine LeO.ite ?_ ?_)
   | (with_reducible refine LeO.bind ?_ (fun _=>?_))
   | exact ih0 _ _ _ _ _ _ _
   | exact mapjnl_Check.mono _ _ _ _
   | exact LeO.none _
   | refine LeO.ite ?_ ?_
   | refine LeO.bind ?_ (fun _=>?_)
theorem mapjnl_both.mono:∀ a0 a1 a2 a3 a4 a5 k,LeO (mapjnl_both.f k a0 a1 a2 a3 a4 a5) (mapjnl_both.f (k + 1) a0 a1 a2 a3 a4 a5):=by
 intro a0 a1 a2 a3 a4 a5 k
 have ih0:=mapjnl_both.mono_l k
 unfold mapjnl_both.f
 repeat' first
   | (with_reducible exact ih0 _ _ _ _ _ _ _)
   | (with_reducible exact mapjnl_Check.mono _ _ _ _)
   | (with_reducible exact LeO.refl _)
   | (with_reducible exact LeO.none _)
   | (with_reducible refine LeO.ite ?_ ?_)
   | (with_reducible refine LeO.bind ?_ (fun _=>?_))
   | exact ih0 _ _ _ _ _ _ _
   | exact mapjnl_Check.mono _ _ _ _
   | exact LeO.none _
   | refine LeO.ite ?_ ?_
   | refine LeO.bind ?_ (fun _=>?_)
set_option maxHeartbeats 8000000 in
set_option maxRecDepth 100000 in
theorem mapjnl_both.calls (k:Nat) (A0_0:Option Addr) (c0_0:Nat) (l0_0:List Bool) (A0_1:Option Addr) (c0_1:Nat) (l0_1:List Int) (a0_2:Int) (A1_0:Option Addr) (c1_0:Nat) (l1_0:List Bool) (A1_1:Option Addr) (c1_1:Nat) (l1_1:List Int) (a1_2:Int) (r:Int) (w:World) (hr0_0:Kd.C Kd.bool w A0_0 l0_0.length l0_0) (hc0_0:l0_0.length≤c0_0) (hr0_1:Kd.C (Kd.int .i64) w A0_1 l0_1.length l0_1) (hc0_1:l0_1.length≤c0_1) (hr1_0:Kd.C Kd.bool w A1_0 l1_0.length l1_0) (hc1_0:l1_0.length≤c1_0) (hr1_1:Kd.C (Kd.int .i64) w A1_1 l1_1.length l1_1) (hc1_1:l1_1.length≤c1_1) (h:mapjnl_both.f k l0_0 l0_1 a0_2 l1_0 l1_1 a1_2=some r) :
  Calls Try.prog 50 #[.agg #[.slice A0_0 l0_0.length c0_0,.slice A0_1 l0_1.length c0_1,.int .i64 a0_2],.agg #[.slice A1_0 l1_0.length c1_0,.slice A1_1 l1_1.length c1_1,.int .i64 a1_2]] w fun e w'=>e=.returned (.int .i64 r)∧Below w.heap.size w w':=by
 have hu25:=Try.underlying25
 have HR0_0:=zm hr0_0
 have HC0_0:=zm hc0_0
 clear hr0_0 hc0_0
 have HR0_1:=zm hr0_1
 have HC0_1:=zm hc0_1
 clear hr0_1 hc0_1
 have HR1_0:=zm hr1_0
 have HC1_0:=zm hc1_0
 clear hr1_0 hc1_0
 have HR1_1:=zm hr1_1
 have HC1_1:=zm hc1_1
 clear hr1_1 hc1_1
 have HB:=zm (Below.refl w.heap.size w)
 have H:((mapjnl_Check.f k l0_0 l0_1 a0_2).bind fun t129=>(if t129=0 then ((mapjnl_Check.f k l1_0 l1_1 a1_2).bind fun t130=>(mapjnl_both.j0 k (t130 != 0) l0_0 l0_1 a0_2 l1_0 l1_1 a1_2)) else (mapjnl_both.j0 k true l0_0 l0_1 a0_2 l1_0 l1_1 a1_2)))=some r:=h
 clear h
 have HC3:=zm H
 clear H
 go_enter Try.func50,Try.ntmps50
 go_upto_region 1 with (first|((with_reducible refine gate_dst (N:=2) rfl ?_);refine zbx 2 #[.slice A0_0 l0_0.length c0_0,.slice A0_1 l0_1.length c0_1,.int .i64 a0_2] 25 ?_;intro gb127 hg w4 hbox hb;have n0_:=zkH HB hb;have n1_:=zm (hbox);have n2_:=zkG HB hg;have n3_:=zkG HB hg;clear HB;have HB:=n0_;have BK127:=n1_;have GW127:=n2_;have GE127:=n3_;clear n0_ n1_ n2_ n3_;clear hb hbox hg)|((with_reducible refine gate_dst (N:=3) rfl ?_);refine zbx 3 #[.slice A1_0 l1_0.length c1_0,.slice A1_1 l1_1.length c1_1,.int .i64 a1_2] 25 ?_;intro gb128 hg w5 hbox hb;have n0_:=zkB BK127 hb;have n1_:=zkH HB hb;have n2_:=zm (hbox);have n3_:=zkG HB hg;have n4_:=zkG HB hg;have n5_:=zkN BK127 hg;have n6_:=zkM BK127 hg;clear BK127 HB;have BK127:=n0_;have HB:=n1_;have BK128:=n2_;have GW128:=n3_;have GE128:=n4_;have NB127_128:=n5_;have NB128_127:=n6_;clear n0_ n1_ n2_ n3_ n4_ n5_ n6_;clear hb hbox hg))
 (try simp only [Act.put,List.setIfInBounds_toArray,List.set_cons_zero,List.set_cons_succ])
 go_cut [5] (fun v5 wc=>∃ (kq:Nat) (x5_2:Bool),v5=.bool x5_2∧Aside0 (mapjnl_both.j0 kq x5_2 l0_0 l0_1 a0_2 l1_0 l1_1 a1_2=some r)∧Aside0 (kq≤k)∧Aside0 (wc.heap[gb127]?=some (.cells #[(.slice A0_0 l0_0.length c0_0),(.slice A0_1 l0_1.length c0_1),.int .i64 a0_2] 25 (0,0)))∧Aside0 (wc.heap[gb128]?=some (.cells #[(.slice A1_0 l1_0.length c1_0),(.slice A1_1 l1_1.length c1_1),.int .i64 a1_2] 25 (0,0)))∧Aside0 (Below w.heap.size w wc))
 case first =>
  have H:=HC3.out
  clear HC3
  replace H:=Option.bind_eq_some_iff.mp H
  obtain ⟨t129,A60,H⟩:=H
  replace H:(if t129=0 then ((mapjnl_Check.f k l1_0 l1_1 a1_2).bind fun t130=>(mapjnl_both.j0 k (t130 != 0) l0_0 l0_1 a0_2 l1_0 l1_1 a1_2)) else (mapjnl_both.j0 k true l0_0 l0_1 a0_2 l1_0 l1_1 a1_2))=some r:=H
  have A6:=zm A60
  clear A60
  by_cases c7:t129=0
  ·rw [if_pos c7] at H
   have c7b0:(t129 == 0)=true:=beq_iff_eq.mpr c7
   have c7b1:(t129 != 0)=false:=bne_eq_false_iff_eq.mpr c7
   clear c7
   (first|rw [c7b0]|(simp only [i64_w,i32_w];rw [c7b0])|skip)
   replace H:=Option.bind_eq_some_iff.mp H
   obtain ⟨t130,A80,H⟩:=H
   replace H:(mapjnl_both.j0 k (t130 != 0) l0_0 l0_1 a0_2 l1_0 l1_1 a1_2)=some r:=H
   have A8:=zm A80
   clear A80
   have H':=zm H
   clear H
   have hnb9:=NB127_128.out
   have hnc9:=NB128_127.out
   obtain ⟨hcz10_0,hcz10_1,hcz10_2,hfz10_0,hfz10_1,hfz10_2⟩:=zc3 BK127.out
   go_wp2_with (first|((with_reducible refine gate_callee (f:=17) rfl ?_);refine goesL_ (some 7) rfl rfl Try.func17 (by kernel_rfl) rfl #[.agg #[.slice A0_0 l0_0.length c0_0,.slice A0_1 l0_1.length c0_1,.int .i64 a0_2]] rfl (by (try simp only [List.map_toArray,List.map_cons,List.map_nil]);first|done|rfl|(simp only [List.length_drop,List.length_take];rfl)) ?_;(with_reducible refine (mapjnl_Check.calls k _ _ l0_0 _ _ l0_1 a0_2 t129 _ ?side1 ?side2 ?side3 ?side4 A6.out).mono ?_);(case side1=>exact zC HR0_0);(case side2=>exact HC0_0.out);(case side3=>exact zC HR0_1);(case side4=>exact HC0_1.out);rintro e w11 ⟨rfl,hb⟩;refine ⟨_,rfl,?_⟩;have n0_:=zkB BK127 hb;have n1_:=zkB BK128 hb;have n2_:=zkH HB hb;clear BK127 BK128 HB;have BK127:=n0_;have BK128:=n1_;have HB:=n2_;clear n0_ n1_ n2_;(try clear hb);(try clear hb2);(try clear hk);(try clear hi);obtain ⟨hcz12_0,hcz12_1,hcz12_2,hfz12_0,hfz12_1,hfz12_2⟩:=zc3 BK128.out)|(go_at_call 17;(with_reducible refine (mapjnl_Check.calls k _ _ l1_0 _ _ l1_1 a1_2 t130 _ ?side1 ?side2 ?side3 ?side4 A8.out).mono ?_);(case side1=>exact zC HR1_0);(case side2=>exact HC1_0.out);(case side3=>exact zC HR1_1);(case side4=>exact HC1_1.out);rintro e w13 ⟨rfl,hb⟩;have n0_:=zkB BK127 hb;have n1_:=zkB BK128 hb;have n2_:=zkH HB hb;clear BK127 BK128 HB;have BK127:=n0_;have BK128:=n1_;have HB:=n2_;clear n0_ n1_ n2_;(try clear hb);(try clear hb2);(try clear hk);(try clear hi)))
   go_meet
   case rel=>exact ⟨_,((t130 != 0)),zs_,H',⟨by first|omega|exact Nat.le_refl _⟩,⟨zx_⟩,⟨zx_⟩,⟨zb_⟩⟩
  ·rw [if_neg c7] at H
   have c7b0:(t129 == 0)=false:=beq_eq_false_iff_ne.mpr c7
   have c7b1:(t129 != 0)=true:=bne_iff_ne.mpr c7
   (first|rw [c7b0]|(simp only [i64_w,i32_w];rw [c7b0])|skip)
   have H':=zm H
   clear H
   have hnb14:=NB127_128.out
   have hnc14:=NB128_127.out
   obtain ⟨hcz15_0,hcz15_1,hcz15_2,hfz15_0,hfz15_1,hfz15_2⟩:=zc3 BK127.out
   go_wp2_with (first|((with_reducible refine gate_callee (f:=17) rfl ?_);refine goesL_ (some 7) rfl rfl Try.func17 (by kernel_rfl) rfl #[.agg #[.slice A0_0 l0_0.length c0_0,.slice A0_1 l0_1.length c0_1,.int .i64 a0_2]] rfl (by (try simp only [List.map_toArray,List.map_cons,List.map_nil]);first|done|rfl|(simp only [List.length_drop,List.length_take];rfl)) ?_;(with_reducible refine (mapjnl_Check.calls k _ _ l0_0 _ _ l0_1 a0_2 t129 _ ?side1 ?side2 ?side3 ?side4 A6.out).mono ?_);(case side1=>exact zC HR0_0);(case side2=>exact HC0_0.out);(case side3=>exact zC HR0_1);(case side4=>exact HC0_1.out);rintro e w16 ⟨rfl,hb⟩;refine ⟨_,rfl,?_⟩;have n0_:=zkB BK127 hb;have n1_:=zkB BK128 hb;have n2_:=zkH HB hb;clear BK127 BK128 HB;have BK127:=n0_;have BK128:=n1_;have HB:=n2_;clear n0_ n1_ n2_;(try clear hb);(try clear hb2);(try clear hk);(try clear hi)))
   go_meet
   case rel=>exact ⟨_,(true),zs_,H',⟨by first|omega|exact Nat.le_refl _⟩,⟨zx_⟩,⟨zx_⟩,⟨zb_⟩⟩
 case rest =>
  clear HC3
  try clear c1
  try clear p2
  try clear c5
  try clear c7
  try clear c7b0
  try clear c7b1
  try clear c9
  try clear c14
  try clear hcz10_0
  try clear hcz10_1
  try clear hcz10_2
  try clear hcz12_0
  try clear hcz12_1
  try clear hcz12_2
  try clear hcz15_0
  try clear hcz15_1
  try clear hcz15_2
  try clear hfz10_0
  try clear hfz10_1
  try clear hfz10_2
  try clear hfz12_0
  try clear hfz12_1
  try clear hfz12_2
  try clear hfz15_0
  try clear hfz15_1
  try clear hfz15_2
  obtain ⟨kq,x5_2,rfl,HA,HJ2,BK127,BK128,HB⟩:=hcut
  cases kq with
  | zero=>exact absurd HA.out (by simp [mapjnl_both.j0])
  | succ kj2 =>
   have H:=HA.out
   clear HA
   simp only [mapjnl_both.j0] at H
   by_cases c17:x5_2=true
   ·subst c17
    have H1:(some 60)=some r:=by rw [if_pos rfl] at H;exact H
    clear H
    have H:=H1
    clear H1
    obtain rfl:=Option.some.inj H
    go_wp2
    go_ret
    exact ⟨ze_,zb_⟩
   ·replace c17:=Bool.eq_false_iff.mpr c17
    subst c17
    have H1:(if (l0_0.length:Int)=(l1_0.length:Int) then (some 0) else (some 1))=some r:=by rw [if_neg (show ¬ (false=true) by decide)] at H;exact H
    clear H
    have H:=H1
    clear H1
    by_cases c18:(l0_0.length:Int)=(l1_0.length:Int)
    ·rw [if_pos c18] at H
     have c18b0:((l0_0.length:Int) == (l1_0.length:Int))=true:=beq_iff_eq.mpr c18
     have c18b1:((l0_0.length:Int) != (l1_0.length:Int))=false:=bne_eq_false_iff_eq.mpr c18
     have c18b2:(l0_0.length == l1_0.length)=true:=by first|simpa using c18|(simp at c18 ⊢;omega)
     clear c18
     obtain rfl:=Option.some.inj H
     have hnb19:=NB127_128.out
     have hnc19:=NB128_127.out
     obtain ⟨hcz20_0,hcz20_1,hcz20_2,hfz20_0,hfz20_1,hfz20_2⟩:=zc3 BK127.out
     obtain ⟨hcz21_0,hcz21_1,hcz21_2,hfz21_0,hfz21_1,hfz21_2⟩:=zc3 BK128.out
     go_wp2
     go_ret
     exact ⟨ze_,zb_⟩
    ·rw [if_neg c18] at H
     have c18b0:((l0_0.length:Int) == (l1_0.length:Int))=false:=beq_eq_false_iff_ne.mpr c18
     have c18b1:((l0_0.length:Int) != (l1_0.length:Int))=true:=bne_iff_ne.mpr c18
     have c18b2:(l0_0.length == l1_0.length)=false:=by first|simpa using c18|(simp at c18 ⊢;omega)
     obtain rfl:=Option.some.inj H
     have hnb22:=NB127_128.out
     have hnc22:=NB128_127.out
     obtain ⟨hcz23_0,hcz23_1,hcz23_2,hfz23_0,hfz23_1,hfz23_2⟩:=zc3 BK127.out
     obtain ⟨hcz24_0,hcz24_1,hcz24_2,hfz24_0,hfz24_1,hfz24_2⟩:=zc3 BK128.out
     go_wp2
     go_ret
     exact ⟨ze_,zb_⟩
end Go.Proofs.Ytkhbmgclklmimaa.Print
end
section
namespace Go.Proofs.Ytkhbmgclklmimaa.Print
open Go.RowKit Go.Proofs.YtkhbmgclklmimaaW.PrintWords Go.Proofs.YtkhbmgclklmimaaW.PrintLast Go.Proofs.YtkhbmgclklmimaaW.PrintMore
attribute [local go_sem] max2_int min2_int max_two min_two max_three min_three max_four min_four   -- for this text's walks alone
attribute [local go_sem ↓] Go.Proofs.Ytkhbmgclklmimaa.Sem.isSome_setCell
attribute [local go_sem] Go.Instr.field Go.asAgg
set_option linter.unusedVariables false
set_option linter.unusedSimpArgs false
def slices_Clone_bool_bool.f (l0:List Bool):Option (List Bool):=(some (([]:List Bool):List Bool)).bind fun y131=>(if y131.length + l0.length < 140737488355328 then (some (y131 ++ l0)) else (none))
set_option maxHeartbeats 8000000 in
set_option maxRecDepth 100000 in
theorem slices_Clone_bool_bool.calls_some (a0:Addr) (c0:Nat) (l0:List Bool) (r:List Bool) (w:World) (hr0:Kd.C Kd.bool w (some a0) l0.length l0) (hc0:l0.length≤c0) (h:slices_Clone_bool_bool.f l0=some r) :
  Calls Try.prog 66 #[.slice (some a0) l0.length c0] w fun e w'=>∃ v0_:Value,e=.returned (v0_)∧Kd.R Kd.bool 4 w' w.heap.size (fun _=>True) v0_ r∧Below w.heap.size w w':=by
 have HR0:=zm hr0
 have HC0:=zm hc0
 clear hr0 hc0
 have HB:=zm (Below.refl w.heap.size w)
 have H:((some (([]:List Bool):List Bool)).bind fun y131=>(if y131.length + l0.length < 140737488355328 then (some (y131 ++ l0)) else (none)))=some r:=h
 clear h
 obtain ⟨y131,hy131⟩:∃ y_:List Bool,y_=(([]:List Bool)):=⟨_,rfl⟩
 replace H:(if y131.length + l0.length < 140737488355328 then (some (y131 ++ l0)) else (none))=some r:=by first|(rw [hy131];with_reducible exact H)|(have H2_:=(Option.bind_some _ _).symm.trans H;rw [hy131];with_reducible exact H2_)|(have H2_:=(Option.bind_some _ _).symm.trans H;with_reducible exact H2_)|with_reducible exact H|(rw [hy131];exact H)|exact H
 have Ny131:=zm hy131
 clear hy131
 by_cases c2:y131.length + l0.length < 140737488355328
 ·rw [if_pos c2] at H
  have LMc2:=zm c2
  clear c2
  obtain ⟨y134,hy134⟩:∃ y_:List Bool,y_=(y131 ++ l0):=⟨_,rfl⟩
  replace H:(some y134)=some r:=by first|(rw [hy134];with_reducible exact H)|(have H2_:=(Option.bind_some _ _).symm.trans H;rw [hy134];with_reducible exact H2_)|(have H2_:=(Option.bind_some _ _).symm.trans H;with_reducible exact H2_)|with_reducible exact H|(rw [hy134];exact H)|exact H
  have Ny134:=zm hy134
  clear hy134
  obtain rfl:=Option.some.inj H
  have hq_:=Lib.run_eql_slice_nil (P:=Try.prog) w 22 4 (some a0) l0.length c0 0 0 Try.underlying22
  go_enter Try.func66,Try.ntmps66
  go_wp2_with (first|((with_reducible refine gate_dst (N:=5) rfl ?_);refine Kd.R_lit Kd.bool _ 4 ?hg (N:=5) ?hd (xs:=([]:List Bool)) (inner:=[]) (ok:=fun _=>True) (okp:=fun _=>True) ?hr ?hp (fun _ hk=>hk) trivial (Below.refl _ _) (Nat.le_refl _) (by simp) ?_;(case hd=>rfl);(case hg=>rfl);(case hr=>first|(go_simp;done)|(go_simp;rfl));(case hp=>exact (Reps.none _ _));intro v132 w3 ho4 hb hg_ hnew_;clear hg_ hnew_;(first|rw [← Ny131.out] at ho4|(simp only [Int.reduceToNat] at ho4;rw [← Ny131.out] at ho4));have n0_:=zm (Kd.R_lower ho4 (below_size (zb_)));have n1_:=zkH HB hb;clear HB;have HO133:=n0_;have HB:=n1_;clear n0_ n1_;clear hb ho4)|((with_reducible refine gate_builtin (b:=.append) (xs:=#[.tmp 5,.tmp 6]) rfl ?_);at_builtin;refine Kd.R_append_rows Kd.bool (w0:=w) w.heap.size rfl (.tmp 5) (.tmp 6) 22 4 (.bool false) 1 rfl Try.underlying22 info4 rfl (by decide) (by omega) v132 y131 l0 _ _ _ (fun _=>True) (fun _=>False) rfl rfl ?aO ?aR (fun _ _ h=>h) (fun _ h=>h.elim) ?aF ?aB ?aS ?aL ?_;(case aR=>exact zC HR0);(case aB=>exact (zb_));(case aF=>exact (fun _ _=>trivial));(case aO=>exact (by (with_reducible repeat (first|apply zrA|apply zrN|apply zrD));exact HO133.out));(case aS=>exact (below_size (zb_)));(case aL=>have:=LMc2.out;omega);intro v135 w5 ho hb hg hat;rw [← Ny134.out] at ho;have n0_:=zm (hb);have n1_:=zm (ho);clear HB HO133;have HB:=n0_;have HO136:=n1_;clear n0_ n1_;clear ho hb hg hat))
  go_ret
  exact ⟨_,ze_,by (with_reducible repeat (first|apply zrA|apply zrN|apply zrD));exact HO136.out,zb_⟩
 ·rw [if_neg c2] at H
  exact absurd H (by simp)
theorem slices_Clone_bool_bool.calls (A0:Option Addr) (c0:Nat) (l0:List Bool) (r:List Bool) (w:World) (hr0:Kd.C Kd.bool w A0 l0.length l0) (hc0:l0.length≤c0) (h:slices_Clone_bool_bool.f l0=some r) :
  Calls Try.prog 66 #[.slice A0 l0.length c0] w fun e w'=>∃ v0_:Value,e=.returned (v0_)∧Kd.R Kd.bool 4 w' w.heap.size (fun _=>True) v0_ r∧Below w.heap.size w w':=by
 rcases A0 with _|a0
 ·have hl:l0=[]:=by
   rcases l0 with _|⟨x,l⟩
   ·rfl
   ·obtain ⟨ad,he,_⟩:=hr0.2.2 (by simp)
    cases he
  subst hl
  have hrr:r=[]:=by
   have h2:slices_Clone_bool_bool.f []=some []:=by first|decide|rfl|(simp [slices_Clone_bool_bool.f];done)
   rw [h2] at h
   exact (Option.some.inj h).symm
  subst hrr
  have HB:=zm (Below.refl w.heap.size w)
  clear h hr0 hc0
  have hq_:=Lib.run_eql_slice_nil (P:=Try.prog) w 22 4 none 0 c0 0 0 Try.underlying22
  go_enter Try.func66,Try.ntmps66
  go_wp2
  go_ret
  exact ⟨_,rfl,Kd.R_nil _ _ _ _ _,HB.out⟩
 ·exact slices_Clone_bool_bool.calls_some a0 c0 l0 r w hr0 hc0 h
def slices_Clone_int64_int64.f (l0:List Int):Option (List Int):=(some (([]:List Int):List Int)).bind fun y137=>(if y137.length + l0.length < 17592186044416 then (some (y137 ++ l0)) else (none))
set_option maxHeartbeats 8000000 in
set_option maxRecDepth 100000 in
theorem slices_Clone_int64_int64.calls_some (a0:Addr) (c0:Nat) (l0:List Int) (r:List Int) (w:World) (hr0:Kd.C (Kd.int .i64) w (some a0) l0.length l0) (hc0:l0.length≤c0) (h:slices_Clone_int64_int64.f l0=some r) :
  Calls Try.prog 67 #[.slice (some a0) l0.length c0] w fun e w'=>∃ v0_:Value,e=.returned (v0_)∧Kd.R (Kd.int .i64) 2 w' w.heap.size (fun _=>True) v0_ r∧Below w.heap.size w w':=by
 have HR0:=zm hr0
 have HC0:=zm hc0
 clear hr0 hc0
 have HB:=zm (Below.refl w.heap.size w)
 have H:((some (([]:List Int):List Int)).bind fun y137=>(if y137.length + l0.length < 17592186044416 then (some (y137 ++ l0)) else (none)))=some r:=h
 clear h
 obtain ⟨y137,hy137⟩:∃ y_:List Int,y_=(([]:List Int)):=⟨_,rfl⟩
 replace H:(if y137.length + l0.length < 17592186044416 then (some (y137 ++ l0)) else (none))=some r:=by first|(rw [hy137];with_reducible exact H)|(have H2_:=(Option.bind_some _ _).symm.trans H;rw [hy137];with_reducible exact H2_)|(have H2_:=(Option.bind_some _ _).symm.trans H;with_reducible exact H2_)|with_reducible exact H|(rw [hy137];exact H)|exact H
 have Ny137:=zm hy137
 clear hy137
 by_cases c2:y137.length + l0.length < 17592186044416
 ·rw [if_pos c2] at H
  have LMc2:=zm c2
  clear c2
  obtain ⟨y140,hy140⟩:∃ y_:List Int,y_=(y137 ++ l0):=⟨_,rfl⟩
  replace H:(some y140)=some r:=by first|(rw [hy140];with_reducible exact H)|(have H2_:=(Option.bind_some _ _).symm.trans H;rw [hy140];with_reducible exact H2_)|(have H2_:=(Option.bind_some _ _).symm.trans H;with_reducible exact H2_)|with_reducible exact H|(rw [hy140];exact H)|exact H
  have Ny140:=zm hy140
  clear hy140
  obtain rfl:=Option.some.inj H
  have hq_:=Lib.run_eql_slice_nil (P:=Try.prog) w 23 2 (some a0) l0.length c0 0 0 Try.underlying23
  go_enter Try.func67,Try.ntmps67
  go_wp2_with (first|((with_reducible refine gate_dst (N:=5) rfl ?_);refine Kd.R_lit (Kd.int .i64) _ 2 ?hg (N:=5) ?hd (xs:=([]:List Int)) (inner:=[]) (ok:=fun _=>True) (okp:=fun _=>True) ?hr ?hp (fun _ hk=>hk) trivial (Below.refl _ _) (Nat.le_refl _) (by simp) ?_;(case hd=>rfl);(case hg=>rfl);(case hr=>first|(go_simp;done)|(go_simp;rfl));(case hp=>exact (Reps.none _ _));intro v138 w3 ho4 hb hg_ hnew_;clear hg_ hnew_;(first|rw [← Ny137.out] at ho4|(simp only [Int.reduceToNat] at ho4;rw [← Ny137.out] at ho4));have n0_:=zm (Kd.R_lower ho4 (below_size (zb_)));have n1_:=zkH HB hb;clear HB;have HO139:=n0_;have HB:=n1_;clear n0_ n1_;clear hb ho4)|((with_reducible refine gate_builtin (b:=.append) (xs:=#[.tmp 5,.tmp 6]) rfl ?_);at_builtin;refine Kd.R_append_rows (Kd.int .i64) (w0:=w) w.heap.size rfl (.tmp 5) (.tmp 6) 23 2 (.int .i64 0) 8 rfl Try.underlying23 info2 rfl (by decide) (by omega) v138 y137 l0 _ _ _ (fun _=>True) (fun _=>False) rfl rfl ?aO ?aR (fun _ _ h=>h) (fun _ h=>h.elim) ?aF ?aB ?aS ?aL ?_;(case aR=>exact zC HR0);(case aB=>exact (zb_));(case aF=>exact (fun _ _=>trivial));(case aO=>exact (by (with_reducible repeat (first|apply zrA|apply zrN|apply zrD));exact HO139.out));(case aS=>exact (below_size (zb_)));(case aL=>have:=LMc2.out;omega);intro v141 w5 ho hb hg hat;rw [← Ny140.out] at ho;have n0_:=zm (hb);have n1_:=zm (ho);clear HB HO139;have HB:=n0_;have HO142:=n1_;clear n0_ n1_;clear ho hb hg hat))
  go_ret
  exact ⟨_,ze_,by (with_reducible repeat (first|apply zrA|apply zrN|apply zrD));exact HO142.out,zb_⟩
 ·rw [if_neg c2] at H
  exact absurd H (by simp)
theorem slices_Clone_int64_int64.calls (A0:Option Addr) (c0:Nat) (l0:List Int) (r:List Int) (w:World) (hr0:Kd.C (Kd.int .i64) w A0 l0.length l0) (hc0:l0.length≤c0) (h:slices_Clone_int64_int64.f l0=some r) :
  Calls Try.prog 67 #[.slice A0 l0.length c0] w fun e w'=>∃ v0_:Value,e=.returned (v0_)∧Kd.R (Kd.int .i64) 2 w' w.heap.size (fun _=>True) v0_ r∧Below w.heap.size w w':=by
 rcases A0 with _|a0
 ·have hl:l0=[]:=by
   rcases l0 with _|⟨x,l⟩
   ·rfl
   ·obtain ⟨ad,he,_⟩:=hr0.2.2 (by simp)
    cases he
  subst hl
  have hrr:r=[]:=by
   have h2:slices_Clone_int64_int64.f []=some []:=by first|decide|rfl|(simp [slices_Clone_int64_int64.f];done)
   rw [h2] at h
   exact (Option.some.inj h).symm
  subst hrr
  have HB:=zm (Below.refl w.heap.size w)
  clear h hr0 hc0
  have hq_:=Lib.run_eql_slice_nil (P:=Try.prog) w 23 2 none 0 c0 0 0 Try.underlying23
  go_enter Try.func67,Try.ntmps67
  go_wp2
  go_ret
  exact ⟨_,rfl,Kd.R_nil _ _ _ _ _,HB.out⟩
 ·exact slices_Clone_int64_int64.calls_some a0 c0 l0 r w hr0 hc0 h
def mapjnl_clone.f (l0_0:List Bool) (l0_1:List Int) (a0_2:Int):Option (List Bool × List Int × Int):=(slices_Clone_bool_bool.f l0_0).bind fun t145=>((slices_Clone_int64_int64.f l0_1).bind fun t148=>(some (t145,t148,a0_2)))
def mapjnl_clone.T1:Bool × List (List Nat × List Nat):=(true,[([],[]),([0],[0]),([1],[1]),([],[]),([3],[3]),([4,2],[4]),([],[]),([6],[6]),([2,5,7],[2,5,7]),([8,5,0,1,2,3,4,5,6,7,8],[8])])
def mapjnl_clone.B1:List Nat:=[0,1,3,0,8,31,0,64,255,511]
theorem mapjnl_clone.tab1:rtab .any (opsOf Try.f51 1)=mapjnl_clone.T1:=by kernel_rfl
theorem mapjnl_clone.bits1:waitsOk mapjnl_clone.T1.2 mapjnl_clone.B1=true:=by kernel_rfl
set_option maxHeartbeats 8000000 in
set_option maxRecDepth 100000 in
theorem mapjnl_clone.calls (A0_0:Option Addr) (c0_0:Nat) (l0_0:List Bool) (A0_1:Option Addr) (c0_1:Nat) (l0_1:List Int) (a0_2:Int) (r1:List Bool) (r2:List Int) (r3:Int) (w:World) (hr0_0:Kd.C Kd.bool w A0_0 l0_0.length l0_0) (hc0_0:l0_0.length≤c0_0) (hr0_1:Kd.C (Kd.int .i64) w A0_1 l0_1.length l0_1) (hc0_1:l0_1.length≤c0_1) (h:mapjnl_clone.f l0_0 l0_1 a0_2=some (r1,r2,r3)) :
  Calls Try.prog 51 #[.agg #[.slice A0_0 l0_0.length c0_0,.slice A0_1 l0_1.length c0_1,.int .i64 a0_2]] w fun e w'=>∃ v0_ v1_:Value,e=.returned (.agg #[v0_,v1_,.int .i64 r3])∧Kd.R Kd.bool 4 w' w.heap.size (fun _=>True) v0_ r1∧Kd.R (Kd.int .i64) 2 w' w.heap.size (fun _=>True) v1_ r2∧Below w.heap.size w w':=by
 have hu25:=Try.underlying25
 have HR0_0:=zm hr0_0
 have HC0_0:=zm hc0_0
 clear hr0_0 hc0_0
 have HR0_1:=zm hr0_1
 have HC0_1:=zm hc0_1
 clear hr0_1 hc0_1
 have HB:=zm (Below.refl w.heap.size w)
 have H:((slices_Clone_bool_bool.f l0_0).bind fun t145=>((slices_Clone_int64_int64.f l0_1).bind fun t148=>(some (t145,t148,a0_2))))=some (r1,r2,r3):=h
 clear h
 replace H:=Option.bind_eq_some_iff.mp H
 obtain ⟨t145,A20,H⟩:=H
 replace H:((slices_Clone_int64_int64.f l0_1).bind fun t148=>(some (t145,t148,a0_2)))=some (r1,r2,r3):=H
 have A2:=zm A20
 clear A20
 replace H:=Option.bind_eq_some_iff.mp H
 obtain ⟨t148,A30,H⟩:=H
 replace H:(some (t145,t148,a0_2))=some (r1,r2,r3):=H
 have A3:=zm A30
 clear A30
 simp only [Option.some.injEq,Prod.mk.injEq] at H
 obtain ⟨rfl,rfl,rfl⟩:=H
 go_enter Try.func51,Try.ntmps51
 try go_wp2_with (first|((with_reducible refine gate_dst (N:=1) rfl ?_);refine zbx 1 #[.slice A0_0 l0_0.length c0_0,.slice A0_1 l0_1.length c0_1,.int .i64 a0_2] 25 ?_;intro gb143 hg w4 hbox hb;have n0_:=zkH HB hb;have n1_:=zm (hbox);have n2_:=zkG HB hg;have n3_:=zkG HB hg;clear HB;have HB:=n0_;have BK143:=n1_;have GW143:=n2_;have GE143:=n3_;clear n0_ n1_ n2_ n3_;clear hb hbox hg)|((with_reducible refine gate_dst (N:=2) rfl ?_);refine zbx 2 #[.slice none 0 0,.slice none 0 0,.int .i64 0] 25 ?_;intro gb144 hg w5 hbox hb;have n0_:=zkB BK143 hb;have n1_:=zkH HB hb;have n2_:=zm (hbox);have n3_:=zkG HB hg;have n4_:=zkG HB hg;have n5_:=zkN BK143 hg;have n6_:=zkM BK143 hg;clear BK143 HB;have BK143:=n0_;have HB:=n1_;have BK144:=n2_;have GW144:=n3_;have GE144:=n4_;have NB143_144:=n5_;have NB144_143:=n6_;clear n0_ n1_ n2_ n3_ n4_ n5_ n6_;clear hb hbox hg))
 have n0_:=zm (zbD BK143.out)
 have n1_:=zm (zbD BK144.out)
 have n2_:=zm (zlD HB.out)
 clear BK143 BK144 HB
 have BK143:=n0_
 have BK144:=n1_
 have HB:=n2_
 clear n0_ n1_ n2_
 refine start_ (n:=10) (S:=fun w'=>w'.cell? ⟨gb143,0,none⟩=some (.slice A0_0 l0_0.length c0_0)∧w'.cell? ⟨gb143,1,none⟩=some (.slice A0_1 l0_1.length c0_1)∧w'.cell? ⟨gb143,2,none⟩=some (.int .i64 a0_2)) (ds:=[]) (Array.replicate 10 false) (by kernel_rfl) rfl rfl ⟨(blk_cell BK143.out 0).trans rfl,(blk_cell BK143.out 1).trans rfl,(blk_cell BK143.out 2).trans rfl⟩ (fun hHeld=>?_);refine with_tabW mapjnl_clone.tab1 mapjnl_clone.bits1 (fun HT_ HW_=>?_)
 generalize w5.drew=w6 at BK143 BK144 HB hHeld ⊢
 refine zpu 0 ?_
 refine zpu 3 ?_
 refine zpu 6 ?_
 refine zta 1 hHeld ?_
 refine zta 4 hHeld ?_
 refine zta 7 hHeld ?_
 refine zon 2 (some 5) (fun K hK=>?_)
 refine zgo Try.func66 #[.slice A0_0 l0_0.length c0_0] ?_
 with_reducible refine (slices_Clone_bool_bool.calls _ _ l0_0 t145 _ ?side1 ?side2 A2.out).mono ?_
 (case side1=>exact zC HR0_0)
 (case side2=>exact HC0_0.out)
 rintro e w7 ⟨v146,rfl,ho0,hb⟩
 refine ⟨_,rfl,?_⟩
 have n0_:=zm (Kd.R_lower ho0 (below_size (zb_)))
 have n1_:=zkB BK143 hb
 have n2_:=zkB BK144 hb
 have n3_:=zkH HB hb
 clear BK143 BK144 HB
 have HO147:=n0_
 have BK143:=n1_
 have BK144:=n2_
 have HB:=n3_
 clear n0_ n1_ n2_ n3_
 (try clear hb)
 (try clear hb2)
 (try clear hk)
 (try clear hi)
 (try clear ho0)
 refine hK.out _ _ ⟨(blk_cell BK143.out 0).trans rfl,(blk_cell BK143.out 1).trans rfl,(blk_cell BK143.out 2).trans rfl⟩ (fun hHeld=>?_)
 clear hK K
 refine znm (some 5) ?_
 refine zon 5 (some 8) (fun K hK=>?_)
 refine zgo Try.func67 #[.slice A0_1 l0_1.length c0_1] ?_
 with_reducible refine (slices_Clone_int64_int64.calls _ _ l0_1 t148 _ ?side1 ?side2 A3.out).mono ?_
 (case side1=>exact zC HR0_1)
 (case side2=>exact HC0_1.out)
 rintro e w8 ⟨v149,rfl,ho0,hb⟩
 refine ⟨_,rfl,?_⟩
 have n0_:=zm (Kd.R_below (by (with_reducible repeat (first|apply zrA|apply zrN|apply zrD));exact HO147.out) hb)
 have n1_:=zm (Kd.R_lower ho0 (below_size (zb_)))
 have n2_:=zkB BK143 hb
 have n3_:=zkB BK144 hb
 have n4_:=zkH HB hb
 clear HO147 BK143 BK144 HB
 have HO147:=n0_
 have HO150:=n1_
 have BK143:=n2_
 have BK144:=n3_
 have HB:=n4_
 clear n0_ n1_ n2_ n3_ n4_
 (try clear hb)
 (try clear hb2)
 (try clear hk)
 (try clear hi)
 (try clear ho0)
 obtain ⟨Ao9,co9,eo9⟩:=Kd.R_slice HO150.out
 (first|subst eo9|(injection eo9 with f1_ f2_ f3_;have f4_:=f1_.symm;have f5_:=f3_.symm;clear f1_ f2_ f3_;subst f4_;subst f5_))
 obtain ⟨Ao10,co10,eo10⟩:=Kd.R_slice HO147.out
 (first|subst eo10|(injection eo10 with f1_ f2_ f3_;have f4_:=f1_.symm;have f5_:=f3_.symm;clear f1_ f2_ f3_;subst f4_;subst f5_))
 refine hK.out _ _ ⟨(blk_cell BK143.out 0).trans rfl,(blk_cell BK143.out 1).trans rfl,(blk_cell BK143.out 2).trans rfl⟩ (fun hHeld=>?_)
 clear hK K
 refine znm (some 8) ?_
 refine zpu 8 ?_
 refine zon 9 none (fun K hK=>?_)
 have hs11:w8.cell? ⟨gb144,0,none⟩=some (.slice none 0 0):=(blk_cell BK144.out 0).trans rfl
 have hfs11:=blk_frozen BK144.out 0
 have hns11_0:=NB143_144.out
 have hms11_0:=NB144_143.out
 have hs12:w8.cell? ⟨gb144,1,none⟩=some (.slice none 0 0):=(blk_cell BK144.out 1).trans rfl
 have hfs12:=blk_frozen BK144.out 1
 have hns12_0:=NB143_144.out
 have hms12_0:=NB144_143.out
 have hs13:w8.cell? ⟨gb144,2,none⟩=some (.int .i64 0):=(blk_cell BK144.out 2).trans rfl
 have hfs13:=blk_frozen BK144.out 2
 have hns13_0:=NB143_144.out
 have hms13_0:=NB144_143.out
 refine skip_ (w1:=?_) (by rfl) rfl ?_ ?_
 rotate_left
 ·go_simp
  rfl
 refine hK.out _ _ ⟨?_,?_,?_⟩ ?_
 ·exact ((Go.Proofs.Ytkhbmgclklmimaa.Sem.far3 (g:=gb144) NB143_144.out).trans (hHeld.1))
 ·exact ((Go.Proofs.Ytkhbmgclklmimaa.Sem.far3 (g:=gb144) NB143_144.out).trans (hHeld.2.1))
 ·exact ((Go.Proofs.Ytkhbmgclklmimaa.Sem.far3 (g:=gb144) NB143_144.out).trans (hHeld.2.2))
 intro hHeld
 clear hK K
 refine zdo ?_
 try go_wp2
 refine bodyPost_ret (results_cell_row rfl _ _ gb144 25 #[.slice Ao10 t145.length co10,.slice Ao9 t148.length co9,.int .i64 a0_2] (0,0) _ rfl (by (with_reducible repeat (first|refine zbN ?_ _|refine zbD ?_|refine zbA ?_ _));refine blk_put (cs:=#[.slice Ao10 t145.length co10,.slice Ao9 t148.length co9,.int .i64 0]) ?_ 2 _ rfl;(with_reducible repeat (first|refine zbN ?_ _|refine zbD ?_|refine zbA ?_ _));refine blk_put (cs:=#[.slice Ao10 t145.length co10,.slice none 0 0,.int .i64 0]) ?_ 1 _ rfl;(with_reducible repeat (first|refine zbN ?_ _|refine zbD ?_|refine zbA ?_ _));refine blk_put (cs:=#[.slice none 0 0,.slice none 0 0,.int .i64 0]) ?_ 0 _ rfl;(with_reducible repeat (first|refine zbN ?_ _|refine zbD ?_|refine zbA ?_ _));exact BK144.out) Try.underlying25 rfl (by kernel_rfl)) rfl ?_
 exact ⟨_,_,ze_,by (with_reducible repeat (first|apply zrA|apply zrN|apply zrD));exact Kd.R_mono (Kd.R_far (p:=⟨gb144,2,none⟩) (Kd.R_far (p:=⟨gb144,1,none⟩) (Kd.R_far (p:=⟨gb144,0,none⟩) (Kd.R_types HO147.out BK144.out (by decide)) (fun _ hk=>hk.2) (.slice Ao10 t145.length co10)) (fun _ hk=>hk.2) (.slice Ao9 t148.length co9)) (fun _ hk=>hk.2) (.int .i64 a0_2)) (fun _ hk=>trivial),by (with_reducible repeat (first|apply zrA|apply zrN|apply zrD));exact Kd.R_mono (Kd.R_far (p:=⟨gb144,2,none⟩) (Kd.R_far (p:=⟨gb144,1,none⟩) (Kd.R_far (p:=⟨gb144,0,none⟩) (Kd.R_types HO150.out BK144.out (by decide)) (fun _ hk=>hk.2) (.slice Ao10 t145.length co10)) (fun _ hk=>hk.2) (.slice Ao9 t148.length co9)) (fun _ hk=>hk.2) (.int .i64 a0_2)) (fun _ hk=>trivial),zb_⟩
end Go.Proofs.Ytkhbmgclklmimaa.Print
end
section
namespace Go.Proofs.Ytkhbmgclklmimaa.Print
open Go.RowKit Go.Proofs.YtkhbmgclklmimaaW.PrintWords Go.Proofs.YtkhbmgclklmimaaW.PrintLast Go.Proofs.YtkhbmgclklmimaaW.PrintMore
attribute [local go_sem] max2_int min2_int max_two min_two max_three min_three max_four min_four   -- for this text's walks alone
attribute [local go_sem ↓] Go.Proofs.Ytkhbmgclklmimaa.Sem.isSome_setCell
attribute [local go_sem] Go.Instr.field Go.asAgg
set_option linter.unusedVariables false
set_option linter.unusedSimpArgs false
def mapjnl_Join.l0:Nat → Int → Int → List Bool → List Int → Int → List Bool → List Int → Int → Option (List Bool × List Int × Int × Int)
 | 0,_,_,_,_,_,_,_,_=>none
 | k + 1,x20,x21,x153000,x153001,x153002,x163000,x163001,x163002=>if x21 < x20 then (if 0≤x21 then (if x21 < (x163000.length:Int) then (if rdOf false x163000 x21=true then (if x21 < (x163001.length:Int) then (if x21 < (x153001.length:Int) then (mapjnl_Join.l0 k x20 (wrap64 (x21 + 1)) x153000 x153001 x153002 (x163000.set (x21:Int).toNat true) (x163001.set (x21:Int).toNat (mx (rd x163001 x21) (rd x153001 x21))) x163002) else (none)) else (none)) else (if x21 < (x153000.length:Int) then (if x21 < (x163001.length:Int) then (if x21 < (x153001.length:Int) then (mapjnl_Join.l0 k x20 (wrap64 (x21 + 1)) x153000 x153001 x153002 (x163000.set (x21:Int).toNat (rdOf false x153000 x21)) (x163001.set (x21:Int).toNat (mx (rd x163001 x21) (rd x153001 x21))) x163002) else (none)) else (none)) else (none))) else (none)) else (none)) else (some (x163000,x163001,mx x163002 x153002,0))
def mapjnl_Join.f (k:Nat) (l0_0:List Bool) (l0_1:List Int) (a0_2:Int) (l1_0:List Bool) (l1_1:List Int) (a1_2:Int):Option (List Bool × List Int × Int × Int):=(mapjnl_both.f k l0_0 l0_1 a0_2 l1_0 l1_1 a1_2).bind fun t154=>(if t154=0 then ((mapjnl_clone.f l0_0 l0_1 a0_2).bind fun bt155=>(mapjnl_Join.l0 k (bt155.1.length:Int) 0 l1_0 l1_1 a1_2 bt155.1 bt155.2.1 bt155.2.2)) else (some (([]:List Bool),([]:List Int),0,t154)))
theorem mapjnl_Join.mono_l:∀ k,(∀ y0 y1 y2 y3 y4 y5 y6 y7,LeO (mapjnl_Join.l0 k y0 y1 y2 y3 y4 y5 y6 y7) (mapjnl_Join.l0 (k + 1) y0 y1 y2 y3 y4 y5 y6 y7))
 | 0=>fun _ _ _ _ _ _ _ _ r h=>by simp [mapjnl_Join.l0] at h
 | k + 1=>by
  have ih0:=mapjnl_Join.mono_l k
  ·intro y0 y1 y2 y3 y4 y5 y6 y7
   unfold mapjnl_Join.l0
   repeat' first
   | (with_reducible exact ih0 _ _ _ _ _ _ _ _)
   | (with_reducible exact mapjnl_both.mono _ _ _ _ _ _ _)
   | (with_reducible exact LeO.refl _)
   | (with_reducible exact LeO.none _)
   | (with_reducible refine LeO.ite ?_ ?_)
   | (with_reducible refine LeO.bind ?_ (fun _=>?_))
   | exact ih0 _ _ _ _ _ _ _ _
   | exact mapjnl_both.mono _ _ _ _ _ _ _
   | exact LeO.none _
   | refine LeO.ite ?_ ?_
   | refine LeO.bind ?_ (fun _=>?_)
theorem mapjnl_Join.mono:∀ a0 a1 a2 a3 a4 a5 k,LeO (mapjnl_Join.f k a0 a1 a2 a3 a4 a5) (mapjnl_Join.f (k + 1) a0 a1 a2 a3 a4 a5):=by
 intro a0 a1 a2 a3 a4 a5 k
 have ih0:=mapjnl_Join.mono_l k
 unfold mapjnl_Join.f
 repeat' first
   | (with_reducible exact ih0 _ _ _ _ _ _ _ _)
   | (with_reducible exact mapjnl_both.mono _ _ _ _ _ _ _)
   | (with_reducible exact LeO.refl _)
   | (with_reducible exact LeO.none _)
   | (with_reducible refine LeO.ite ?_ ?_)
   | (with_reducible refine LeO.bind ?_ (fun _=>?_))
   | exact ih0 _ _ _ _ _ _ _ _
   | exact mapjnl_both.mono _ _ _ _ _ _ _
   | exact LeO.none _
   | refine LeO.ite ?_ ?_
   | refine LeO.bind ?_ (fun _=>?_)
def mapjnl_Join.T8:Bool × List (List Nat × List Nat):=(true,[([],[]),([0],[0]),([],[]),([],[]),([3],[3]),([],[]),([4,5],[4,5]),([6],[6]),([7],[7]),([8],[8]),([9,8],[8,9]),([8],[8]),([10,11,8],[8,10,11]),([12,8],[8,12]),([8,13],[8,13]),([1,2,0,1,2,3,4,5,6,7,8,9,10,11,12,13,14],[1,2]),([15,14,8,0,1,2,3,4,5,6,7,8,9,10,11,12,13,14],[14,15])])
def mapjnl_Join.B8:List Nat:=[0,1,0,0,8,0,56,120,248,504,1016,504,4088,8184,16376,32767,65535]
theorem mapjnl_Join.tab8:rtab .any (opsOf Try.f13 8)=mapjnl_Join.T8:=by kernel_rfl
theorem mapjnl_Join.bits8:waitsOk mapjnl_Join.T8.2 mapjnl_Join.B8=true:=by kernel_rfl
def mapjnl_Join.T9:Bool × List (List Nat × List Nat):=(true,[([],[]),([0],[0]),([],[]),([],[]),([3],[3]),([],[]),([4,5],[4,5]),([6],[6]),([],[]),([8],[8]),([],[]),([9,10],[9,10]),([11],[11]),([7,12],[7,12]),([1,2,0,1,2,3,4,5,6,7,8,9,10,11,12,13],[1,2]),([14,13,0,1,2,3,4,5,6,7,8,9,10,11,12,13],[13,14])])
def mapjnl_Join.B9:List Nat:=[0,1,0,0,8,0,56,120,0,256,0,1792,3840,8184,16383,32767]
theorem mapjnl_Join.tab9:rtab .any (opsOf Try.f13 9)=mapjnl_Join.T9:=by kernel_rfl
theorem mapjnl_Join.bits9:waitsOk mapjnl_Join.T9.2 mapjnl_Join.B9=true:=by kernel_rfl
set_option maxHeartbeats 8000000 in
set_option maxRecDepth 100000 in
theorem mapjnl_Join.calls (k:Nat) (A0_0:Option Addr) (c0_0:Nat) (l0_0:List Bool) (A0_1:Option Addr) (c0_1:Nat) (l0_1:List Int) (a0_2:Int) (A1_0:Option Addr) (c1_0:Nat) (l1_0:List Bool) (A1_1:Option Addr) (c1_1:Nat) (l1_1:List Int) (a1_2:Int) (r1:List Bool) (r2:List Int) (r3:Int) (r4:Int) (w:World) (hr0_0:Kd.C Kd.bool w A0_0 l0_0.length l0_0) (hc0_0:l0_0.length≤c0_0) (hr0_1:Kd.C (Kd.int .i64) w A0_1 l0_1.length l0_1) (hc0_1:l0_1.length≤c0_1) (hr1_0:Kd.C Kd.bool w A1_0 l1_0.length l1_0) (hc1_0:l1_0.length≤c1_0) (hr1_1:Kd.C (Kd.int .i64) w A1_1 l1_1.length l1_1) (hc1_1:l1_1.length≤c1_1) (h:mapjnl_Join.f k l0_0 l0_1 a0_2 l1_0 l1_1 a1_2=some (r1,r2,r3,r4)) :
  Calls Try.prog 13 #[.agg #[.slice A0_0 l0_0.length c0_0,.slice A0_1 l0_1.length c0_1,.int .i64 a0_2],.agg #[.slice A1_0 l1_0.length c1_0,.slice A1_1 l1_1.length c1_1,.int .i64 a1_2]] w fun e w'=>∃ v0_ v1_:Value,e=.returned (.tuple #[.agg #[v0_,v1_,.int .i64 r3],.int .i64 r4])∧Kd.R Kd.bool 4 w' w.heap.size (fun _=>True) v0_ r1∧Kd.R (Kd.int .i64) 2 w' w.heap.size (fun _=>True) v1_ r2∧Below w.heap.size w w':=by
 have hu25:=Try.underlying25
 have HR0_0:=zm hr0_0
 have HC0_0:=zm hc0_0
 clear hr0_0 hc0_0
 have HR0_1:=zm hr0_1
 have HC0_1:=zm hc0_1
 clear hr0_1 hc0_1
 have HR1_0:=zm hr1_0
 have HC1_0:=zm hc1_0
 clear hr1_0 hc1_0
 have HR1_1:=zm hr1_1
 have HC1_1:=zm hc1_1
 clear hr1_1 hc1_1
 have HB:=zm (Below.refl w.heap.size w)
 have H:((mapjnl_both.f k l0_0 l0_1 a0_2 l1_0 l1_1 a1_2).bind fun t154=>(if t154=0 then ((mapjnl_clone.f l0_0 l0_1 a0_2).bind fun bt155=>(mapjnl_Join.l0 k (bt155.1.length:Int) 0 l1_0 l1_1 a1_2 bt155.1 bt155.2.1 bt155.2.2)) else (some (([]:List Bool),([]:List Int),0,t154))))=some (r1,r2,r3,r4):=h
 clear h
 replace H:=Option.bind_eq_some_iff.mp H
 obtain ⟨t154,A30,H⟩:=H
 replace H:(if t154=0 then ((mapjnl_clone.f l0_0 l0_1 a0_2).bind fun bt155=>(mapjnl_Join.l0 k (bt155.1.length:Int) 0 l1_0 l1_1 a1_2 bt155.1 bt155.2.1 bt155.2.2)) else (some (([]:List Bool),([]:List Int),0,t154)))=some (r1,r2,r3,r4):=H
 have A3:=zm A30
 clear A30
 by_cases c4:t154=0
 ·rw [if_pos c4] at H
  have c4b0:(t154 == 0)=true:=beq_iff_eq.mpr c4
  have c4b1:(t154 != 0)=false:=bne_eq_false_iff_eq.mpr c4
  clear c4
  replace H:=Option.bind_eq_some_iff.mp H
  obtain ⟨⟨t155,t158,t161⟩,A50,H⟩:=H
  replace H:(mapjnl_Join.l0 k (t155.length:Int) 0 l1_0 l1_1 a1_2 t155 t158 t161)=some (r1,r2,r3,r4):=H
  have A5:=zm A50
  clear A50
  have H':=zm H
  clear H
  go_enter Try.func13,Try.ntmps13
  go_wp2_with (first|((with_reducible refine gate_dst (N:=2) rfl ?_);refine zbx 2 #[.slice A0_0 l0_0.length c0_0,.slice A0_1 l0_1.length c0_1,.int .i64 a0_2] 25 ?_;intro gb151 hg w6 hbox hb;have n0_:=zkH HB hb;have n1_:=zm (hbox);have n2_:=zkG HB hg;have n3_:=zkG HB hg;clear HB;have HB:=n0_;have BK151:=n1_;have GW151:=n2_;have GE151:=n3_;clear n0_ n1_ n2_ n3_;clear hb hbox hg)|((with_reducible refine gate_dst (N:=3) rfl ?_);refine zbx 3 #[.slice A1_0 l1_0.length c1_0,.slice A1_1 l1_1.length c1_1,.int .i64 a1_2] 25 ?_;intro gb152 hg w7 hbox hb;have n0_:=zkB BK151 hb;have n1_:=zkH HB hb;have n2_:=zm (hbox);have n3_:=zkG HB hg;have n4_:=zkG HB hg;have n5_:=zkN BK151 hg;have n6_:=zkM BK151 hg;clear BK151 HB;have BK151:=n0_;have HB:=n1_;have BK152:=n2_;have GW152:=n3_;have GE152:=n4_;have NB151_152:=n5_;have NB152_151:=n6_;clear n0_ n1_ n2_ n3_ n4_ n5_ n6_;clear hb hbox hg)|((with_reducible refine gate_dst (N:=4) rfl ?_);refine zbx 4 #[.slice none 0 0,.slice none 0 0,.int .i64 0] 25 ?_;intro gb153 hg w8 hbox hb;have n0_:=zkB BK151 hb;have n1_:=zkB BK152 hb;have n2_:=zkH HB hb;have n3_:=zm (hbox);have n4_:=zkG HB hg;have n5_:=zkG HB hg;have n6_:=zkN BK151 hg;have n7_:=zkM BK151 hg;have n8_:=zkN BK152 hg;have n9_:=zkM BK152 hg;clear BK151 BK152 HB;have BK151:=n0_;have BK152:=n1_;have HB:=n2_;have BK153:=n3_;have GW153:=n4_;have GE153:=n5_;have NB151_153:=n6_;have NB153_151:=n7_;have NB152_153:=n8_;have NB153_152:=n9_;clear n0_ n1_ n2_ n3_ n4_ n5_ n6_ n7_ n8_ n9_;clear hb hbox hg;have hnb9:=NB151_152.out;have hnc9:=NB152_151.out;have hnb10:=NB151_153.out;have hnc10:=NB153_151.out;obtain ⟨hcz11_0,hcz11_1,hcz11_2,hfz11_0,hfz11_1,hfz11_2⟩:=zc3 BK151.out;have hnb12:=NB152_153.out;have hnc12:=NB153_152.out;obtain ⟨hcz13_0,hcz13_1,hcz13_2,hfz13_0,hfz13_1,hfz13_2⟩:=zc3 BK152.out)|((with_reducible refine gate_callee (f:=50) rfl ?_);refine goesL_ (some 11) rfl rfl Try.func50 (by kernel_rfl) rfl #[.agg #[.slice A0_0 l0_0.length c0_0,.slice A0_1 l0_1.length c0_1,.int .i64 a0_2],.agg #[.slice A1_0 l1_0.length c1_0,.slice A1_1 l1_1.length c1_1,.int .i64 a1_2]] rfl (by (try simp only [List.map_toArray,List.map_cons,List.map_nil]);first|done|rfl|(simp only [List.length_drop,List.length_take];rfl)) ?_;(with_reducible refine (mapjnl_both.calls k _ _ l0_0 _ _ l0_1 a0_2 _ _ l1_0 _ _ l1_1 a1_2 t154 _ ?side1 ?side2 ?side3 ?side4 ?side5 ?side6 ?side7 ?side8 A3.out).mono ?_);(case side1=>exact zC HR0_0);(case side2=>exact HC0_0.out);(case side3=>exact zC HR0_1);(case side4=>exact HC0_1.out);(case side5=>exact zC HR1_0);(case side6=>exact HC1_0.out);(case side7=>exact zC HR1_1);(case side8=>exact HC1_1.out);rintro e w14 ⟨rfl,hb⟩;refine ⟨_,rfl,?_⟩;have n0_:=zkB BK151 hb;have n1_:=zkB BK152 hb;have n2_:=zkB BK153 hb;have n3_:=zkH HB hb;clear BK151 BK152 BK153 HB;have BK151:=n0_;have BK152:=n1_;have BK153:=n2_;have HB:=n3_;clear n0_ n1_ n2_ n3_;(try clear hb);(try clear hb2);(try clear hk);(try clear hi);obtain ⟨hcz15_0,hcz15_1,hcz15_2,hfz15_0,hfz15_1,hfz15_2⟩:=zc3 BK151.out)|((with_reducible refine gate_callee (f:=51) rfl ?_);refine goesL_ (some 17) rfl rfl Try.func51 (by kernel_rfl) rfl #[.agg #[.slice A0_0 l0_0.length c0_0,.slice A0_1 l0_1.length c0_1,.int .i64 a0_2]] rfl (by (try simp only [List.map_toArray,List.map_cons,List.map_nil]);first|done|rfl|(simp only [List.length_drop,List.length_take];rfl)) ?_;(with_reducible refine (mapjnl_clone.calls _ _ l0_0 _ _ l0_1 a0_2 t155 t158 t161 _ ?side1 ?side2 ?side3 ?side4 A5.out).mono ?_);(case side1=>exact zC HR0_0);(case side2=>exact HC0_0.out);(case side3=>exact zC HR0_1);(case side4=>exact HC0_1.out);rintro e w16 ⟨v156,v159,rfl,ho0,ho1,hb⟩;refine ⟨_,rfl,?_⟩;have n0_:=zm (Kd.R_lower ho0 (below_size (zb_)));have n1_:=zm (Kd.R_lower ho1 (below_size (zb_)));have n2_:=zkB BK151 hb;have n3_:=zkB BK152 hb;have n4_:=zkB BK153 hb;have n5_:=zkH HB hb;clear BK151 BK152 BK153 HB;have HO157:=n0_;have HO160:=n1_;have BK151:=n2_;have BK152:=n3_;have BK153:=n4_;have HB:=n5_;clear n0_ n1_ n2_ n3_ n4_ n5_;(try clear hb);(try clear hb2);(try clear hk);(try clear hi);(try clear ho0);(try clear ho1))|((with_reducible refine gate_dst (N:=7) rfl ?_);refine zbx 7 #[.slice none 0 0,.slice none 0 0,.int .i64 0] 25 ?_;intro gb162 hg w17 hbox hb;have n0_:=zm (Kd.R_below (by (with_reducible repeat (first|apply zrA|apply zrN|apply zrD));exact HO157.out) hb);have n1_:=zm (Kd.R_below (by (with_reducible repeat (first|apply zrA|apply zrN|apply zrD));exact HO160.out) hb);have n2_:=zkB BK151 hb;have n3_:=zkB BK152 hb;have n4_:=zkB BK153 hb;have n5_:=zkH HB hb;have n6_:=zm (hbox);have n7_:=zkG HB hg;have n8_:=zkG HB hg;have n9_:=zkN BK151 hg;have n10_:=zkM BK151 hg;have n11_:=zkN BK152 hg;have n12_:=zkM BK152 hg;have n13_:=zkN BK153 hg;have n14_:=zkM BK153 hg;clear HO157 HO160 BK151 BK152 BK153 HB;have HO157:=n0_;have HO160:=n1_;have BK151:=n2_;have BK152:=n3_;have BK153:=n4_;have HB:=n5_;have BK162:=n6_;have GW162:=n7_;have GE162:=n8_;have NB151_162:=n9_;have NB162_151:=n10_;have NB152_162:=n11_;have NB162_152:=n12_;have NB153_162:=n13_;have NB162_153:=n14_;clear n0_ n1_ n2_ n3_ n4_ n5_ n6_ n7_ n8_ n9_ n10_ n11_ n12_ n13_ n14_;clear hb hbox hg;obtain ⟨Ao18,co18,eo18⟩:=Kd.R_slice HO157.out;subst eo18;have hnb19:=NB162_151.out;have hnc19:=NB151_162.out;have hnb20:=NB162_152.out;have hnc20:=NB152_162.out;have hnb21:=NB162_153.out;have hnc21:=NB153_162.out;obtain ⟨hcz22_0,hcz22_1,hcz22_2,hfz22_0,hfz22_1,hfz22_2⟩:=zc3 BK162.out;obtain ⟨Ao23,co23,eo23⟩:=Kd.R_slice HO160.out;subst eo23))
  go_loopg [21] k (fun kq v21 w'=>∃ (x21_1:Int) (x163000_1:List Bool) (x163001_1:List Int) (u163000:Value) (u163001:Value),v21=.int .i64 x21_1∧Aside0 (mapjnl_Join.l0 kq (t155.length:Int) x21_1 l1_0 l1_1 a1_2 x163000_1 x163001_1 t161=some (r1,r2,r3,r4))∧Aside0 (kq≤k)∧Aside0 (Kd.R Kd.bool 4 w' w.heap.size (fun _=>True) u163000 x163000_1)∧Aside0 (Kd.R (Kd.int .i64) 2 w' w.heap.size (fun _=>True) u163001 x163001_1)∧Aside0 (w'.heap[gb151]?=some (.cells #[(.slice A0_0 l0_0.length c0_0),(.slice A0_1 l0_1.length c0_1),.int .i64 a0_2] 25 (0,0)))∧Aside0 (w'.heap[gb152]?=some (.cells #[(.slice A1_0 l1_0.length c1_0),(.slice A1_1 l1_1.length c1_1),.int .i64 a1_2] 25 (0,0)))∧Aside0 (w'.heap[gb153]?=some (.cells #[(.slice none 0 0),(.slice none 0 0),.int .i64 0] 25 (0,0)))∧Aside0 (w'.heap[gb162]?=some (.cells #[u163000,u163001,.int .i64 t161] 25 (0,0)))∧Aside0 (Below w.heap.size w w'))
  case atStart=>exact ⟨(0),(t155),(t158),(.slice Ao18 t155.length co18),(.slice Ao23 t158.length co23),zs_,H',⟨Nat.le_refl _⟩,⟨by (with_reducible repeat (first|apply zrA|apply zrN|apply zrD));exact Kd.R_mono (Kd.R_far (p:=⟨gb162,2,none⟩) (Kd.R_far (p:=⟨gb162,1,none⟩) (Kd.R_far (p:=⟨gb162,0,none⟩) (Kd.R_types HO157.out BK162.out (by decide)) (fun _ hk=>hk.2) (.slice Ao18 t155.length co18)) (fun _ hk=>hk.2) (.slice Ao23 t158.length co23)) (fun _ hk=>hk.2) (.int .i64 t161)) (fun _ hk=>trivial)⟩,⟨by (with_reducible repeat (first|apply zrA|apply zrN|apply zrD));exact Kd.R_mono (Kd.R_far (p:=⟨gb162,2,none⟩) (Kd.R_far (p:=⟨gb162,1,none⟩) (Kd.R_far (p:=⟨gb162,0,none⟩) (Kd.R_types HO160.out BK162.out (by decide)) (fun _ hk=>hk.2) (.slice Ao18 t155.length co18)) (fun _ hk=>hk.2) (.slice Ao23 t158.length co23)) (fun _ hk=>hk.2) (.int .i64 t161)) (fun _ hk=>trivial)⟩,⟨by (with_reducible repeat (first|refine zbN ?_ _|refine zbD ?_|refine zbA ?_ _));refine blk_far ?_ NB151_162.out _;(with_reducible repeat (first|refine zbN ?_ _|refine zbD ?_|refine zbA ?_ _));refine blk_far ?_ NB151_162.out _;(with_reducible repeat (first|refine zbN ?_ _|refine zbD ?_|refine zbA ?_ _));refine blk_far ?_ NB151_162.out _;(with_reducible repeat (first|refine zbN ?_ _|refine zbD ?_|refine zbA ?_ _));exact BK151.out⟩,⟨by (with_reducible repeat (first|refine zbN ?_ _|refine zbD ?_|refine zbA ?_ _));refine blk_far ?_ NB152_162.out _;(with_reducible repeat (first|refine zbN ?_ _|refine zbD ?_|refine zbA ?_ _));refine blk_far ?_ NB152_162.out _;(with_reducible repeat (first|refine zbN ?_ _|refine zbD ?_|refine zbA ?_ _));refine blk_far ?_ NB152_162.out _;(with_reducible repeat (first|refine zbN ?_ _|refine zbD ?_|refine zbA ?_ _));exact BK152.out⟩,⟨by (with_reducible repeat (first|refine zbN ?_ _|refine zbD ?_|refine zbA ?_ _));refine blk_far ?_ NB153_162.out _;(with_reducible repeat (first|refine zbN ?_ _|refine zbD ?_|refine zbA ?_ _));refine blk_far ?_ NB153_162.out _;(with_reducible repeat (first|refine zbN ?_ _|refine zbD ?_|refine zbA ?_ _));refine blk_far ?_ NB153_162.out _;(with_reducible repeat (first|refine zbN ?_ _|refine zbD ?_|refine zbA ?_ _));exact BK153.out⟩,⟨by (with_reducible repeat (first|refine zbN ?_ _|refine zbD ?_|refine zbA ?_ _));refine blk_put (cs:=#[.slice Ao18 t155.length co18,.slice Ao23 t158.length co23,.int .i64 0]) ?_ 2 _ rfl;(with_reducible repeat (first|refine zbN ?_ _|refine zbD ?_|refine zbA ?_ _));refine blk_put (cs:=#[.slice Ao18 t155.length co18,.slice none 0 0,.int .i64 0]) ?_ 1 _ rfl;(with_reducible repeat (first|refine zbN ?_ _|refine zbD ?_|refine zbA ?_ _));refine blk_put (cs:=#[.slice none 0 0,.slice none 0 0,.int .i64 0]) ?_ 0 _ rfl;(with_reducible repeat (first|refine zbN ?_ _|refine zbD ?_|refine zbA ?_ _));exact BK162.out⟩,⟨zb_⟩⟩
  case round =>
   clear H'
   try clear c1
   try clear c2
   try clear p2
   try clear c4
   try clear c4b0
   try clear c4b1
   try clear c5
   try clear c9
   try clear c10
   try clear c12
   try clear c13
   try clear c19
   try clear c20
   try clear c21
   try clear hcz11_0
   try clear hcz11_1
   try clear hcz11_2
   try clear hcz13_0
   try clear hcz13_1
   try clear hcz13_2
   try clear hcz15_0
   try clear hcz15_1
   try clear hcz15_2
   try clear hcz22_0
   try clear hcz22_1
   try clear hcz22_2
   try clear hfz11_0
   try clear hfz11_1
   try clear hfz11_2
   try clear hfz13_0
   try clear hfz13_1
   try clear hfz13_2
   try clear hfz15_0
   try clear hfz15_1
   try clear hfz15_2
   try clear hfz22_0
   try clear hfz22_1
   try clear hfz22_2
   obtain ⟨x21_1,x163000_1,x163001_1,u163000,u163001,rfl,HA,HK1,HO_163000,HO_163001,BK151,BK152,BK153,BK162,HB⟩:=hrel
   cases gk with
   | zero=>exact absurd HA.out (by simp [mapjnl_Join.l0])
   | succ k1 =>
    have H:=HA.out
    clear HA
    simp only [mapjnl_Join.l0] at H
    by_cases c24:x21_1 < (t155.length:Int)
    ·rw [if_pos c24] at H
     have c24b0:decide (x21_1 < (t155.length:Int))=true:=decide_eq_true c24
     clear c24
     by_cases c25:0≤x21_1
     ·rw [if_pos c25] at H
      have c25b0:decide (0≤x21_1)=true:=decide_eq_true c25
      clear c25
      by_cases c26:x21_1 < (x163000_1.length:Int)
      ·rw [if_pos c26] at H
       have c26b0:decide (x21_1 < (x163000_1.length:Int))=true:=decide_eq_true c26
       clear c26
       obtain ⟨bq27,hbq27⟩:∃ b_:Bool,b_=(rdOf false x163000_1 x21_1):=⟨_,rfl⟩
       replace H:(if bq27=true then (if x21_1 < (x163001_1.length:Int) then (if x21_1 < (l1_1.length:Int) then (mapjnl_Join.l0 k1 (t155.length:Int) (wrap64 (x21_1 + 1)) l1_0 l1_1 a1_2 (x163000_1.set (x21_1:Int).toNat true) (x163001_1.set (x21_1:Int).toNat (mx (rd x163001_1 x21_1) (rd l1_1 x21_1))) t161) else (none)) else (none)) else (if x21_1 < (l1_0.length:Int) then (if x21_1 < (x163001_1.length:Int) then (if x21_1 < (l1_1.length:Int) then (mapjnl_Join.l0 k1 (t155.length:Int) (wrap64 (x21_1 + 1)) l1_0 l1_1 a1_2 (x163000_1.set (x21_1:Int).toNat (rdOf false l1_0 x21_1)) (x163001_1.set (x21_1:Int).toNat (mx (rd x163001_1 x21_1) (rd l1_1 x21_1))) t161) else (none)) else (none)) else (none)))=some (r1,r2,r3,r4):=by rw [← hbq27] at H;exact H
       have Nbq27:=zm hbq27
       clear hbq27
       by_cases c28:bq27=true
       ·subst c28
        have H1:(if x21_1 < (x163001_1.length:Int) then (if x21_1 < (l1_1.length:Int) then (mapjnl_Join.l0 k1 (t155.length:Int) (wrap64 (x21_1 + 1)) l1_0 l1_1 a1_2 (x163000_1.set (x21_1:Int).toNat true) (x163001_1.set (x21_1:Int).toNat (mx (rd x163001_1 x21_1) (rd l1_1 x21_1))) t161) else (none)) else (none))=some (r1,r2,r3,r4):=by rw [if_pos rfl] at H;exact H
        clear H
        have H:=H1
        clear H1
        obtain ⟨y164,hy164⟩:∃ y_:List Bool,y_=(x163000_1.set (x21_1:Int).toNat true):=⟨_,rfl⟩
        replace H:(if x21_1 < (x163001_1.length:Int) then (if x21_1 < (l1_1.length:Int) then (mapjnl_Join.l0 k1 (t155.length:Int) (wrap64 (x21_1 + 1)) l1_0 l1_1 a1_2 y164 (x163001_1.set (x21_1:Int).toNat (mx (rd x163001_1 x21_1) (rd l1_1 x21_1))) t161) else (none)) else (none))=some (r1,r2,r3,r4):=by first|(rw [hy164];with_reducible exact H)|(have H2_:=(Option.bind_some _ _).symm.trans H;rw [hy164];with_reducible exact H2_)|(have H2_:=(Option.bind_some _ _).symm.trans H;with_reducible exact H2_)|with_reducible exact H|(rw [hy164];exact H)|exact H
        have Ny164:=zm hy164
        clear hy164
        by_cases c30:x21_1 < (x163001_1.length:Int)
        ·rw [if_pos c30] at H
         have c30b0:decide (x21_1 < (x163001_1.length:Int))=true:=decide_eq_true c30
         clear c30
         by_cases c31:x21_1 < (l1_1.length:Int)
         ·rw [if_pos c31] at H
          have c31b0:decide (x21_1 < (l1_1.length:Int))=true:=decide_eq_true c31
          clear c31
          obtain ⟨ji32,hji32⟩:∃ j_:Int,(mx (rd x163001_1 x21_1) (rd l1_1 x21_1))=j_:=⟨_,rfl⟩
          replace H:(mapjnl_Join.l0 k1 (t155.length:Int) (wrap64 (x21_1 + 1)) l1_0 l1_1 a1_2 y164 (x163001_1.set (x21_1:Int).toNat (ji32)) t161)=some (r1,r2,r3,r4):=by first|(rw [hji32] at H;exact H)|(simp only [hji32] at H ⊢;exact H)
          have hji32_:(if (rd x163001_1 x21_1) < (rd l1_1 x21_1) then (rd l1_1 x21_1) else (rd x163001_1 x21_1))=ji32:=hji32
          obtain ⟨y167,hy167⟩:∃ y_:List Int,y_=(x163001_1.set (x21_1:Int).toNat (ji32)):=⟨_,rfl⟩
          replace H:(mapjnl_Join.l0 k1 (t155.length:Int) (wrap64 (x21_1 + 1)) l1_0 l1_1 a1_2 y164 y167 t161)=some (r1,r2,r3,r4):=by first|(rw [hy167];with_reducible exact H)|(have H2_:=(Option.bind_some _ _).symm.trans H;rw [hy167];with_reducible exact H2_)|(have H2_:=(Option.bind_some _ _).symm.trans H;with_reducible exact H2_)|with_reducible exact H|(rw [hy167];exact H)|exact H
          have Ny167:=zm hy167
          clear hy167
          have H':=zm H
          clear H
          try go_wp2
          have n0_:=zm (zrD HO_163000.out)
          have n1_:=zm (zrD HO_163001.out)
          have n2_:=zm (zbD BK151.out)
          have n3_:=zm (zbD BK152.out)
          have n4_:=zm (zbD BK153.out)
          have n5_:=zm (zbD BK162.out)
          have n6_:=zm (zlD HB.out)
          clear HO_163000 HO_163001 BK151 BK152 BK153 BK162 HB
          have HO_163000:=n0_
          have HO_163001:=n1_
          have BK151:=n2_
          have BK152:=n3_
          have BK153:=n4_
          have BK162:=n5_
          have HB:=n6_
          clear n0_ n1_ n2_ n3_ n4_ n5_ n6_
          obtain ⟨Ao35,co35,eo35⟩:=Kd.R_slice HO_163000.out
          (first|subst eo35|(injection eo35 with f1_ f2_ f3_;have f4_:=f1_.symm;have f5_:=f3_.symm;clear f1_ f2_ f3_;subst f4_;subst f5_))
          have p163:0≤(x21_1:Int):=za_
          have q163:x21_1 < (x163000_1.length:Int):=za_
          obtain ⟨ad163,e163,hx163_0⟩:=Kd.at_bool (Kd.R_reads' HO_163000.out).2.2 x21_1 p163 q163
          (try rw [← Nbq27.out] at hx163_0)
          cases e163
          replace p163:=eq_true p163
          replace q163:=eq_true q163
          have p29:0≤(x21_1:Int):=za_
          have q29:(x21_1:Int) < ((x163000_1.length:Int):Int):=za_
          obtain ⟨go29,co29,eo29,gb29,gl29,cl29,HG29⟩:=Kd.R_form HO_163000.out (by omega)
          (first|cases eo29|(injection eo29 with ea_ en_ ec_;(first|subst ea_|(injection ea_ with ea_;subst ea_));subst ec_;clear en_))
          have GB29:=zm gb29
          have GG29:=zm HG29
          clear gb29 gl29 HG29
          (first|simp only [add_plain] at hx163_0|skip)
          obtain ⟨hx29_0,hf29_0⟩:=Kd.R_celln false HO_163000.out (x21_1:Int) p29 q29
          replace p29:=eq_true p29
          replace q29:=eq_true q29
          have HP36:=Kd.R_putn HO_163000.out (x21_1:Int) true
          rw [← Ny164.out] at HP36
          have HQ36:=zm HP36
          clear HP36
          refine start_ (n:=17) (S:=fun w'=>w'.cell? ⟨gb162,0,none⟩=some (.slice (some ⟨go29,0,none⟩) x163000_1.length co35)∧w'.cell? ⟨gb162,1,none⟩=some (u163001)∧w'.cell? ⟨gb162,2,none⟩=some (.int .i64 t161)∧w'.cell? ⟨go29,(x21_1).toNat,none⟩=some (.bool true)) (ds:=[16]) (Array.replicate 17 false) (by kernel_rfl) rfl rfl ⟨(blk_cell BK162.out 0).trans rfl,(blk_cell BK162.out 1).trans rfl,(blk_cell BK162.out 2).trans rfl,hx163_0⟩ (fun hHeld=>?_);refine with_tabW mapjnl_Join.tab8 mapjnl_Join.bits8 (fun HT_ HW_=>?_)
          generalize wr.drew=w34 at HO_163000 HO_163001 BK151 BK152 BK153 BK162 HB GG29 HQ36 hf29_0 hx163_0 hx29_0 hHeld ⊢
          refine zpu 0 ?_
          refine zpu 2 ?_
          refine zpu 3 ?_
          refine zpu 5 ?_
          refine zta 1 hHeld ?_
          refine zta 4 hHeld ?_
          refine zpu 6 ?_
          refine zta 7 hHeld ?_
          refine zpu 8 ?_
          refine zpn 9 ?_
          refine zpn 10 ?_
          refine zpn 11 ?_
          refine zpn 12 ?_
          refine zpn 13 ?_
          refine zpu 14 ?_
          refine zpu 15 ?_
          refine zla 16 none (fun K hK=>?_)
          refine skip_ (w1:=?_) (by rfl) rfl ?_ ?_
          rotate_left
          ·go_simp
           rfl
          refine hK.out _ _ ?_
          clear hK K
          refine zdo ?_
          try go_wp2
          have n0_:Aside0 (Kd.R Kd.bool 4 (w34.setCell ⟨go29,(x21_1:Int).toNat,none⟩ (.bool true)) w.heap.size (fun _=>True) (.slice (some ⟨go29,0,none⟩) x163000_1.length co35) y164):=⟨by (with_reducible repeat (first|apply zrA|apply zrN|apply zrD));exact HQ36.out⟩
          have n1_:Aside0 (Kd.R (Kd.int .i64) 2 (w34.setCell ⟨go29,(x21_1:Int).toNat,none⟩ (.bool true)) w.heap.size (fun _=>True) u163001 x163001_1):=⟨by (with_reducible repeat (first|apply zrA|apply zrN|apply zrD));exact Kd.R_mono (Kd.R_far (p:=⟨go29,(x21_1:Int).toNat,none⟩) (Kd.R_types HO_163001.out GG29.out (by decide)) (fun _ hk=>hk.2) (.bool true)) (fun _ hk=>trivial)⟩
          have n2_:Aside0 ((w34.setCell ⟨go29,(x21_1:Int).toNat,none⟩ (.bool true)).heap[gb151]?=some (.cells #[.slice A0_0 l0_0.length c0_0,.slice A0_1 l0_1.length c0_1,.int .i64 a0_2] 25 (0,0))):=⟨by (with_reducible repeat (first|refine zbN ?_ _|refine zbD ?_|refine zbA ?_ _));refine blk_far ?_ (by have h_:=Kd.R_ne HO_163000.out BK151.out (by decide);intro e_;exact h_ (by rw [e_];rfl)) _;(with_reducible repeat (first|refine zbN ?_ _|refine zbD ?_|refine zbA ?_ _));exact BK151.out⟩
          have n3_:Aside0 ((w34.setCell ⟨go29,(x21_1:Int).toNat,none⟩ (.bool true)).heap[gb152]?=some (.cells #[.slice A1_0 l1_0.length c1_0,.slice A1_1 l1_1.length c1_1,.int .i64 a1_2] 25 (0,0))):=⟨by (with_reducible repeat (first|refine zbN ?_ _|refine zbD ?_|refine zbA ?_ _));refine blk_far ?_ (by have h_:=Kd.R_ne HO_163000.out BK152.out (by decide);intro e_;exact h_ (by rw [e_];rfl)) _;(with_reducible repeat (first|refine zbN ?_ _|refine zbD ?_|refine zbA ?_ _));exact BK152.out⟩
          have n4_:Aside0 ((w34.setCell ⟨go29,(x21_1:Int).toNat,none⟩ (.bool true)).heap[gb153]?=some (.cells #[.slice none 0 0,.slice none 0 0,.int .i64 0] 25 (0,0))):=⟨by (with_reducible repeat (first|refine zbN ?_ _|refine zbD ?_|refine zbA ?_ _));refine blk_far ?_ (by have h_:=Kd.R_ne HO_163000.out BK153.out (by decide);intro e_;exact h_ (by rw [e_];rfl)) _;(with_reducible repeat (first|refine zbN ?_ _|refine zbD ?_|refine zbA ?_ _));exact BK153.out⟩
          have n5_:Aside0 ((w34.setCell ⟨go29,(x21_1:Int).toNat,none⟩ (.bool true)).heap[gb162]?=some (.cells #[.slice (some ⟨go29,0,none⟩) x163000_1.length co35,u163001,.int .i64 t161] 25 (0,0))):=⟨by (with_reducible repeat (first|refine zbN ?_ _|refine zbD ?_|refine zbA ?_ _));refine blk_far ?_ (by have h_:=Kd.R_ne HO_163000.out BK162.out (by decide);intro e_;exact h_ (by rw [e_];rfl)) _;(with_reducible repeat (first|refine zbN ?_ _|refine zbD ?_|refine zbA ?_ _));exact BK162.out⟩
          have n6_:Aside0 (Below w.heap.size w (w34.setCell ⟨go29,(x21_1:Int).toNat,none⟩ (.bool true))):=⟨by repeat (first|(with_reducible first|exact HB.out|apply zlA|apply zlN|apply zlD|refine zlS ?_ GB29.out|refine zlS ?_ GE151.out|refine zlS ?_ GE152.out|refine zlS ?_ GE153.out|refine zlS ?_ GE162.out)|exact HB.out)⟩
          (try clear HO_163000)
          (try clear HO_163001)
          (try clear BK151)
          (try clear BK152)
          (try clear BK153)
          (try clear BK162)
          (try clear HB)
          generalize (w34.setCell ⟨go29,(x21_1:Int).toNat,none⟩ (.bool true))=w37 at n0_ n1_ n2_ n3_ n4_ n5_ n6_ ⊢
          have HO_163000:=n0_
          have HO_163001:=n1_
          have BK151:=n2_
          have BK152:=n3_
          have BK153:=n4_
          have BK162:=n5_
          have HB:=n6_
          clear n0_ n1_ n2_ n3_ n4_ n5_ n6_
          have n0_:=zm (zrD HO_163000.out)
          have n1_:=zm (zrD HO_163001.out)
          have n2_:=zm (zbD BK151.out)
          have n3_:=zm (zbD BK152.out)
          have n4_:=zm (zbD BK153.out)
          have n5_:=zm (zbD BK162.out)
          have n6_:=zm (zlD HB.out)
          clear HO_163000 HO_163001 BK151 BK152 BK153 BK162 HB
          have HO_163000:=n0_
          have HO_163001:=n1_
          have BK151:=n2_
          have BK152:=n3_
          have BK153:=n4_
          have BK162:=n5_
          have HB:=n6_
          clear n0_ n1_ n2_ n3_ n4_ n5_ n6_
          obtain ⟨Ao39,co39,eo39⟩:=Kd.R_slice HO_163001.out
          (first|subst eo39|(injection eo39 with f1_ f2_ f3_;have f4_:=f1_.symm;have f5_:=f3_.symm;clear f1_ f2_ f3_;subst f4_;subst f5_))
          have p165:0≤(x21_1:Int):=za_
          have q165:x21_1 < (x163001_1.length:Int):=za_
          obtain ⟨ad165,e165,hx165_0⟩:=Kd.at_int (Kd.R_reads' HO_163001.out).2.2 x21_1 p165 q165
          cases e165
          replace p165:=eq_true p165
          replace q165:=eq_true q165
          have p166:0≤(x21_1:Int):=za_
          have q166:x21_1 < (l1_1.length:Int):=za_
          obtain ⟨ad166,e166,hx166_0⟩:=Kd.at_int HR1_1.out x21_1 p166 q166
          have hw166_0:=hx166_0
          cases e166
          replace hx166_0:=zhx HB hx166_0
          replace p166:=eq_true p166
          replace q166:=eq_true q166
          have p33:0≤(x21_1:Int):=za_
          have q33:(x21_1:Int) < ((x163001_1.length:Int):Int):=za_
          obtain ⟨go33,co33,eo33,gb33,gl33,cl33,HG33⟩:=Kd.R_form HO_163001.out (by omega)
          (first|cases eo33|(injection eo33 with ea_ en_ ec_;(first|subst ea_|(injection ea_ with ea_;subst ea_));subst ec_;clear en_))
          have GB33:=zm gb33
          have GG33:=zm HG33
          clear gb33 gl33 HG33
          (first|simp only [add_plain] at hx165_0|skip)
          obtain ⟨hx33_0,hf33_0⟩:=Kd.R_celln 0 HO_163001.out (x21_1:Int) p33 q33
          replace p33:=eq_true p33
          replace q33:=eq_true q33
          have HP40:=Kd.R_putn HO_163001.out (x21_1:Int) ji32
          rw [← Ny167.out] at HP40
          have HQ40:=zm HP40
          clear HP40
          refine start_ (n:=16) (S:=fun w'=>w'.cell? ⟨gb162,0,none⟩=some (.slice (some ⟨go29,0,none⟩) x163000_1.length co35)∧w'.cell? ⟨gb162,1,none⟩=some (.slice (some ⟨go33,0,none⟩) x163001_1.length co39)∧w'.cell? ⟨gb162,2,none⟩=some (.int .i64 t161)∧w'.cell? ⟨gb152,0,none⟩=some (.slice A1_0 l1_0.length c1_0)∧w'.cell? ⟨gb152,1,none⟩=some (.slice (some ad166) l1_1.length c1_1)∧w'.cell? ⟨gb152,2,none⟩=some (.int .i64 a1_2)∧w'.cell? ⟨go33,(x21_1).toNat,none⟩=some (.int .i64 (rd x163001_1 x21_1))∧w'.cell? (ad166.add (x21_1).toNat)=some (.int .i64 (rd l1_1 x21_1))) (ds:=[15]) (Array.replicate 16 false) (by kernel_rfl) rfl rfl ⟨(blk_cell BK162.out 0).trans rfl,(blk_cell BK162.out 1).trans rfl,(blk_cell BK162.out 2).trans rfl,(blk_cell BK152.out 0).trans rfl,(blk_cell BK152.out 1).trans rfl,(blk_cell BK152.out 2).trans rfl,hx165_0,(zhx HB hw166_0)⟩ (fun hHeld=>?_);refine with_tabW mapjnl_Join.tab9 mapjnl_Join.bits9 (fun HT_ HW_=>?_)
          generalize w37.drew=w38 at HO_163000 HO_163001 BK151 BK152 BK153 BK162 HB GG33 HQ36 HQ40 hf33_0 hx165_0 hx166_0 hx33_0 hHeld ⊢
          refine zpu 0 ?_
          refine zpu 2 ?_
          refine zpu 3 ?_
          refine zpu 5 ?_
          refine zpu 8 ?_
          refine zpu 10 ?_
          refine zta 1 hHeld ?_
          refine zta 4 hHeld ?_
          refine zpu 6 ?_
          refine zta 7 hHeld ?_
          refine zta 9 hHeld ?_
          refine zpu 11 ?_
          refine zta 12 hHeld ?_
          refine zpu 13 ?_
          refine zpu 14 ?_
          refine zla 15 none (fun K hK=>?_)
          refine skip_ (w1:=?_) (by rfl) rfl ?_ ?_
          rotate_left
          ·go_simp
           rfl
          refine hK.out _ _ ?_
          clear hK K
          refine zdo ?_
          try go_wp2
          go_roundg k1
          case measure=>have:=HK1.out;omega
          case rel=>exact ⟨(wrap64 (x21_1 + 1)),(y164),(y167),(.slice (some ⟨go29,0,none⟩) x163000_1.length co35),(.slice (some ⟨go33,0,none⟩) x163001_1.length co39),zs_,H',⟨by have:=HK1.out;omega⟩,⟨by (with_reducible repeat (first|apply zrA|apply zrN|apply zrD));exact Kd.R_mono (Kd.R_far (p:=⟨go33,(x21_1:Int).toNat,none⟩) (Kd.R_types HO_163000.out GG33.out (by decide)) (fun _ hk=>hk.2) (.int .i64 ji32)) (fun _ hk=>trivial)⟩,⟨by (with_reducible repeat (first|apply zrA|apply zrN|apply zrD));exact HQ40.out⟩,⟨by (with_reducible repeat (first|refine zbN ?_ _|refine zbD ?_|refine zbA ?_ _));refine blk_far ?_ (by have h_:=Kd.R_ne HO_163001.out BK151.out (by decide);intro e_;exact h_ (by rw [e_];rfl)) _;(with_reducible repeat (first|refine zbN ?_ _|refine zbD ?_|refine zbA ?_ _));exact BK151.out⟩,⟨by (with_reducible repeat (first|refine zbN ?_ _|refine zbD ?_|refine zbA ?_ _));refine blk_far ?_ (by have h_:=Kd.R_ne HO_163001.out BK152.out (by decide);intro e_;exact h_ (by rw [e_];rfl)) _;(with_reducible repeat (first|refine zbN ?_ _|refine zbD ?_|refine zbA ?_ _));exact BK152.out⟩,⟨by (with_reducible repeat (first|refine zbN ?_ _|refine zbD ?_|refine zbA ?_ _));refine blk_far ?_ (by have h_:=Kd.R_ne HO_163001.out BK153.out (by decide);intro e_;exact h_ (by rw [e_];rfl)) _;(with_reducible repeat (first|refine zbN ?_ _|refine zbD ?_|refine zbA ?_ _));exact BK153.out⟩,⟨by (with_reducible repeat (first|refine zbN ?_ _|refine zbD ?_|refine zbA ?_ _));refine blk_far ?_ (by have h_:=Kd.R_ne HO_163001.out BK162.out (by decide);intro e_;exact h_ (by rw [e_];rfl)) _;(with_reducible repeat (first|refine zbN ?_ _|refine zbD ?_|refine zbA ?_ _));exact BK162.out⟩,⟨by repeat (first|(with_reducible first|exact HB.out|apply zlA|apply zlN|apply zlD|refine zlS ?_ GB33.out|refine zlS ?_ GE151.out|refine zlS ?_ GE152.out|refine zlS ?_ GE153.out|refine zlS ?_ GE162.out)|exact HB.out)⟩⟩
         ·rw [if_neg c31] at H
          exact absurd H (by simp)
        ·rw [if_neg c30] at H
         exact absurd H (by simp)
       ·replace c28:=Bool.eq_false_iff.mpr c28
        subst c28
        have H1:(if x21_1 < (l1_0.length:Int) then (if x21_1 < (x163001_1.length:Int) then (if x21_1 < (l1_1.length:Int) then (mapjnl_Join.l0 k1 (t155.length:Int) (wrap64 (x21_1 + 1)) l1_0 l1_1 a1_2 (x163000_1.set (x21_1:Int).toNat (rdOf false l1_0 x21_1)) (x163001_1.set (x21_1:Int).toNat (mx (rd x163001_1 x21_1) (rd l1_1 x21_1))) t161) else (none)) else (none)) else (none))=some (r1,r2,r3,r4):=by rw [if_neg (show ¬ (false=true) by decide)] at H;exact H
        clear H
        have H:=H1
        clear H1
        by_cases c41:x21_1 < (l1_0.length:Int)
        ·rw [if_pos c41] at H
         have c41b0:decide (x21_1 < (l1_0.length:Int))=true:=decide_eq_true c41
         clear c41
         obtain ⟨y169,hy169⟩:∃ y_:List Bool,y_=(x163000_1.set (x21_1:Int).toNat (rdOf false l1_0 x21_1)):=⟨_,rfl⟩
         replace H:(if x21_1 < (x163001_1.length:Int) then (if x21_1 < (l1_1.length:Int) then (mapjnl_Join.l0 k1 (t155.length:Int) (wrap64 (x21_1 + 1)) l1_0 l1_1 a1_2 y169 (x163001_1.set (x21_1:Int).toNat (mx (rd x163001_1 x21_1) (rd l1_1 x21_1))) t161) else (none)) else (none))=some (r1,r2,r3,r4):=by first|(rw [hy169];with_reducible exact H)|(have H2_:=(Option.bind_some _ _).symm.trans H;rw [hy169];with_reducible exact H2_)|(have H2_:=(Option.bind_some _ _).symm.trans H;with_reducible exact H2_)|with_reducible exact H|(rw [hy169];exact H)|exact H
         have Ny169:=zm hy169
         clear hy169
         by_cases c43:x21_1 < (x163001_1.length:Int)
         ·rw [if_pos c43] at H
          have c43b0:decide (x21_1 < (x163001_1.length:Int))=true:=decide_eq_true c43
          clear c43
          by_cases c44:x21_1 < (l1_1.length:Int)
          ·rw [if_pos c44] at H
           have c44b0:decide (x21_1 < (l1_1.length:Int))=true:=decide_eq_true c44
           clear c44
           obtain ⟨ji45,hji45⟩:∃ j_:Int,(mx (rd x163001_1 x21_1) (rd l1_1 x21_1))=j_:=⟨_,rfl⟩
           replace H:(mapjnl_Join.l0 k1 (t155.length:Int) (wrap64 (x21_1 + 1)) l1_0 l1_1 a1_2 y169 (x163001_1.set (x21_1:Int).toNat (ji45)) t161)=some (r1,r2,r3,r4):=by first|(rw [hji45] at H;exact H)|(simp only [hji45] at H ⊢;exact H)
           have hji45_:(if (rd x163001_1 x21_1) < (rd l1_1 x21_1) then (rd l1_1 x21_1) else (rd x163001_1 x21_1))=ji45:=hji45
           obtain ⟨y172,hy172⟩:∃ y_:List Int,y_=(x163001_1.set (x21_1:Int).toNat (ji45)):=⟨_,rfl⟩
           replace H:(mapjnl_Join.l0 k1 (t155.length:Int) (wrap64 (x21_1 + 1)) l1_0 l1_1 a1_2 y169 y172 t161)=some (r1,r2,r3,r4):=by first|(rw [hy172];with_reducible exact H)|(have H2_:=(Option.bind_some _ _).symm.trans H;rw [hy172];with_reducible exact H2_)|(have H2_:=(Option.bind_some _ _).symm.trans H;with_reducible exact H2_)|with_reducible exact H|(rw [hy172];exact H)|exact H
           have Ny172:=zm hy172
           clear hy172
           have H':=zm H
           clear H
           try go_wp2
           have n0_:=zm (zrD HO_163000.out)
           have n1_:=zm (zrD HO_163001.out)
           have n2_:=zm (zbD BK151.out)
           have n3_:=zm (zbD BK152.out)
           have n4_:=zm (zbD BK153.out)
           have n5_:=zm (zbD BK162.out)
           have n6_:=zm (zlD HB.out)
           clear HO_163000 HO_163001 BK151 BK152 BK153 BK162 HB
           have HO_163000:=n0_
           have HO_163001:=n1_
           have BK151:=n2_
           have BK152:=n3_
           have BK153:=n4_
           have BK162:=n5_
           have HB:=n6_
           clear n0_ n1_ n2_ n3_ n4_ n5_ n6_
           obtain ⟨Ao48,co48,eo48⟩:=Kd.R_slice HO_163000.out
           (first|subst eo48|(injection eo48 with f1_ f2_ f3_;have f4_:=f1_.symm;have f5_:=f3_.symm;clear f1_ f2_ f3_;subst f4_;subst f5_))
           have p163:0≤(x21_1:Int):=za_
           have q163:x21_1 < (x163000_1.length:Int):=za_
           obtain ⟨ad163,e163,hx163_0⟩:=Kd.at_bool (Kd.R_reads' HO_163000.out).2.2 x21_1 p163 q163
           (try rw [← Nbq27.out] at hx163_0)
           cases e163
           replace p163:=eq_true p163
           replace q163:=eq_true q163
           have p168:0≤(x21_1:Int):=za_
           have q168:x21_1 < (l1_0.length:Int):=za_
           obtain ⟨ad168,e168,hx168_0⟩:=Kd.at_bool HR1_0.out x21_1 p168 q168
           have hw168_0:=hx168_0
           (try rw [← Nbq27.out] at hx168_0)
           cases e168
           replace hx168_0:=zhx HB hx168_0
           replace p168:=eq_true p168
           replace q168:=eq_true q168
           have p42:0≤(x21_1:Int):=za_
           have q42:(x21_1:Int) < ((x163000_1.length:Int):Int):=za_
           obtain ⟨go42,co42,eo42,gb42,gl42,cl42,HG42⟩:=Kd.R_form HO_163000.out (by omega)
           (first|cases eo42|(injection eo42 with ea_ en_ ec_;(first|subst ea_|(injection ea_ with ea_;subst ea_));subst ec_;clear en_))
           have GB42:=zm gb42
           have GG42:=zm HG42
           clear gb42 gl42 HG42
           (first|simp only [add_plain] at hx163_0|skip)
           obtain ⟨hx42_0,hf42_0⟩:=Kd.R_celln false HO_163000.out (x21_1:Int) p42 q42
           replace p42:=eq_true p42
           replace q42:=eq_true q42
           have HP49:=Kd.R_putn HO_163000.out (x21_1:Int) (rdOf false l1_0 x21_1)
           rw [← Ny169.out] at HP49
           have HQ49:=zm HP49
           clear HP49
           refine start_ (n:=17) (S:=fun w'=>w'.cell? ⟨gb162,0,none⟩=some (.slice (some ⟨go42,0,none⟩) x163000_1.length co48)∧w'.cell? ⟨gb162,1,none⟩=some (u163001)∧w'.cell? ⟨gb162,2,none⟩=some (.int .i64 t161)∧w'.cell? ⟨gb152,0,none⟩=some (.slice (some ad168) l1_0.length c1_0)∧w'.cell? ⟨gb152,1,none⟩=some (.slice A1_1 l1_1.length c1_1)∧w'.cell? ⟨gb152,2,none⟩=some (.int .i64 a1_2)∧w'.cell? ⟨go42,(x21_1).toNat,none⟩=some (.bool false)∧w'.cell? (ad168.add (x21_1).toNat)=some (.bool (rdOf false l1_0 x21_1))) (ds:=[16]) (Array.replicate 17 false) (by kernel_rfl) rfl rfl ⟨(blk_cell BK162.out 0).trans rfl,(blk_cell BK162.out 1).trans rfl,(blk_cell BK162.out 2).trans rfl,(blk_cell BK152.out 0).trans rfl,(blk_cell BK152.out 1).trans rfl,(blk_cell BK152.out 2).trans rfl,hx163_0,(zhx HB hw168_0)⟩ (fun hHeld=>?_);refine with_tabW mapjnl_Join.tab8 mapjnl_Join.bits8 (fun HT_ HW_=>?_)
           generalize wr.drew=w47 at HO_163000 HO_163001 BK151 BK152 BK153 BK162 HB GG42 HQ49 hf42_0 hx163_0 hx168_0 hx42_0 hHeld ⊢
           refine zpu 0 ?_
           refine zpu 2 ?_
           refine zpu 3 ?_
           refine zpu 5 ?_
           refine zta 1 hHeld ?_
           refine zta 4 hHeld ?_
           refine zpu 6 ?_
           refine zta 7 hHeld ?_
           refine zpu 8 ?_
           refine zpu 9 ?_
           refine zpu 11 ?_
           refine zta 10 hHeld ?_
           refine zpu 12 ?_
           refine zta 13 hHeld ?_
           refine zpu 14 ?_
           refine zpu 15 ?_
           refine zla 16 none (fun K hK=>?_)
           refine skip_ (w1:=?_) (by rfl) rfl ?_ ?_
           rotate_left
           ·go_simp
            rfl
           refine hK.out _ _ ?_
           clear hK K
           refine zdo ?_
           try go_wp2
           have n0_:Aside0 (Kd.R Kd.bool 4 (w47.setCell ⟨go42,(x21_1:Int).toNat,none⟩ (.bool (rdOf false l1_0 x21_1))) w.heap.size (fun _=>True) (.slice (some ⟨go42,0,none⟩) x163000_1.length co48) y169):=⟨by (with_reducible repeat (first|apply zrA|apply zrN|apply zrD));exact HQ49.out⟩
           have n1_:Aside0 (Kd.R (Kd.int .i64) 2 (w47.setCell ⟨go42,(x21_1:Int).toNat,none⟩ (.bool (rdOf false l1_0 x21_1))) w.heap.size (fun _=>True) u163001 x163001_1):=⟨by (with_reducible repeat (first|apply zrA|apply zrN|apply zrD));exact Kd.R_mono (Kd.R_far (p:=⟨go42,(x21_1:Int).toNat,none⟩) (Kd.R_types HO_163001.out GG42.out (by decide)) (fun _ hk=>hk.2) (.bool (rdOf false l1_0 x21_1))) (fun _ hk=>trivial)⟩
           have n2_:Aside0 ((w47.setCell ⟨go42,(x21_1:Int).toNat,none⟩ (.bool (rdOf false l1_0 x21_1))).heap[gb151]?=some (.cells #[.slice A0_0 l0_0.length c0_0,.slice A0_1 l0_1.length c0_1,.int .i64 a0_2] 25 (0,0))):=⟨by (with_reducible repeat (first|refine zbN ?_ _|refine zbD ?_|refine zbA ?_ _));refine blk_far ?_ (by have h_:=Kd.R_ne HO_163000.out BK151.out (by decide);intro e_;exact h_ (by rw [e_];rfl)) _;(with_reducible repeat (first|refine zbN ?_ _|refine zbD ?_|refine zbA ?_ _));exact BK151.out⟩
           have n3_:Aside0 ((w47.setCell ⟨go42,(x21_1:Int).toNat,none⟩ (.bool (rdOf false l1_0 x21_1))).heap[gb152]?=some (.cells #[.slice (some ad168) l1_0.length c1_0,.slice A1_1 l1_1.length c1_1,.int .i64 a1_2] 25 (0,0))):=⟨by (with_reducible repeat (first|refine zbN ?_ _|refine zbD ?_|refine zbA ?_ _));refine blk_far ?_ (by have h_:=Kd.R_ne HO_163000.out BK152.out (by decide);intro e_;exact h_ (by rw [e_];rfl)) _;(with_reducible repeat (first|refine zbN ?_ _|refine zbD ?_|refine zbA ?_ _));exact BK152.out⟩
           have n4_:Aside0 ((w47.setCell ⟨go42,(x21_1:Int).toNat,none⟩ (.bool (rdOf false l1_0 x21_1))).heap[gb153]?=some (.cells #[.slice none 0 0,.slice none 0 0,.int .i64 0] 25 (0,0))):=⟨by (with_reducible repeat (first|refine zbN ?_ _|refine zbD ?_|refine zbA ?_ _));refine blk_far ?_ (by have h_:=Kd.R_ne HO_163000.out BK153.out (by decide);intro e_;exact h_ (by rw [e_];rfl)) _;(with_reducible repeat (first|refine zbN ?_ _|refine zbD ?_|refine zbA ?_ _));exact BK153.out⟩
           have n5_:Aside0 ((w47.setCell ⟨go42,(x21_1:Int).toNat,none⟩ (.bool (rdOf false l1_0 x21_1))).heap[gb162]?=some (.cells #[.slice (some ⟨go42,0,none⟩) x163000_1.length co48,u163001,.int .i64 t161] 25 (0,0))):=⟨by (with_reducible repeat (first|refine zbN ?_ _|refine zbD ?_|refine zbA ?_ _));refine blk_far ?_ (by have h_:=Kd.R_ne HO_163000.out BK162.out (by decide);intro e_;exact h_ (by rw [e_];rfl)) _;(with_reducible repeat (first|refine zbN ?_ _|refine zbD ?_|refine zbA ?_ _));exact BK162.out⟩
           have n6_:Aside0 (Below w.heap.size w (w47.setCell ⟨go42,(x21_1:Int).toNat,none⟩ (.bool (rdOf false l1_0 x21_1)))):=⟨by repeat (first|(with_reducible first|exact HB.out|apply zlA|apply zlN|apply zlD|refine zlS ?_ GB42.out|refine zlS ?_ GE151.out|refine zlS ?_ GE152.out|refine zlS ?_ GE153.out|refine zlS ?_ GE162.out)|exact HB.out)⟩
           (try clear HO_163000)
           (try clear HO_163001)
           (try clear BK151)
           (try clear BK152)
           (try clear BK153)
           (try clear BK162)
           (try clear HB)
           generalize (w47.setCell ⟨go42,(x21_1:Int).toNat,none⟩ (.bool (rdOf false l1_0 x21_1)))=w50 at n0_ n1_ n2_ n3_ n4_ n5_ n6_ ⊢
           have HO_163000:=n0_
           have HO_163001:=n1_
           have BK151:=n2_
           have BK152:=n3_
           have BK153:=n4_
           have BK162:=n5_
           have HB:=n6_
           clear n0_ n1_ n2_ n3_ n4_ n5_ n6_
           have n0_:=zm (zrD HO_163000.out)
           have n1_:=zm (zrD HO_163001.out)
           have n2_:=zm (zbD BK151.out)
           have n3_:=zm (zbD BK152.out)
           have n4_:=zm (zbD BK153.out)
           have n5_:=zm (zbD BK162.out)
           have n6_:=zm (zlD HB.out)
           clear HO_163000 HO_163001 BK151 BK152 BK153 BK162 HB
           have HO_163000:=n0_
           have HO_163001:=n1_
           have BK151:=n2_
           have BK152:=n3_
           have BK153:=n4_
           have BK162:=n5_
           have HB:=n6_
           clear n0_ n1_ n2_ n3_ n4_ n5_ n6_
           obtain ⟨Ao52,co52,eo52⟩:=Kd.R_slice HO_163001.out
           (first|subst eo52|(injection eo52 with f1_ f2_ f3_;have f4_:=f1_.symm;have f5_:=f3_.symm;clear f1_ f2_ f3_;subst f4_;subst f5_))
           have p170:0≤(x21_1:Int):=za_
           have q170:x21_1 < (x163001_1.length:Int):=za_
           obtain ⟨ad170,e170,hx170_0⟩:=Kd.at_int (Kd.R_reads' HO_163001.out).2.2 x21_1 p170 q170
           cases e170
           replace p170:=eq_true p170
           replace q170:=eq_true q170
           have p171:0≤(x21_1:Int):=za_
           have q171:x21_1 < (l1_1.length:Int):=za_
           obtain ⟨ad171,e171,hx171_0⟩:=Kd.at_int HR1_1.out x21_1 p171 q171
           have hw171_0:=hx171_0
           cases e171
           replace hx171_0:=zhx HB hx171_0
           replace p171:=eq_true p171
           replace q171:=eq_true q171
           have p46:0≤(x21_1:Int):=za_
           have q46:(x21_1:Int) < ((x163001_1.length:Int):Int):=za_
           obtain ⟨go46,co46,eo46,gb46,gl46,cl46,HG46⟩:=Kd.R_form HO_163001.out (by omega)
           (first|cases eo46|(injection eo46 with ea_ en_ ec_;(first|subst ea_|(injection ea_ with ea_;subst ea_));subst ec_;clear en_))
           have GB46:=zm gb46
           have GG46:=zm HG46
           clear gb46 gl46 HG46
           (first|simp only [add_plain] at hx170_0|skip)
           obtain ⟨hx46_0,hf46_0⟩:=Kd.R_celln 0 HO_163001.out (x21_1:Int) p46 q46
           replace p46:=eq_true p46
           replace q46:=eq_true q46
           have HP53:=Kd.R_putn HO_163001.out (x21_1:Int) ji45
           rw [← Ny172.out] at HP53
           have HQ53:=zm HP53
           clear HP53
           refine start_ (n:=16) (S:=fun w'=>w'.cell? ⟨gb162,0,none⟩=some (.slice (some ⟨go42,0,none⟩) x163000_1.length co48)∧w'.cell? ⟨gb162,1,none⟩=some (.slice (some ⟨go46,0,none⟩) x163001_1.length co52)∧w'.cell? ⟨gb162,2,none⟩=some (.int .i64 t161)∧w'.cell? ⟨gb152,0,none⟩=some (.slice (some ad168) l1_0.length c1_0)∧w'.cell? ⟨gb152,1,none⟩=some (.slice (some ad171) l1_1.length c1_1)∧w'.cell? ⟨gb152,2,none⟩=some (.int .i64 a1_2)∧w'.cell? ⟨go46,(x21_1).toNat,none⟩=some (.int .i64 (rd x163001_1 x21_1))∧w'.cell? (ad171.add (x21_1).toNat)=some (.int .i64 (rd l1_1 x21_1))) (ds:=[15]) (Array.replicate 16 false) (by kernel_rfl) rfl rfl ⟨(blk_cell BK162.out 0).trans rfl,(blk_cell BK162.out 1).trans rfl,(blk_cell BK162.out 2).trans rfl,(blk_cell BK152.out 0).trans rfl,(blk_cell BK152.out 1).trans rfl,(blk_cell BK152.out 2).trans rfl,hx170_0,(zhx HB hw171_0)⟩ (fun hHeld=>?_);refine with_tabW mapjnl_Join.tab9 mapjnl_Join.bits9 (fun HT_ HW_=>?_)
           generalize w50.drew=w51 at HO_163000 HO_163001 BK151 BK152 BK153 BK162 HB GG46 HQ49 HQ53 hf46_0 hx170_0 hx171_0 hx46_0 hHeld ⊢
           refine zpu 0 ?_
           refine zpu 2 ?_
           refine zpu 3 ?_
           refine zpu 5 ?_
           refine zpu 8 ?_
           refine zpu 10 ?_
           refine zta 1 hHeld ?_
           refine zta 4 hHeld ?_
           refine zpu 6 ?_
           refine zta 7 hHeld ?_
           refine zta 9 hHeld ?_
           refine zpu 11 ?_
           refine zta 12 hHeld ?_
           refine zpu 13 ?_
           refine zpu 14 ?_
           refine zla 15 none (fun K hK=>?_)
           refine skip_ (w1:=?_) (by rfl) rfl ?_ ?_
           rotate_left
           ·go_simp
            rfl
           refine hK.out _ _ ?_
           clear hK K
           refine zdo ?_
           try go_wp2
           go_roundg k1
           case measure=>have:=HK1.out;omega
           case rel=>exact ⟨(wrap64 (x21_1 + 1)),(y169),(y172),(.slice (some ⟨go42,0,none⟩) x163000_1.length co48),(.slice (some ⟨go46,0,none⟩) x163001_1.length co52),zs_,H',⟨by have:=HK1.out;omega⟩,⟨by (with_reducible repeat (first|apply zrA|apply zrN|apply zrD));exact Kd.R_mono (Kd.R_far (p:=⟨go46,(x21_1:Int).toNat,none⟩) (Kd.R_types HO_163000.out GG46.out (by decide)) (fun _ hk=>hk.2) (.int .i64 ji45)) (fun _ hk=>trivial)⟩,⟨by (with_reducible repeat (first|apply zrA|apply zrN|apply zrD));exact HQ53.out⟩,⟨by (with_reducible repeat (first|refine zbN ?_ _|refine zbD ?_|refine zbA ?_ _));refine blk_far ?_ (by have h_:=Kd.R_ne HO_163001.out BK151.out (by decide);intro e_;exact h_ (by rw [e_];rfl)) _;(with_reducible repeat (first|refine zbN ?_ _|refine zbD ?_|refine zbA ?_ _));exact BK151.out⟩,⟨by (with_reducible repeat (first|refine zbN ?_ _|refine zbD ?_|refine zbA ?_ _));refine blk_far ?_ (by have h_:=Kd.R_ne HO_163001.out BK152.out (by decide);intro e_;exact h_ (by rw [e_];rfl)) _;(with_reducible repeat (first|refine zbN ?_ _|refine zbD ?_|refine zbA ?_ _));exact BK152.out⟩,⟨by (with_reducible repeat (first|refine zbN ?_ _|refine zbD ?_|refine zbA ?_ _));refine blk_far ?_ (by have h_:=Kd.R_ne HO_163001.out BK153.out (by decide);intro e_;exact h_ (by rw [e_];rfl)) _;(with_reducible repeat (first|refine zbN ?_ _|refine zbD ?_|refine zbA ?_ _));exact BK153.out⟩,⟨by (with_reducible repeat (first|refine zbN ?_ _|refine zbD ?_|refine zbA ?_ _));refine blk_far ?_ (by have h_:=Kd.R_ne HO_163001.out BK162.out (by decide);intro e_;exact h_ (by rw [e_];rfl)) _;(with_reducible repeat (first|refine zbN ?_ _|refine zbD ?_|refine zbA ?_ _));exact BK162.out⟩,⟨by repeat (first|(with_reducible first|exact HB.out|apply zlA|apply zlN|apply zlD|refine zlS ?_ GB46.out|refine zlS ?_ GE151.out|refine zlS ?_ GE152.out|refine zlS ?_ GE153.out|refine zlS ?_ GE162.out)|exact HB.out)⟩⟩
          ·rw [if_neg c44] at H
           exact absurd H (by simp)
         ·rw [if_neg c43] at H
          exact absurd H (by simp)
        ·rw [if_neg c41] at H
         exact absurd H (by simp)
      ·rw [if_neg c26] at H
       exact absurd H (by simp)
     ·rw [if_neg c25] at H
      exact absurd H (by simp)
    ·rw [if_neg c24] at H
     have c24b0:decide (x21_1 < (t155.length:Int))=false:=decide_eq_false c24
     clear c24
     obtain ⟨ji54,hji54⟩:∃ j_:Int,(mx t161 a1_2)=j_:=⟨_,rfl⟩
     replace H:(some (x163000_1,x163001_1,ji54,0))=some (r1,r2,r3,r4):=by first|(rw [hji54] at H;exact H)|(simp only [hji54] at H ⊢;exact H)
     have hji54_:(if t161 < a1_2 then a1_2 else t161)=ji54:=hji54
     simp only [Option.some.injEq,Prod.mk.injEq] at H
     obtain ⟨rfl,rfl,rfl,rfl⟩:=H
     have hnb55:=NB162_151.out
     have hnc55:=NB151_162.out
     have hnb56:=NB162_152.out
     have hnc56:=NB152_162.out
     have hnb57:=NB162_153.out
     have hnc57:=NB153_162.out
     obtain ⟨hcz58_0,hcz58_1,hcz58_2,hfz58_0,hfz58_1,hfz58_2⟩:=zc3 BK162.out
     have hnb59:=NB152_151.out
     have hnc59:=NB151_152.out
     have hnb60:=NB152_153.out
     have hnc60:=NB153_152.out
     obtain ⟨hcz61_0,hcz61_1,hcz61_2,hfz61_0,hfz61_1,hfz61_2⟩:=zc3 BK152.out
     obtain ⟨Ao62,co62,eo62⟩:=Kd.R_slice HO_163000.out
     subst eo62
     have hnb63:=NB153_151.out
     have hnc63:=NB151_153.out
     obtain ⟨hcz64_0,hcz64_1,hcz64_2,hfz64_0,hfz64_1,hfz64_2⟩:=zc3 BK153.out
     obtain ⟨Ao65,co65,eo65⟩:=Kd.R_slice HO_163001.out
     subst eo65
     go_wp2
     refine bodyPost_ret (results_ct rfl _ _ gb153 25 #[.slice Ao62 x163000_1.length co62,.slice Ao65 x163001_1.length co65,.int .i64 ji54] (0,0) _ rfl (by (with_reducible repeat (first|refine zbN ?_ _|refine zbD ?_|refine zbA ?_ _));refine blk_put (cs:=#[.slice Ao62 x163000_1.length co62,.slice Ao65 x163001_1.length co65,.int .i64 0]) ?_ 2 _ rfl;(with_reducible repeat (first|refine zbN ?_ _|refine zbD ?_|refine zbA ?_ _));refine blk_put (cs:=#[.slice Ao62 x163000_1.length co62,.slice none 0 0,.int .i64 0]) ?_ 1 _ rfl;(with_reducible repeat (first|refine zbN ?_ _|refine zbD ?_|refine zbA ?_ _));refine blk_put (cs:=#[.slice none 0 0,.slice none 0 0,.int .i64 0]) ?_ 0 _ rfl;(with_reducible repeat (first|refine zbN ?_ _|refine zbD ?_|refine zbA ?_ _));refine blk_far ?_ NB153_162.out _;(with_reducible repeat (first|refine zbN ?_ _|refine zbD ?_|refine zbA ?_ _));exact BK153.out) Try.underlying25 rfl (by kernel_rfl)) rfl ?_
     exact ⟨_,_,by first|rfl|(simp [errW_none,errW_some] <;> rfl)|(simp only [← hji54];first|rfl|(simp [errW_none,errW_some] <;> rfl))|(simp [*,errW_none,errW_some] <;> rfl),by (with_reducible repeat (first|apply zrA|apply zrN|apply zrD));exact Kd.R_mono (Kd.R_far (p:=⟨gb153,2,none⟩) (Kd.R_far (p:=⟨gb153,1,none⟩) (Kd.R_far (p:=⟨gb153,0,none⟩) (Kd.R_far (p:=⟨gb162,2,none⟩) (Kd.R_types (Kd.R_types HO_163000.out BK162.out (by decide)) BK153.out (by decide)) (fun _ hk=>hk.1.2) (.int .i64 ji54)) (fun _ hk=>hk.2) (.slice Ao62 x163000_1.length co62)) (fun _ hk=>hk.2) (.slice Ao65 x163001_1.length co65)) (fun _ hk=>hk.2) (.int .i64 ji54)) (fun _ hk=>trivial),by (with_reducible repeat (first|apply zrA|apply zrN|apply zrD));exact Kd.R_mono (Kd.R_far (p:=⟨gb153,2,none⟩) (Kd.R_far (p:=⟨gb153,1,none⟩) (Kd.R_far (p:=⟨gb153,0,none⟩) (Kd.R_far (p:=⟨gb162,2,none⟩) (Kd.R_types (Kd.R_types HO_163001.out BK162.out (by decide)) BK153.out (by decide)) (fun _ hk=>hk.1.2) (.int .i64 ji54)) (fun _ hk=>hk.2) (.slice Ao62 x163000_1.length co62)) (fun _ hk=>hk.2) (.slice Ao65 x163001_1.length co65)) (fun _ hk=>hk.2) (.int .i64 ji54)) (fun _ hk=>trivial),zb_⟩
 ·rw [if_neg c4] at H
  have c4b0:(t154 == 0)=false:=beq_eq_false_iff_ne.mpr c4
  have c4b1:(t154 != 0)=true:=bne_iff_ne.mpr c4
  simp only [Option.some.injEq,Prod.mk.injEq] at H
  obtain ⟨rfl,rfl,rfl,rfl⟩:=H
  go_enter Try.func13,Try.ntmps13
  go_wp2_with (first|((with_reducible refine gate_dst (N:=2) rfl ?_);refine zbx 2 #[.slice A0_0 l0_0.length c0_0,.slice A0_1 l0_1.length c0_1,.int .i64 a0_2] 25 ?_;intro gb151 hg w66 hbox hb;have n0_:=zkH HB hb;have n1_:=zm (hbox);have n2_:=zkG HB hg;have n3_:=zkG HB hg;clear HB;have HB:=n0_;have BK151:=n1_;have GW151:=n2_;have GE151:=n3_;clear n0_ n1_ n2_ n3_;clear hb hbox hg)|((with_reducible refine gate_dst (N:=3) rfl ?_);refine zbx 3 #[.slice A1_0 l1_0.length c1_0,.slice A1_1 l1_1.length c1_1,.int .i64 a1_2] 25 ?_;intro gb152 hg w67 hbox hb;have n0_:=zkB BK151 hb;have n1_:=zkH HB hb;have n2_:=zm (hbox);have n3_:=zkG HB hg;have n4_:=zkG HB hg;have n5_:=zkN BK151 hg;have n6_:=zkM BK151 hg;clear BK151 HB;have BK151:=n0_;have HB:=n1_;have BK152:=n2_;have GW152:=n3_;have GE152:=n4_;have NB151_152:=n5_;have NB152_151:=n6_;clear n0_ n1_ n2_ n3_ n4_ n5_ n6_;clear hb hbox hg)|((with_reducible refine gate_dst (N:=4) rfl ?_);refine zbx 4 #[.slice none 0 0,.slice none 0 0,.int .i64 0] 25 ?_;intro gb153 hg w68 hbox hb;have n0_:=zkB BK151 hb;have n1_:=zkB BK152 hb;have n2_:=zkH HB hb;have n3_:=zm (hbox);have n4_:=zkG HB hg;have n5_:=zkG HB hg;have n6_:=zkN BK151 hg;have n7_:=zkM BK151 hg;have n8_:=zkN BK152 hg;have n9_:=zkM BK152 hg;clear BK151 BK152 HB;have BK151:=n0_;have BK152:=n1_;have HB:=n2_;have BK153:=n3_;have GW153:=n4_;have GE153:=n5_;have NB151_153:=n6_;have NB153_151:=n7_;have NB152_153:=n8_;have NB153_152:=n9_;clear n0_ n1_ n2_ n3_ n4_ n5_ n6_ n7_ n8_ n9_;clear hb hbox hg;have hnb69:=NB151_152.out;have hnc69:=NB152_151.out;have hnb70:=NB151_153.out;have hnc70:=NB153_151.out;obtain ⟨hcz71_0,hcz71_1,hcz71_2,hfz71_0,hfz71_1,hfz71_2⟩:=zc3 BK151.out;have hnb72:=NB152_153.out;have hnc72:=NB153_152.out;obtain ⟨hcz73_0,hcz73_1,hcz73_2,hfz73_0,hfz73_1,hfz73_2⟩:=zc3 BK152.out)|((with_reducible refine gate_callee (f:=50) rfl ?_);refine goesL_ (some 11) rfl rfl Try.func50 (by kernel_rfl) rfl #[.agg #[.slice A0_0 l0_0.length c0_0,.slice A0_1 l0_1.length c0_1,.int .i64 a0_2],.agg #[.slice A1_0 l1_0.length c1_0,.slice A1_1 l1_1.length c1_1,.int .i64 a1_2]] rfl (by (try simp only [List.map_toArray,List.map_cons,List.map_nil]);first|done|rfl|(simp only [List.length_drop,List.length_take];rfl)) ?_;(with_reducible refine (mapjnl_both.calls k _ _ l0_0 _ _ l0_1 a0_2 _ _ l1_0 _ _ l1_1 a1_2 t154 _ ?side1 ?side2 ?side3 ?side4 ?side5 ?side6 ?side7 ?side8 A3.out).mono ?_);(case side1=>exact zC HR0_0);(case side2=>exact HC0_0.out);(case side3=>exact zC HR0_1);(case side4=>exact HC0_1.out);(case side5=>exact zC HR1_0);(case side6=>exact HC1_0.out);(case side7=>exact zC HR1_1);(case side8=>exact HC1_1.out);rintro e w74 ⟨rfl,hb⟩;refine ⟨_,rfl,?_⟩;have n0_:=zkB BK151 hb;have n1_:=zkB BK152 hb;have n2_:=zkB BK153 hb;have n3_:=zkH HB hb;clear BK151 BK152 BK153 HB;have BK151:=n0_;have BK152:=n1_;have BK153:=n2_;have HB:=n3_;clear n0_ n1_ n2_ n3_;(try clear hb);(try clear hb2);(try clear hk);(try clear hi);obtain ⟨hcz75_0,hcz75_1,hcz75_2,hfz75_0,hfz75_1,hfz75_2⟩:=zc3 BK153.out))
  refine bodyPost_ret (results_ct rfl _ _ gb153 25 #[.slice none 0 0,.slice none 0 0,.int .i64 0] (0,0) _ rfl (by (with_reducible repeat (first|refine zbN ?_ _|refine zbD ?_|refine zbA ?_ _));refine blk_put (cs:=#[.slice none 0 0,.slice none 0 0,.int .i64 0]) ?_ 2 _ rfl;(with_reducible repeat (first|refine zbN ?_ _|refine zbD ?_|refine zbA ?_ _));refine blk_put (cs:=#[.slice none 0 0,.slice none 0 0,.int .i64 0]) ?_ 1 _ rfl;(with_reducible repeat (first|refine zbN ?_ _|refine zbD ?_|refine zbA ?_ _));refine blk_put (cs:=#[.slice none 0 0,.slice none 0 0,.int .i64 0]) ?_ 0 _ rfl;(with_reducible repeat (first|refine zbN ?_ _|refine zbD ?_|refine zbA ?_ _));exact BK153.out) Try.underlying25 rfl (by kernel_rfl)) rfl ?_
  exact ⟨_,_,ze_,zr_,zr_,zb_⟩
end Go.Proofs.Ytkhbmgclklmimaa.Print
end
section
namespace Go.Proofs.Ytkhbmgclklmimaa.Print
open Go.RowKit Go.Proofs.YtkhbmgclklmimaaW.PrintWords Go.Proofs.YtkhbmgclklmimaaW.PrintLast Go.Proofs.YtkhbmgclklmimaaW.PrintMore
attribute [local go_sem] max2_int min2_int max_two min_two max_three min_three max_four min_four   -- for this text's walks alone
attribute [local go_sem ↓] Go.Proofs.Ytkhbmgclklmimaa.Sem.isSome_setCell
attribute [local go_sem] Go.Instr.field Go.asAgg
set_option linter.unusedVariables false
set_option linter.unusedSimpArgs false
def slices_Equal_bool_bool.l0:Nat → List Bool → List Bool → Int → Int → Option (Bool)
 | 0,_,_,_,_=>none
 | k + 1,x0,x1,x12,x13=>if x13 < x12 then (if 0≤x13 then (if x13 < (x0.length:Int) then (if x13 < (x1.length:Int) then (if ((rdOf false x0 x13) != (rdOf false x1 x13))=true then (some false) else (slices_Equal_bool_bool.l0 k x0 x1 x12 (wrap64 (x13 + 1)))) else (none)) else (none)) else (none)) else (some true)
def slices_Equal_bool_bool.f (k:Nat) (l0:List Bool) (l1:List Bool):Option (Bool):=if (l0.length:Int)=(l1.length:Int) then (slices_Equal_bool_bool.l0 k l0 l1 (l0.length:Int) 0) else (some false)
theorem slices_Equal_bool_bool.mono_l:∀ k,(∀ y0 y1 y2 y3,LeO (slices_Equal_bool_bool.l0 k y0 y1 y2 y3) (slices_Equal_bool_bool.l0 (k + 1) y0 y1 y2 y3))
 | 0=>fun _ _ _ _ r h=>by simp [slices_Equal_bool_bool.l0] at h
 | k + 1=>by
  have ih0:=slices_Equal_bool_bool.mono_l k
  ·intro y0 y1 y2 y3
   unfold slices_Equal_bool_bool.l0
   repeat' first
   | (with_reducible exact ih0 _ _ _ _)
   | (with_reducible exact LeO.refl _)
   | (with_reducible exact LeO.none _)
   | (with_reducible refine LeO.ite ?_ ?_)
   | (with_reducible refine LeO.bind ?_ (fun _=>?_))
   | exact ih0 _ _ _ _
   | exact LeO.none _
   | refine LeO.ite ?_ ?_
   | refine LeO.bind ?_ (fun _=>?_)
theorem slices_Equal_bool_bool.mono:∀ a0 a1 k,LeO (slices_Equal_bool_bool.f k a0 a1) (slices_Equal_bool_bool.f (k + 1) a0 a1):=by
 intro a0 a1 k
 have ih0:=slices_Equal_bool_bool.mono_l k
 unfold slices_Equal_bool_bool.f
 repeat' first
   | (with_reducible exact ih0 _ _ _ _)
   | (with_reducible exact LeO.refl _)
   | (with_reducible exact LeO.none _)
   | (with_reducible refine LeO.ite ?_ ?_)
   | (with_reducible refine LeO.bind ?_ (fun _=>?_))
   | exact ih0 _ _ _ _
   | exact LeO.none _
   | refine LeO.ite ?_ ?_
   | refine LeO.bind ?_ (fun _=>?_)
set_option maxHeartbeats 8000000 in
set_option maxRecDepth 100000 in
theorem slices_Equal_bool_bool.calls (k:Nat) (A0:Option Addr) (c0:Nat) (l0:List Bool) (A1:Option Addr) (c1:Nat) (l1:List Bool) (r:Bool) (w:World) (hr0:Kd.C Kd.bool w A0 l0.length l0) (hc0:l0.length≤c0) (hr1:Kd.C Kd.bool w A1 l1.length l1) (hc1:l1.length≤c1) (h:slices_Equal_bool_bool.f k l0 l1=some r) :
  Calls Try.prog 59 #[.slice A0 l0.length c0,.slice A1 l1.length c1] w fun e w'=>e=.returned (.bool r)∧Drawn0 w w':=by
 have HR0:=zm hr0
 have HC0:=zm hc0
 clear hr0 hc0
 have HR1:=zm hr1
 have HC1:=zm hc1
 clear hr1 hc1
 have H:(if (l0.length:Int)=(l1.length:Int) then (slices_Equal_bool_bool.l0 k l0 l1 (l0.length:Int) 0) else (some false))=some r:=h
 clear h
 by_cases c3:(l0.length:Int)=(l1.length:Int)
 ·rw [if_pos c3] at H
  have c3b0:((l0.length:Int) == (l1.length:Int))=true:=beq_iff_eq.mpr c3
  have c3b1:((l0.length:Int) != (l1.length:Int))=false:=bne_eq_false_iff_eq.mpr c3
  have c3b2:(l0.length == l1.length)=true:=by first|simpa using c3|(simp at c3 ⊢;omega)
  clear c3
  have H':=zm H
  clear H
  go_enter Try.func59,Try.ntmps59
  go_wp2
  repeat (go_quiet (fail);try go_wp2)
  go_loopg [13] k (fun kq v13 w'=>∃ (x13_1:Int),v13=.int .i64 x13_1∧Aside0 (slices_Equal_bool_bool.l0 kq l0 l1 (l0.length:Int) x13_1=some r)∧Aside0 (kq≤k)∧Drawn0 w w')
  case atStart=>exact ⟨(0),zs_,H',⟨Nat.le_refl _⟩,by repeat (first|exact Drawn0.refl _|apply Drawn0.step)⟩
  case round =>
   clear H'
   try clear c1
   try clear p2
   try clear c3
   try clear c3b0
   try clear c3b1
   try clear c3b2
   obtain ⟨x13_1,rfl,HA,HK1,⟨m1,rfl⟩⟩:=hrel
   cases gk with
   | zero=>exact absurd HA.out (by simp [slices_Equal_bool_bool.l0])
   | succ k1 =>
    have H:=HA.out
    clear HA
    simp only [slices_Equal_bool_bool.l0] at H
    by_cases c4:x13_1 < (l0.length:Int)
    ·rw [if_pos c4] at H
     have c4b0:decide (x13_1 < (l0.length:Int))=true:=decide_eq_true c4
     clear c4
     by_cases c5:0≤x13_1
     ·rw [if_pos c5] at H
      have c5b0:decide (0≤x13_1)=true:=decide_eq_true c5
      clear c5
      by_cases c6:x13_1 < (l0.length:Int)
      ·rw [if_pos c6] at H
       have c6b0:decide (x13_1 < (l0.length:Int))=true:=decide_eq_true c6
       clear c6
       by_cases c7:x13_1 < (l1.length:Int)
       ·rw [if_pos c7] at H
        have c7b0:decide (x13_1 < (l1.length:Int))=true:=decide_eq_true c7
        clear c7
        by_cases c8:((rdOf false l0 x13_1) != (rdOf false l1 x13_1))=true
        ·rw [if_pos c8] at H
         have c8b0:((rdOf false l0 x13_1) != (rdOf false l1 x13_1))=true:=c8
         (try (have c8b1:decide ((rdOf false l0 x13_1)=(rdOf false l1 x13_1))=false:=by simpa using c8))
         (try (have c8b2:((rdOf false l0 x13_1) == (rdOf false l1 x13_1))=false:=by simpa using c8))
         (try (have c8b3:¬ ((rdOf false l0 x13_1)=(rdOf false l1 x13_1)):=by simpa using c8))
         clear c8
         obtain rfl:=Option.some.inj H
         have p204:0≤(x13_1:Int):=za_
         have q204:x13_1 < (l0.length:Int):=za_
         obtain ⟨ad204,e204,hx204_0⟩:=Kd.at_bool HR0.out x13_1 p204 q204
         cases e204
         replace p204:=eq_true p204
         replace q204:=eq_true q204
         have p205:0≤(x13_1:Int):=za_
         have q205:x13_1 < (l1.length:Int):=za_
         obtain ⟨ad205,e205,hx205_0⟩:=Kd.at_bool HR1.out x13_1 p205 q205
         cases e205
         replace p205:=eq_true p205
         replace q205:=eq_true q205
         go_wp2
         repeat (go_quiet (fail);try go_wp2)
         go_ret
         exact ⟨by first|rfl|(simp;done)|(simp [*];done),by repeat (first|exact Drawn0.refl _|apply Drawn0.step)⟩
        ·rw [if_neg c8] at H
         have c8b0:((rdOf false l0 x13_1) != (rdOf false l1 x13_1))=false:=by simpa using c8
         (try (have c8b1:decide ((rdOf false l0 x13_1)=(rdOf false l1 x13_1))=true:=by simpa using c8))
         (try (have c8b2:((rdOf false l0 x13_1) == (rdOf false l1 x13_1))=true:=by simpa using c8))
         clear c8
         have H':=zm H
         clear H
         have p204:0≤(x13_1:Int):=za_
         have q204:x13_1 < (l0.length:Int):=za_
         obtain ⟨ad204,e204,hx204_0⟩:=Kd.at_bool HR0.out x13_1 p204 q204
         cases e204
         replace p204:=eq_true p204
         replace q204:=eq_true q204
         have p205:0≤(x13_1:Int):=za_
         have q205:x13_1 < (l1.length:Int):=za_
         obtain ⟨ad205,e205,hx205_0⟩:=Kd.at_bool HR1.out x13_1 p205 q205
         cases e205
         replace p205:=eq_true p205
         replace q205:=eq_true q205
         go_wp2
         repeat (go_quiet (fail);try go_wp2)
         go_roundg k1
         case measure=>have:=HK1.out;omega
         case rel=>exact ⟨(wrap64 (x13_1 + 1)),zs_,H',⟨by have:=HK1.out;omega⟩,by repeat (first|exact Drawn0.refl _|apply Drawn0.step)⟩
       ·rw [if_neg c7] at H
        exact absurd H (by simp)
      ·rw [if_neg c6] at H
       exact absurd H (by simp)
     ·rw [if_neg c5] at H
      exact absurd H (by simp)
    ·rw [if_neg c4] at H
     have c4b0:decide (x13_1 < (l0.length:Int))=false:=decide_eq_false c4
     clear c4
     obtain rfl:=Option.some.inj H
     go_wp2
     repeat (go_quiet (fail);try go_wp2)
     go_ret
     exact ⟨by first|rfl|(simp;done)|(simp [*];done),by repeat (first|exact Drawn0.refl _|apply Drawn0.step)⟩
 ·rw [if_neg c3] at H
  have c3b0:((l0.length:Int) == (l1.length:Int))=false:=beq_eq_false_iff_ne.mpr c3
  have c3b1:((l0.length:Int) != (l1.length:Int))=true:=bne_iff_ne.mpr c3
  have c3b2:(l0.length == l1.length)=false:=by first|simpa using c3|(simp at c3 ⊢;omega)
  obtain rfl:=Option.some.inj H
  go_enter Try.func59,Try.ntmps59
  go_wp2
  repeat (go_quiet (fail);try go_wp2)
  go_ret
  exact ⟨by first|rfl|(simp;done)|(simp [*];done),by repeat (first|exact Drawn0.refl _|apply Drawn0.step)⟩
def slices_Equal_int64_int64.l0:Nat → List Int → List Int → Int → Int → Option (Bool)
 | 0,_,_,_,_=>none
 | k + 1,x0,x1,x12,x13=>if x13 < x12 then (if 0≤x13 then (if x13 < (x0.length:Int) then (if x13 < (x1.length:Int) then (if (rd x0 x13)=(rd x1 x13) then (slices_Equal_int64_int64.l0 k x0 x1 x12 (wrap64 (x13 + 1))) else (some false)) else (none)) else (none)) else (none)) else (some true)
def slices_Equal_int64_int64.f (k:Nat) (l0:List Int) (l1:List Int):Option (Bool):=if (l0.length:Int)=(l1.length:Int) then (slices_Equal_int64_int64.l0 k l0 l1 (l0.length:Int) 0) else (some false)
theorem slices_Equal_int64_int64.mono_l:∀ k,(∀ y0 y1 y2 y3,LeO (slices_Equal_int64_int64.l0 k y0 y1 y2 y3) (slices_Equal_int64_int64.l0 (k + 1) y0 y1 y2 y3))
 | 0=>fun _ _ _ _ r h=>by simp [slices_Equal_int64_int64.l0] at h
 | k + 1=>by
  have ih0:=slices_Equal_int64_int64.mono_l k
  ·intro y0 y1 y2 y3
   unfold slices_Equal_int64_int64.l0
   repeat' first
   | (with_reducible exact ih0 _ _ _ _)
   | (with_reducible exact LeO.refl _)
   | (with_reducible exact LeO.none _)
   | (with_reducible refine LeO.ite ?_ ?_)
   | (with_reducible refine LeO.bind ?_ (fun _=>?_))
   | exact ih0 _ _ _ _
   | exact LeO.none _
   | refine LeO.ite ?_ ?_
   | refine LeO.bind ?_ (fun _=>?_)
theorem slices_Equal_int64_int64.mono:∀ a0 a1 k,LeO (slices_Equal_int64_int64.f k a0 a1) (slices_Equal_int64_int64.f (k + 1) a0 a1):=by
 intro a0 a1 k
 have ih0:=slices_Equal_int64_int64.mono_l k
 unfold slices_Equal_int64_int64.f
 repeat' first
   | (with_reducible exact ih0 _ _ _ _)
   | (with_reducible exact LeO.refl _)
   | (with_reducible exact LeO.none _)
   | (with_reducible refine LeO.ite ?_ ?_)
   | (with_reducible refine LeO.bind ?_ (fun _=>?_))
   | exact ih0 _ _ _ _
   | exact LeO.none _
   | refine LeO.ite ?_ ?_
   | refine LeO.bind ?_ (fun _=>?_)
set_option maxHeartbeats 8000000 in
set_option maxRecDepth 100000 in
theorem slices_Equal_int64_int64.calls (k:Nat) (A0:Option Addr) (c0:Nat) (l0:List Int) (A1:Option Addr) (c1:Nat) (l1:List Int) (r:Bool) (w:World) (hr0:Kd.C (Kd.int .i64) w A0 l0.length l0) (hc0:l0.length≤c0) (hr1:Kd.C (Kd.int .i64) w A1 l1.length l1) (hc1:l1.length≤c1) (h:slices_Equal_int64_int64.f k l0 l1=some r) :
  Calls Try.prog 60 #[.slice A0 l0.length c0,.slice A1 l1.length c1] w fun e w'=>e=.returned (.bool r)∧Drawn0 w w':=by
 have HR0:=zm hr0
 have HC0:=zm hc0
 clear hr0 hc0
 have HR1:=zm hr1
 have HC1:=zm hc1
 clear hr1 hc1
 have H:(if (l0.length:Int)=(l1.length:Int) then (slices_Equal_int64_int64.l0 k l0 l1 (l0.length:Int) 0) else (some false))=some r:=h
 clear h
 by_cases c3:(l0.length:Int)=(l1.length:Int)
 ·rw [if_pos c3] at H
  have c3b0:((l0.length:Int) == (l1.length:Int))=true:=beq_iff_eq.mpr c3
  have c3b1:((l0.length:Int) != (l1.length:Int))=false:=bne_eq_false_iff_eq.mpr c3
  have c3b2:(l0.length == l1.length)=true:=by first|simpa using c3|(simp at c3 ⊢;omega)
  clear c3
  have H':=zm H
  clear H
  go_enter Try.func60,Try.ntmps60
  go_wp2
  repeat (go_quiet (fail);try go_wp2)
  go_loopg [13] k (fun kq v13 w'=>∃ (x13_1:Int),v13=.int .i64 x13_1∧Aside0 (slices_Equal_int64_int64.l0 kq l0 l1 (l0.length:Int) x13_1=some r)∧Aside0 (kq≤k)∧Drawn0 w w')
  case atStart=>exact ⟨(0),zs_,H',⟨Nat.le_refl _⟩,by repeat (first|exact Drawn0.refl _|apply Drawn0.step)⟩
  case round =>
   clear H'
   try clear c1
   try clear p2
   try clear c3
   try clear c3b0
   try clear c3b1
   try clear c3b2
   obtain ⟨x13_1,rfl,HA,HK1,⟨m1,rfl⟩⟩:=hrel
   cases gk with
   | zero=>exact absurd HA.out (by simp [slices_Equal_int64_int64.l0])
   | succ k1 =>
    have H:=HA.out
    clear HA
    simp only [slices_Equal_int64_int64.l0] at H
    by_cases c4:x13_1 < (l0.length:Int)
    ·rw [if_pos c4] at H
     have c4b0:decide (x13_1 < (l0.length:Int))=true:=decide_eq_true c4
     clear c4
     by_cases c5:0≤x13_1
     ·rw [if_pos c5] at H
      have c5b0:decide (0≤x13_1)=true:=decide_eq_true c5
      clear c5
      by_cases c6:x13_1 < (l0.length:Int)
      ·rw [if_pos c6] at H
       have c6b0:decide (x13_1 < (l0.length:Int))=true:=decide_eq_true c6
       clear c6
       by_cases c7:x13_1 < (l1.length:Int)
       ·rw [if_pos c7] at H
        have c7b0:decide (x13_1 < (l1.length:Int))=true:=decide_eq_true c7
        clear c7
        by_cases c8:(rd l0 x13_1)=(rd l1 x13_1)
        ·rw [if_pos c8] at H
         have c8b0:((rd l0 x13_1) == (rd l1 x13_1))=true:=beq_iff_eq.mpr c8
         have c8b1:((rd l0 x13_1) != (rd l1 x13_1))=false:=bne_eq_false_iff_eq.mpr c8
         clear c8
         have H':=zm H
         clear H
         have p206:0≤(x13_1:Int):=za_
         have q206:x13_1 < (l0.length:Int):=za_
         obtain ⟨ad206,e206,hx206_0⟩:=Kd.at_int HR0.out x13_1 p206 q206
         cases e206
         replace p206:=eq_true p206
         replace q206:=eq_true q206
         have p207:0≤(x13_1:Int):=za_
         have q207:x13_1 < (l1.length:Int):=za_
         obtain ⟨ad207,e207,hx207_0⟩:=Kd.at_int HR1.out x13_1 p207 q207
         cases e207
         replace p207:=eq_true p207
         replace q207:=eq_true q207
         go_wp2
         repeat (go_quiet (fail);try go_wp2)
         go_roundg k1
         case measure=>have:=HK1.out;omega
         case rel=>exact ⟨(wrap64 (x13_1 + 1)),zs_,H',⟨by have:=HK1.out;omega⟩,by repeat (first|exact Drawn0.refl _|apply Drawn0.step)⟩
        ·rw [if_neg c8] at H
         have c8b0:((rd l0 x13_1) == (rd l1 x13_1))=false:=beq_eq_false_iff_ne.mpr c8
         have c8b1:((rd l0 x13_1) != (rd l1 x13_1))=true:=bne_iff_ne.mpr c8
         obtain rfl:=Option.some.inj H
         have p206:0≤(x13_1:Int):=za_
         have q206:x13_1 < (l0.length:Int):=za_
         obtain ⟨ad206,e206,hx206_0⟩:=Kd.at_int HR0.out x13_1 p206 q206
         cases e206
         replace p206:=eq_true p206
         replace q206:=eq_true q206
         have p207:0≤(x13_1:Int):=za_
         have q207:x13_1 < (l1.length:Int):=za_
         obtain ⟨ad207,e207,hx207_0⟩:=Kd.at_int HR1.out x13_1 p207 q207
         cases e207
         replace p207:=eq_true p207
         replace q207:=eq_true q207
         go_wp2
         repeat (go_quiet (fail);try go_wp2)
         go_ret
         exact ⟨by first|rfl|(simp;done)|(simp [*];done),by repeat (first|exact Drawn0.refl _|apply Drawn0.step)⟩
       ·rw [if_neg c7] at H
        exact absurd H (by simp)
      ·rw [if_neg c6] at H
       exact absurd H (by simp)
     ·rw [if_neg c5] at H
      exact absurd H (by simp)
    ·rw [if_neg c4] at H
     have c4b0:decide (x13_1 < (l0.length:Int))=false:=decide_eq_false c4
     clear c4
     obtain rfl:=Option.some.inj H
     go_wp2
     repeat (go_quiet (fail);try go_wp2)
     go_ret
     exact ⟨by first|rfl|(simp;done)|(simp [*];done),by repeat (first|exact Drawn0.refl _|apply Drawn0.step)⟩
 ·rw [if_neg c3] at H
  have c3b0:((l0.length:Int) == (l1.length:Int))=false:=beq_eq_false_iff_ne.mpr c3
  have c3b1:((l0.length:Int) != (l1.length:Int))=true:=bne_iff_ne.mpr c3
  have c3b2:(l0.length == l1.length)=false:=by first|simpa using c3|(simp at c3 ⊢;omega)
  obtain rfl:=Option.some.inj H
  go_enter Try.func60,Try.ntmps60
  go_wp2
  repeat (go_quiet (fail);try go_wp2)
  go_ret
  exact ⟨by first|rfl|(simp;done)|(simp [*];done),by repeat (first|exact Drawn0.refl _|apply Drawn0.step)⟩
end Go.Proofs.Ytkhbmgclklmimaa.Print
end
section
namespace Go.Proofs.Ytkhbmgclklmimaa.Print
open Go.RowKit Go.Proofs.YtkhbmgclklmimaaW.PrintWords Go.Proofs.YtkhbmgclklmimaaW.PrintLast Go.Proofs.YtkhbmgclklmimaaW.PrintMore
attribute [local go_sem] max2_int min2_int max_two min_two max_three min_three max_four min_four   -- for this text's walks alone
attribute [local go_sem ↓] Go.Proofs.Ytkhbmgclklmimaa.Sem.isSome_setCell
attribute [local go_sem] Go.Instr.field Go.asAgg
set_option linter.unusedVariables false
set_option linter.unusedSimpArgs false
def mapjnl_Same.f (k:Nat) (l0_0:List Bool) (l0_1:List Int) (a0_2:Int) (l1_0:List Bool) (l1_1:List Int) (a1_2:Int):Option (Bool):=(slices_Equal_bool_bool.f k l0_0 l1_0).bind fun t210=>(if t210=true then ((slices_Equal_int64_int64.f k l0_1 l1_1).bind fun t211=>(if t211=true then (some (a0_2 == a1_2)) else (some false))) else (some false))
theorem mapjnl_Same.mono:∀ a0 a1 a2 a3 a4 a5 k,LeO (mapjnl_Same.f k a0 a1 a2 a3 a4 a5) (mapjnl_Same.f (k + 1) a0 a1 a2 a3 a4 a5):=by
 intro a0 a1 a2 a3 a4 a5 k
 unfold mapjnl_Same.f
 repeat' first
   | (with_reducible exact slices_Equal_bool_bool.mono _ _ _)
   | (with_reducible exact slices_Equal_int64_int64.mono _ _ _)
   | (with_reducible exact LeO.refl _)
   | (with_reducible exact LeO.none _)
   | (with_reducible refine LeO.ite ?_ ?_)
   | (with_reducible refine LeO.bind ?_ (fun _=>?_))
   | exact slices_Equal_bool_bool.mono _ _ _
   | exact slices_Equal_int64_int64.mono _ _ _
   | exact LeO.none _
   | refine LeO.ite ?_ ?_
   | refine LeO.bind ?_ (fun _=>?_)
set_option maxHeartbeats 8000000 in
set_option maxRecDepth 100000 in
theorem mapjnl_Same.calls (k:Nat) (A0_0:Option Addr) (c0_0:Nat) (l0_0:List Bool) (A0_1:Option Addr) (c0_1:Nat) (l0_1:List Int) (a0_2:Int) (A1_0:Option Addr) (c1_0:Nat) (l1_0:List Bool) (A1_1:Option Addr) (c1_1:Nat) (l1_1:List Int) (a1_2:Int) (r:Bool) (w:World) (hr0_0:Kd.C Kd.bool w A0_0 l0_0.length l0_0) (hc0_0:l0_0.length≤c0_0) (hr0_1:Kd.C (Kd.int .i64) w A0_1 l0_1.length l0_1) (hc0_1:l0_1.length≤c0_1) (hr1_0:Kd.C Kd.bool w A1_0 l1_0.length l1_0) (hc1_0:l1_0.length≤c1_0) (hr1_1:Kd.C (Kd.int .i64) w A1_1 l1_1.length l1_1) (hc1_1:l1_1.length≤c1_1) (h:mapjnl_Same.f k l0_0 l0_1 a0_2 l1_0 l1_1 a1_2=some r) :
  Calls Try.prog 21 #[.agg #[.slice A0_0 l0_0.length c0_0,.slice A0_1 l0_1.length c0_1,.int .i64 a0_2],.agg #[.slice A1_0 l1_0.length c1_0,.slice A1_1 l1_1.length c1_1,.int .i64 a1_2]] w fun e w'=>e=.returned (.bool r)∧Below w.heap.size w w':=by
 have hu25:=Try.underlying25
 have HR0_0:=zm hr0_0
 have HC0_0:=zm hc0_0
 clear hr0_0 hc0_0
 have HR0_1:=zm hr0_1
 have HC0_1:=zm hc0_1
 clear hr0_1 hc0_1
 have HR1_0:=zm hr1_0
 have HC1_0:=zm hc1_0
 clear hr1_0 hc1_0
 have HR1_1:=zm hr1_1
 have HC1_1:=zm hc1_1
 clear hr1_1 hc1_1
 have HB:=zm (Below.refl w.heap.size w)
 have H:((slices_Equal_bool_bool.f k l0_0 l1_0).bind fun t210=>(if t210=true then ((slices_Equal_int64_int64.f k l0_1 l1_1).bind fun t211=>(if t211=true then (some (a0_2 == a1_2)) else (some false))) else (some false)))=some r:=h
 clear h
 replace H:=Option.bind_eq_some_iff.mp H
 obtain ⟨t210,A30,H⟩:=H
 replace H:(if t210=true then ((slices_Equal_int64_int64.f k l0_1 l1_1).bind fun t211=>(if t211=true then (some (a0_2 == a1_2)) else (some false))) else (some false))=some r:=H
 have A3:=zm A30
 clear A30
 by_cases c4:t210=true
 ·subst c4
  have H1:((slices_Equal_int64_int64.f k l0_1 l1_1).bind fun t211=>(if t211=true then (some (a0_2 == a1_2)) else (some false)))=some r:=by rw [if_pos rfl] at H;exact H
  clear H
  have H:=H1
  clear H1
  replace H:=Option.bind_eq_some_iff.mp H
  obtain ⟨t211,A50,H⟩:=H
  replace H:(if t211=true then (some (a0_2 == a1_2)) else (some false))=some r:=H
  have A5:=zm A50
  clear A50
  by_cases c6:t211=true
  ·subst c6
   have H1:(some (a0_2 == a1_2))=some r:=by rw [if_pos rfl] at H;exact H
   clear H
   have H:=H1
   clear H1
   obtain rfl:=Option.some.inj H
   go_enter Try.func21,Try.ntmps21
   go_wp2_with (first|((with_reducible refine gate_dst (N:=2) rfl ?_);refine zbx 2 #[.slice A0_0 l0_0.length c0_0,.slice A0_1 l0_1.length c0_1,.int .i64 a0_2] 25 ?_;intro gb208 hg w7 hbox hb;have n0_:=zkH HB hb;have n1_:=zm (hbox);have n2_:=zkG HB hg;have n3_:=zkG HB hg;clear HB;have HB:=n0_;have BK208:=n1_;have GW208:=n2_;have GE208:=n3_;clear n0_ n1_ n2_ n3_;clear hb hbox hg)|((with_reducible refine gate_dst (N:=3) rfl ?_);refine zbx 3 #[.slice A1_0 l1_0.length c1_0,.slice A1_1 l1_1.length c1_1,.int .i64 a1_2] 25 ?_;intro gb209 hg w8 hbox hb;have n0_:=zkB BK208 hb;have n1_:=zkH HB hb;have n2_:=zm (hbox);have n3_:=zkG HB hg;have n4_:=zkG HB hg;have n5_:=zkN BK208 hg;have n6_:=zkM BK208 hg;clear BK208 HB;have BK208:=n0_;have HB:=n1_;have BK209:=n2_;have GW209:=n3_;have GE209:=n4_;have NB208_209:=n5_;have NB209_208:=n6_;clear n0_ n1_ n2_ n3_ n4_ n5_ n6_;clear hb hbox hg;have hnb9:=NB208_209.out;have hnc9:=NB209_208.out;obtain ⟨hcz10_0,hcz10_1,hcz10_2,hfz10_0,hfz10_1,hfz10_2⟩:=zc3 BK208.out;obtain ⟨hcz11_0,hcz11_1,hcz11_2,hfz11_0,hfz11_1,hfz11_2⟩:=zc3 BK209.out)|((with_reducible refine gate_callee (f:=59) rfl ?_);refine goesL_ (some 9) rfl rfl Try.func59 (by kernel_rfl) rfl #[.slice A0_0 l0_0.length c0_0,.slice A1_0 l1_0.length c1_0] rfl (by (try simp only [List.map_toArray,List.map_cons,List.map_nil]);first|done|rfl|(simp only [List.length_drop,List.length_take];rfl)) ?_;(with_reducible refine (slices_Equal_bool_bool.calls k _ _ l0_0 _ _ l1_0 true _ ?side1 ?side2 ?side3 ?side4 A3.out).mono ?_);(case side1=>exact zC HR0_0);(case side2=>exact HC0_0.out);(case side3=>exact zC HR1_0);(case side4=>exact HC1_0.out);rintro e w' ⟨rfl,⟨nd,rfl⟩⟩;refine ⟨_,rfl,?_⟩)|(go_at_call 60;(with_reducible refine (slices_Equal_int64_int64.calls k _ _ l0_1 _ _ l1_1 true _ ?side1 ?side2 ?side3 ?side4 A5.out).mono ?_);(case side1=>repeat (first|exact (Kd.C_below HR0_1.out (zb_))|(with_reducible refine Kd.C_alloc ?_ _)|(with_reducible refine Kd.C_drewN ?_ _)|(with_reducible refine Kd.C_drew ?_)));(case side2=>exact HC0_1.out);(case side3=>repeat (first|exact (Kd.C_below HR1_1.out (zb_))|(with_reducible refine Kd.C_alloc ?_ _)|(with_reducible refine Kd.C_drewN ?_ _)|(with_reducible refine Kd.C_drew ?_)));(case side4=>exact HC1_1.out);rintro e w' ⟨rfl,⟨nd,rfl⟩⟩))
   go_ret
   exact ⟨ze_,zb_⟩
  ·replace c6:=Bool.eq_false_iff.mpr c6
   subst c6
   have H1:(some false)=some r:=by rw [if_neg (show ¬ (false=true) by decide)] at H;exact H
   clear H
   have H:=H1
   clear H1
   obtain rfl:=Option.some.inj H
   go_enter Try.func21,Try.ntmps21
   go_wp2_with (first|((with_reducible refine gate_dst (N:=2) rfl ?_);refine zbx 2 #[.slice A0_0 l0_0.length c0_0,.slice A0_1 l0_1.length c0_1,.int .i64 a0_2] 25 ?_;intro gb208 hg w12 hbox hb;have n0_:=zkH HB hb;have n1_:=zm (hbox);have n2_:=zkG HB hg;have n3_:=zkG HB hg;clear HB;have HB:=n0_;have BK208:=n1_;have GW208:=n2_;have GE208:=n3_;clear n0_ n1_ n2_ n3_;clear hb hbox hg)|((with_reducible refine gate_dst (N:=3) rfl ?_);refine zbx 3 #[.slice A1_0 l1_0.length c1_0,.slice A1_1 l1_1.length c1_1,.int .i64 a1_2] 25 ?_;intro gb209 hg w13 hbox hb;have n0_:=zkB BK208 hb;have n1_:=zkH HB hb;have n2_:=zm (hbox);have n3_:=zkG HB hg;have n4_:=zkG HB hg;have n5_:=zkN BK208 hg;have n6_:=zkM BK208 hg;clear BK208 HB;have BK208:=n0_;have HB:=n1_;have BK209:=n2_;have GW209:=n3_;have GE209:=n4_;have NB208_209:=n5_;have NB209_208:=n6_;clear n0_ n1_ n2_ n3_ n4_ n5_ n6_;clear hb hbox hg;have hnb14:=NB208_209.out;have hnc14:=NB209_208.out;obtain ⟨hcz15_0,hcz15_1,hcz15_2,hfz15_0,hfz15_1,hfz15_2⟩:=zc3 BK208.out;obtain ⟨hcz16_0,hcz16_1,hcz16_2,hfz16_0,hfz16_1,hfz16_2⟩:=zc3 BK209.out)|((with_reducible refine gate_callee (f:=59) rfl ?_);refine goesL_ (some 9) rfl rfl Try.func59 (by kernel_rfl) rfl #[.slice A0_0 l0_0.length c0_0,.slice A1_0 l1_0.length c1_0] rfl (by (try simp only [List.map_toArray,List.map_cons,List.map_nil]);first|done|rfl|(simp only [List.length_drop,List.length_take];rfl)) ?_;(with_reducible refine (slices_Equal_bool_bool.calls k _ _ l0_0 _ _ l1_0 true _ ?side1 ?side2 ?side3 ?side4 A3.out).mono ?_);(case side1=>exact zC HR0_0);(case side2=>exact HC0_0.out);(case side3=>exact zC HR1_0);(case side4=>exact HC1_0.out);rintro e w' ⟨rfl,⟨nd,rfl⟩⟩;refine ⟨_,rfl,?_⟩)|(go_at_call 60;(with_reducible refine (slices_Equal_int64_int64.calls k _ _ l0_1 _ _ l1_1 false _ ?side1 ?side2 ?side3 ?side4 A5.out).mono ?_);(case side1=>repeat (first|exact (Kd.C_below HR0_1.out (zb_))|(with_reducible refine Kd.C_alloc ?_ _)|(with_reducible refine Kd.C_drewN ?_ _)|(with_reducible refine Kd.C_drew ?_)));(case side2=>exact HC0_1.out);(case side3=>repeat (first|exact (Kd.C_below HR1_1.out (zb_))|(with_reducible refine Kd.C_alloc ?_ _)|(with_reducible refine Kd.C_drewN ?_ _)|(with_reducible refine Kd.C_drew ?_)));(case side4=>exact HC1_1.out);rintro e w' ⟨rfl,⟨nd,rfl⟩⟩))
   go_ret
   exact ⟨ze_,zb_⟩
 ·replace c4:=Bool.eq_false_iff.mpr c4
  subst c4
  have H1:(some false)=some r:=by rw [if_neg (show ¬ (false=true) by decide)] at H;exact H
  clear H
  have H:=H1
  clear H1
  obtain rfl:=Option.some.inj H
  go_enter Try.func21,Try.ntmps21
  go_wp2_with (first|((with_reducible refine gate_dst (N:=2) rfl ?_);refine zbx 2 #[.slice A0_0 l0_0.length c0_0,.slice A0_1 l0_1.length c0_1,.int .i64 a0_2] 25 ?_;intro gb208 hg w17 hbox hb;have n0_:=zkH HB hb;have n1_:=zm (hbox);have n2_:=zkG HB hg;have n3_:=zkG HB hg;clear HB;have HB:=n0_;have BK208:=n1_;have GW208:=n2_;have GE208:=n3_;clear n0_ n1_ n2_ n3_;clear hb hbox hg)|((with_reducible refine gate_dst (N:=3) rfl ?_);refine zbx 3 #[.slice A1_0 l1_0.length c1_0,.slice A1_1 l1_1.length c1_1,.int .i64 a1_2] 25 ?_;intro gb209 hg w18 hbox hb;have n0_:=zkB BK208 hb;have n1_:=zkH HB hb;have n2_:=zm (hbox);have n3_:=zkG HB hg;have n4_:=zkG HB hg;have n5_:=zkN BK208 hg;have n6_:=zkM BK208 hg;clear BK208 HB;have BK208:=n0_;have HB:=n1_;have BK209:=n2_;have GW209:=n3_;have GE209:=n4_;have NB208_209:=n5_;have NB209_208:=n6_;clear n0_ n1_ n2_ n3_ n4_ n5_ n6_;clear hb hbox hg;have hnb19:=NB208_209.out;have hnc19:=NB209_208.out;obtain ⟨hcz20_0,hcz20_1,hcz20_2,hfz20_0,hfz20_1,hfz20_2⟩:=zc3 BK208.out;obtain ⟨hcz21_0,hcz21_1,hcz21_2,hfz21_0,hfz21_1,hfz21_2⟩:=zc3 BK209.out)|((with_reducible refine gate_callee (f:=59) rfl ?_);refine goesL_ (some 9) rfl rfl Try.func59 (by kernel_rfl) rfl #[.slice A0_0 l0_0.length c0_0,.slice A1_0 l1_0.length c1_0] rfl (by (try simp only [List.map_toArray,List.map_cons,List.map_nil]);first|done|rfl|(simp only [List.length_drop,List.length_take];rfl)) ?_;(with_reducible refine (slices_Equal_bool_bool.calls k _ _ l0_0 _ _ l1_0 false _ ?side1 ?side2 ?side3 ?side4 A3.out).mono ?_);(case side1=>exact zC HR0_0);(case side2=>exact HC0_0.out);(case side3=>exact zC HR1_0);(case side4=>exact HC1_0.out);rintro e w' ⟨rfl,⟨nd,rfl⟩⟩;refine ⟨_,rfl,?_⟩))
  go_ret
  exact ⟨ze_,zb_⟩
def mapjnl_Covers.f (k:Nat) (l0_0:List Bool) (l0_1:List Int) (a0_2:Int) (l1_0:List Bool) (l1_1:List Int) (a1_2:Int):Option (Bool):=(mapjnl_Join.f k l0_0 l0_1 a0_2 l1_0 l1_1 a1_2).bind fun bt214=>(if bt214.2.2.2=0 then ((mapjnl_Same.f k bt214.1 bt214.2.1 bt214.2.2.1 l0_0 l0_1 a0_2).bind fun t223=>(some t223)) else (some false))
theorem mapjnl_Covers.mono:∀ a0 a1 a2 a3 a4 a5 k,LeO (mapjnl_Covers.f k a0 a1 a2 a3 a4 a5) (mapjnl_Covers.f (k + 1) a0 a1 a2 a3 a4 a5):=by
 intro a0 a1 a2 a3 a4 a5 k
 unfold mapjnl_Covers.f
 repeat' first
   | (with_reducible exact mapjnl_Join.mono _ _ _ _ _ _ _)
   | (with_reducible exact mapjnl_Same.mono _ _ _ _ _ _ _)
   | (with_reducible exact LeO.refl _)
   | (with_reducible exact LeO.none _)
   | (with_reducible refine LeO.ite ?_ ?_)
   | (with_reducible refine LeO.bind ?_ (fun _=>?_))
   | exact mapjnl_Join.mono _ _ _ _ _ _ _
   | exact mapjnl_Same.mono _ _ _ _ _ _ _
   | exact LeO.none _
   | refine LeO.ite ?_ ?_
   | refine LeO.bind ?_ (fun _=>?_)
set_option maxHeartbeats 8000000 in
set_option maxRecDepth 100000 in
theorem mapjnl_Covers.calls (k:Nat) (A0_0:Option Addr) (c0_0:Nat) (l0_0:List Bool) (A0_1:Option Addr) (c0_1:Nat) (l0_1:List Int) (a0_2:Int) (A1_0:Option Addr) (c1_0:Nat) (l1_0:List Bool) (A1_1:Option Addr) (c1_1:Nat) (l1_1:List Int) (a1_2:Int) (r:Bool) (w:World) (hr0_0:Kd.C Kd.bool w A0_0 l0_0.length l0_0) (hc0_0:l0_0.length≤c0_0) (hr0_1:Kd.C (Kd.int .i64) w A0_1 l0_1.length l0_1) (hc0_1:l0_1.length≤c0_1) (hr1_0:Kd.C Kd.bool w A1_0 l1_0.length l1_0) (hc1_0:l1_0.length≤c1_0) (hr1_1:Kd.C (Kd.int .i64) w A1_1 l1_1.length l1_1) (hc1_1:l1_1.length≤c1_1) (h:mapjnl_Covers.f k l0_0 l0_1 a0_2 l1_0 l1_1 a1_2=some r) :
  Calls Try.prog 19 #[.agg #[.slice A0_0 l0_0.length c0_0,.slice A0_1 l0_1.length c0_1,.int .i64 a0_2],.agg #[.slice A1_0 l1_0.length c1_0,.slice A1_1 l1_1.length c1_1,.int .i64 a1_2]] w fun e w'=>e=.returned (.bool r)∧Below w.heap.size w w':=by
 have hu25:=Try.underlying25
 have HR0_0:=zm hr0_0
 have HC0_0:=zm hc0_0
 clear hr0_0 hc0_0
 have HR0_1:=zm hr0_1
 have HC0_1:=zm hc0_1
 clear hr0_1 hc0_1
 have HR1_0:=zm hr1_0
 have HC1_0:=zm hc1_0
 clear hr1_0 hc1_0
 have HR1_1:=zm hr1_1
 have HC1_1:=zm hc1_1
 clear hr1_1 hc1_1
 have HB:=zm (Below.refl w.heap.size w)
 have H:((mapjnl_Join.f k l0_0 l0_1 a0_2 l1_0 l1_1 a1_2).bind fun bt214=>(if bt214.2.2.2=0 then ((mapjnl_Same.f k bt214.1 bt214.2.1 bt214.2.2.1 l0_0 l0_1 a0_2).bind fun t223=>(some t223)) else (some false)))=some r:=h
 clear h
 replace H:=Option.bind_eq_some_iff.mp H
 obtain ⟨⟨t214,t217,t220,t221⟩,A30,H⟩:=H
 replace H:(if t221=0 then ((mapjnl_Same.f k t214 t217 t220 l0_0 l0_1 a0_2).bind fun t223=>(some t223)) else (some false))=some r:=H
 have A3:=zm A30
 clear A30
 by_cases c4:t221=0
 ·rw [if_pos c4] at H
  have c4b0:(t221 == 0)=true:=beq_iff_eq.mpr c4
  have c4b1:(t221 != 0)=false:=bne_eq_false_iff_eq.mpr c4
  clear c4
  replace H:=Option.bind_eq_some_iff.mp H
  obtain ⟨t223,A50,H⟩:=H
  replace H:(some t223)=some r:=H
  have A5:=zm A50
  clear A50
  obtain rfl:=Option.some.inj H
  go_enter Try.func19,Try.ntmps19
  go_wp2_with (first|((with_reducible refine gate_dst (N:=2) rfl ?_);refine zbx 2 #[.slice A0_0 l0_0.length c0_0,.slice A0_1 l0_1.length c0_1,.int .i64 a0_2] 25 ?_;intro gb212 hg w6 hbox hb;have n0_:=zkH HB hb;have n1_:=zm (hbox);have n2_:=zkG HB hg;have n3_:=zkG HB hg;clear HB;have HB:=n0_;have BK212:=n1_;have GW212:=n2_;have GE212:=n3_;clear n0_ n1_ n2_ n3_;clear hb hbox hg)|((with_reducible refine gate_dst (N:=3) rfl ?_);refine zbx 3 #[.slice A1_0 l1_0.length c1_0,.slice A1_1 l1_1.length c1_1,.int .i64 a1_2] 25 ?_;intro gb213 hg w7 hbox hb;have n0_:=zkB BK212 hb;have n1_:=zkH HB hb;have n2_:=zm (hbox);have n3_:=zkG HB hg;have n4_:=zkG HB hg;have n5_:=zkN BK212 hg;have n6_:=zkM BK212 hg;clear BK212 HB;have BK212:=n0_;have HB:=n1_;have BK213:=n2_;have GW213:=n3_;have GE213:=n4_;have NB212_213:=n5_;have NB213_212:=n6_;clear n0_ n1_ n2_ n3_ n4_ n5_ n6_;clear hb hbox hg;have hnb8:=NB212_213.out;have hnc8:=NB213_212.out;obtain ⟨hcz9_0,hcz9_1,hcz9_2,hfz9_0,hfz9_1,hfz9_2⟩:=zc3 BK212.out;obtain ⟨hcz10_0,hcz10_1,hcz10_2,hfz10_0,hfz10_1,hfz10_2⟩:=zc3 BK213.out)|((with_reducible refine gate_callee (f:=13) rfl ?_);refine goesL_ (some 10) rfl rfl Try.func13 (by kernel_rfl) rfl #[.agg #[.slice A0_0 l0_0.length c0_0,.slice A0_1 l0_1.length c0_1,.int .i64 a0_2],.agg #[.slice A1_0 l1_0.length c1_0,.slice A1_1 l1_1.length c1_1,.int .i64 a1_2]] rfl (by (try simp only [List.map_toArray,List.map_cons,List.map_nil]);first|done|rfl|(simp only [List.length_drop,List.length_take];rfl)) ?_;(with_reducible refine (mapjnl_Join.calls k _ _ l0_0 _ _ l0_1 a0_2 _ _ l1_0 _ _ l1_1 a1_2 t214 t217 t220 t221 _ ?side1 ?side2 ?side3 ?side4 ?side5 ?side6 ?side7 ?side8 A3.out).mono ?_);(case side1=>exact zC HR0_0);(case side2=>exact HC0_0.out);(case side3=>exact zC HR0_1);(case side4=>exact HC0_1.out);(case side5=>exact zC HR1_0);(case side6=>exact HC1_0.out);(case side7=>exact zC HR1_1);(case side8=>exact HC1_1.out);rintro e w11 ⟨v215,v218,rfl,ho0,ho1,hb⟩;refine ⟨_,rfl,?_⟩;have n0_:=zm (Kd.R_lower ho0 (below_size (zb_)));have n1_:=zm (Kd.R_lower ho1 (below_size (zb_)));have n2_:=zkB BK212 hb;have n3_:=zkB BK213 hb;have n4_:=zkH HB hb;clear BK212 BK213 HB;have HO216:=n0_;have HO219:=n1_;have BK212:=n2_;have BK213:=n3_;have HB:=n4_;clear n0_ n1_ n2_ n3_ n4_;(try clear hb);(try clear hb2);(try clear hk);(try clear hi);(try clear ho0);(try clear ho1))|((with_reducible refine gate_dst (N:=5) rfl ?_);refine zbx 5 #[.slice none 0 0,.slice none 0 0,.int .i64 0] 25 ?_;intro gb222 hg w12 hbox hb;have n0_:=zm (Kd.R_below (by (with_reducible repeat (first|apply zrA|apply zrN|apply zrD));exact HO216.out) hb);have n1_:=zm (Kd.R_below (by (with_reducible repeat (first|apply zrA|apply zrN|apply zrD));exact HO219.out) hb);have n2_:=zkB BK212 hb;have n3_:=zkB BK213 hb;have n4_:=zkH HB hb;have n5_:=zm (hbox);have n6_:=zkG HB hg;have n7_:=zkG HB hg;have n8_:=zkN BK212 hg;have n9_:=zkM BK212 hg;have n10_:=zkN BK213 hg;have n11_:=zkM BK213 hg;clear HO216 HO219 BK212 BK213 HB;have HO216:=n0_;have HO219:=n1_;have BK212:=n2_;have BK213:=n3_;have HB:=n4_;have BK222:=n5_;have GW222:=n6_;have GE222:=n7_;have NB212_222:=n8_;have NB222_212:=n9_;have NB213_222:=n10_;have NB222_213:=n11_;clear n0_ n1_ n2_ n3_ n4_ n5_ n6_ n7_ n8_ n9_ n10_ n11_;clear hb hbox hg;obtain ⟨Ao13,co13,eo13⟩:=Kd.R_slice HO216.out;subst eo13;have hnb14:=NB222_212.out;have hnc14:=NB212_222.out;have hnb15:=NB222_213.out;have hnc15:=NB213_222.out;obtain ⟨hcz16_0,hcz16_1,hcz16_2,hfz16_0,hfz16_1,hfz16_2⟩:=zc3 BK222.out;obtain ⟨Ao17,co17,eo17⟩:=Kd.R_slice HO219.out;subst eo17;obtain ⟨hcz18_0,hcz18_1,hcz18_2,hfz18_0,hfz18_1,hfz18_2⟩:=zc3 BK212.out)|(go_at_call 21;(with_reducible refine (mapjnl_Same.calls k _ _ t214 _ _ t217 t220 _ _ l0_0 _ _ l0_1 a0_2 t223 _ ?side1 ?side2 ?side3 ?side4 ?side5 ?side6 ?side7 ?side8 A5.out).mono ?_);(case side1=>refine (Kd.R_reads' (e:=4) (base:=w.heap.size) (ok:=fun k_=>True) (n:=t214.length) (c:=co13) ?_).2.2;exact (by (with_reducible repeat (first|apply zrA|apply zrN|apply zrD));exact (Kd.R_mono (Kd.R_far (p:=⟨gb222,2,none⟩) (Kd.R_far (p:=⟨gb222,1,none⟩) (Kd.R_far (p:=⟨gb222,0,none⟩) (Kd.R_types HO216.out BK222.out (by decide)) (fun _ hk=>hk.2) (.slice Ao13 t214.length co13)) (fun _ hk=>hk.2) (.slice Ao17 t217.length co17)) (fun _ hk=>hk.2) (.int .i64 t220)) (fun _ h_=>h_.1))));(case side2=>exact (Kd.R_reads' HO216.out).2.1);(case side3=>refine (Kd.R_reads' (e:=2) (base:=w.heap.size) (ok:=fun k_=>True) (n:=t217.length) (c:=co17) ?_).2.2;exact (by (with_reducible repeat (first|apply zrA|apply zrN|apply zrD));exact (Kd.R_mono (Kd.R_far (p:=⟨gb222,2,none⟩) (Kd.R_far (p:=⟨gb222,1,none⟩) (Kd.R_far (p:=⟨gb222,0,none⟩) (Kd.R_types HO219.out BK222.out (by decide)) (fun _ hk=>hk.2) (.slice Ao13 t214.length co13)) (fun _ hk=>hk.2) (.slice Ao17 t217.length co17)) (fun _ hk=>hk.2) (.int .i64 t220)) (fun _ h_=>h_.1))));(case side4=>exact (Kd.R_reads' HO219.out).2.1);(case side5=>exact Kd.C_below HR0_0.out (zb_));(case side6=>exact HC0_0.out);(case side7=>exact Kd.C_below HR0_1.out (zb_));(case side8=>exact HC0_1.out);rintro e w19 ⟨rfl,hb⟩;have n0_:=zm (Kd.R_below (by (with_reducible repeat (first|apply zrA|apply zrN|apply zrD));exact (Kd.R_mono (Kd.R_far (p:=⟨gb222,2,none⟩) (Kd.R_far (p:=⟨gb222,1,none⟩) (Kd.R_far (p:=⟨gb222,0,none⟩) (Kd.R_types HO216.out BK222.out (by decide)) (fun _ hk=>hk.2) (.slice Ao13 t214.length co13)) (fun _ hk=>hk.2) (.slice Ao17 t217.length co17)) (fun _ hk=>hk.2) (.int .i64 t220)) (fun _ h_=>h_.1))) hb);have n1_:=zm (Kd.R_below (by (with_reducible repeat (first|apply zrA|apply zrN|apply zrD));exact (Kd.R_mono (Kd.R_far (p:=⟨gb222,2,none⟩) (Kd.R_far (p:=⟨gb222,1,none⟩) (Kd.R_far (p:=⟨gb222,0,none⟩) (Kd.R_types HO219.out BK222.out (by decide)) (fun _ hk=>hk.2) (.slice Ao13 t214.length co13)) (fun _ hk=>hk.2) (.slice Ao17 t217.length co17)) (fun _ hk=>hk.2) (.int .i64 t220)) (fun _ h_=>h_.1))) hb);have n2_:=zm (zbB (g:=gb212) (o:=.cells #[.slice A0_0 l0_0.length c0_0,.slice A0_1 l0_1.length c0_1,.int .i64 a0_2] 25 (0,0)) (by (with_reducible repeat (first|refine zbN ?_ _|refine zbD ?_|refine zbA ?_ _));refine blk_far ?_ NB212_222.out _;(with_reducible repeat (first|refine zbN ?_ _|refine zbD ?_|refine zbA ?_ _));refine blk_far ?_ NB212_222.out _;(with_reducible repeat (first|refine zbN ?_ _|refine zbD ?_|refine zbA ?_ _));refine blk_far ?_ NB212_222.out _;(with_reducible repeat (first|refine zbN ?_ _|refine zbD ?_|refine zbA ?_ _));exact BK212.out) hb);have n3_:=zm (zbB (g:=gb213) (o:=.cells #[.slice A1_0 l1_0.length c1_0,.slice A1_1 l1_1.length c1_1,.int .i64 a1_2] 25 (0,0)) (by (with_reducible repeat (first|refine zbN ?_ _|refine zbD ?_|refine zbA ?_ _));refine blk_far ?_ NB213_222.out _;(with_reducible repeat (first|refine zbN ?_ _|refine zbD ?_|refine zbA ?_ _));refine blk_far ?_ NB213_222.out _;(with_reducible repeat (first|refine zbN ?_ _|refine zbD ?_|refine zbA ?_ _));refine blk_far ?_ NB213_222.out _;(with_reducible repeat (first|refine zbN ?_ _|refine zbD ?_|refine zbA ?_ _));exact BK213.out) hb);have n4_:=zm (zbB (g:=gb222) (o:=.cells #[.slice Ao13 t214.length co13,.slice Ao17 t217.length co17,.int .i64 t220] 25 (0,0)) (by (with_reducible repeat (first|refine zbN ?_ _|refine zbD ?_|refine zbA ?_ _));refine blk_put (cs:=#[.slice Ao13 t214.length co13,.slice Ao17 t217.length co17,.int .i64 0]) ?_ 2 _ rfl;(with_reducible repeat (first|refine zbN ?_ _|refine zbD ?_|refine zbA ?_ _));refine blk_put (cs:=#[.slice Ao13 t214.length co13,.slice none 0 0,.int .i64 0]) ?_ 1 _ rfl;(with_reducible repeat (first|refine zbN ?_ _|refine zbD ?_|refine zbA ?_ _));refine blk_put (cs:=#[.slice none 0 0,.slice none 0 0,.int .i64 0]) ?_ 0 _ rfl;(with_reducible repeat (first|refine zbN ?_ _|refine zbD ?_|refine zbA ?_ _));exact BK222.out) hb);have n5_:=zkH HB hb;clear HO216 HO219 BK212 BK213 BK222 HB;have HO216:=n0_;have HO219:=n1_;have BK212:=n2_;have BK213:=n3_;have BK222:=n4_;have HB:=n5_;clear n0_ n1_ n2_ n3_ n4_ n5_;(try clear hb);(try clear hb2);(try clear hk);(try clear hi)))
  go_ret
  exact ⟨ze_,zb_⟩
 ·rw [if_neg c4] at H
  have c4b0:(t221 == 0)=false:=beq_eq_false_iff_ne.mpr c4
  have c4b1:(t221 != 0)=true:=bne_iff_ne.mpr c4
  obtain rfl:=Option.some.inj H
  go_enter Try.func19,Try.ntmps19
  go_wp2_with (first|((with_reducible refine gate_dst (N:=2) rfl ?_);refine zbx 2 #[.slice A0_0 l0_0.length c0_0,.slice A0_1 l0_1.length c0_1,.int .i64 a0_2] 25 ?_;intro gb212 hg w20 hbox hb;have n0_:=zkH HB hb;have n1_:=zm (hbox);have n2_:=zkG HB hg;have n3_:=zkG HB hg;clear HB;have HB:=n0_;have BK212:=n1_;have GW212:=n2_;have GE212:=n3_;clear n0_ n1_ n2_ n3_;clear hb hbox hg)|((with_reducible refine gate_dst (N:=3) rfl ?_);refine zbx 3 #[.slice A1_0 l1_0.length c1_0,.slice A1_1 l1_1.length c1_1,.int .i64 a1_2] 25 ?_;intro gb213 hg w21 hbox hb;have n0_:=zkB BK212 hb;have n1_:=zkH HB hb;have n2_:=zm (hbox);have n3_:=zkG HB hg;have n4_:=zkG HB hg;have n5_:=zkN BK212 hg;have n6_:=zkM BK212 hg;clear BK212 HB;have BK212:=n0_;have HB:=n1_;have BK213:=n2_;have GW213:=n3_;have GE213:=n4_;have NB212_213:=n5_;have NB213_212:=n6_;clear n0_ n1_ n2_ n3_ n4_ n5_ n6_;clear hb hbox hg;have hnb22:=NB212_213.out;have hnc22:=NB213_212.out;obtain ⟨hcz23_0,hcz23_1,hcz23_2,hfz23_0,hfz23_1,hfz23_2⟩:=zc3 BK212.out;obtain ⟨hcz24_0,hcz24_1,hcz24_2,hfz24_0,hfz24_1,hfz24_2⟩:=zc3 BK213.out)|((with_reducible refine gate_callee (f:=13) rfl ?_);refine goesL_ (some 10) rfl rfl Try.func13 (by kernel_rfl) rfl #[.agg #[.slice A0_0 l0_0.length c0_0,.slice A0_1 l0_1.length c0_1,.int .i64 a0_2],.agg #[.slice A1_0 l1_0.length c1_0,.slice A1_1 l1_1.length c1_1,.int .i64 a1_2]] rfl (by (try simp only [List.map_toArray,List.map_cons,List.map_nil]);first|done|rfl|(simp only [List.length_drop,List.length_take];rfl)) ?_;(with_reducible refine (mapjnl_Join.calls k _ _ l0_0 _ _ l0_1 a0_2 _ _ l1_0 _ _ l1_1 a1_2 t214 t217 t220 t221 _ ?side1 ?side2 ?side3 ?side4 ?side5 ?side6 ?side7 ?side8 A3.out).mono ?_);(case side1=>exact zC HR0_0);(case side2=>exact HC0_0.out);(case side3=>exact zC HR0_1);(case side4=>exact HC0_1.out);(case side5=>exact zC HR1_0);(case side6=>exact HC1_0.out);(case side7=>exact zC HR1_1);(case side8=>exact HC1_1.out);rintro e w25 ⟨v215,v218,rfl,ho0,ho1,hb⟩;refine ⟨_,rfl,?_⟩;have n0_:=zm (Kd.R_lower ho0 (below_size (zb_)));have n1_:=zm (Kd.R_lower ho1 (below_size (zb_)));have n2_:=zkB BK212 hb;have n3_:=zkB BK213 hb;have n4_:=zkH HB hb;clear BK212 BK213 HB;have HO216:=n0_;have HO219:=n1_;have BK212:=n2_;have BK213:=n3_;have HB:=n4_;clear n0_ n1_ n2_ n3_ n4_;(try clear hb);(try clear hb2);(try clear hk);(try clear hi);(try clear ho0);(try clear ho1))|((with_reducible refine gate_dst (N:=5) rfl ?_);refine zbx 5 #[.slice none 0 0,.slice none 0 0,.int .i64 0] 25 ?_;intro gb222 hg w26 hbox hb;have n0_:=zm (Kd.R_below (by (with_reducible repeat (first|apply zrA|apply zrN|apply zrD));exact HO216.out) hb);have n1_:=zm (Kd.R_below (by (with_reducible repeat (first|apply zrA|apply zrN|apply zrD));exact HO219.out) hb);have n2_:=zkB BK212 hb;have n3_:=zkB BK213 hb;have n4_:=zkH HB hb;have n5_:=zm (hbox);have n6_:=zkG HB hg;have n7_:=zkG HB hg;have n8_:=zkN BK212 hg;have n9_:=zkM BK212 hg;have n10_:=zkN BK213 hg;have n11_:=zkM BK213 hg;clear HO216 HO219 BK212 BK213 HB;have HO216:=n0_;have HO219:=n1_;have BK212:=n2_;have BK213:=n3_;have HB:=n4_;have BK222:=n5_;have GW222:=n6_;have GE222:=n7_;have NB212_222:=n8_;have NB222_212:=n9_;have NB213_222:=n10_;have NB222_213:=n11_;clear n0_ n1_ n2_ n3_ n4_ n5_ n6_ n7_ n8_ n9_ n10_ n11_;clear hb hbox hg;obtain ⟨Ao27,co27,eo27⟩:=Kd.R_slice HO216.out;subst eo27;have hnb28:=NB222_212.out;have hnc28:=NB212_222.out;have hnb29:=NB222_213.out;have hnc29:=NB213_222.out;obtain ⟨hcz30_0,hcz30_1,hcz30_2,hfz30_0,hfz30_1,hfz30_2⟩:=zc3 BK222.out;obtain ⟨Ao31,co31,eo31⟩:=Kd.R_slice HO219.out;subst eo31))
  go_ret
  exact ⟨ze_,zb_⟩
end Go.Proofs.Ytkhbmgclklmimaa.Print
end
section
namespace Go.Proofs.Ytkhbmgclklmimaa.Print
open Go.RowKit Go.Proofs.YtkhbmgclklmimaaW.PrintWords Go.Proofs.YtkhbmgclklmimaaW.PrintLast Go.Proofs.YtkhbmgclklmimaaW.PrintMore
attribute [local go_sem] max2_int min2_int max_two min_two max_three min_three max_four min_four   -- for this text's walks alone
attribute [local go_sem ↓] Go.Proofs.Ytkhbmgclklmimaa.Sem.isSome_setCell
attribute [local go_sem] Go.Instr.field Go.asAgg
set_option linter.unusedVariables false
set_option linter.unusedSimpArgs false
def mapjnl_New.f (a0:Int):Option (List Bool × List Int × Int × Int):=(mapjnl_blocks.f a0).bind fun t105=>(if t105=true then (if 0≤a0 then (if (a0:Int).toNat≤281474976710656 then (if (a0:Int).toNat≤35184372088832 then (some ((List.replicate (a0:Int).toNat false),(List.replicate (a0:Int).toNat 0),0,0)) else (none)) else (none)) else (none)) else (some (([]:List Bool),([]:List Int),0,20)))
set_option maxHeartbeats 8000000 in
set_option maxRecDepth 100000 in
theorem mapjnl_New.calls (a0:Int) (r1:List Bool) (r2:List Int) (r3:Int) (r4:Int) (w:World) (h:mapjnl_New.f a0=some (r1,r2,r3,r4)) :
  Calls Try.prog 11 #[.int .i64 a0] w fun e w'=>∃ v0_ v1_:Value,e=.returned (.tuple #[.agg #[v0_,v1_,.int .i64 r3],.int .i64 r4])∧Kd.R Kd.bool 4 w' w.heap.size (fun _=>True) v0_ r1∧Kd.R (Kd.int .i64) 2 w' w.heap.size (fun _=>True) v1_ r2∧Below w.heap.size w w':=by
 have hu25:=Try.underlying25
 have HB:=zm (Below.refl w.heap.size w)
 have H:((mapjnl_blocks.f a0).bind fun t105=>(if t105=true then (if 0≤a0 then (if (a0:Int).toNat≤281474976710656 then (if (a0:Int).toNat≤35184372088832 then (some ((List.replicate (a0:Int).toNat false),(List.replicate (a0:Int).toNat 0),0,0)) else (none)) else (none)) else (none)) else (some (([]:List Bool),([]:List Int),0,20))))=some (r1,r2,r3,r4):=h
 clear h
 replace H:=Option.bind_eq_some_iff.mp H
 obtain ⟨t105,A20,H⟩:=H
 replace H:(if t105=true then (if 0≤a0 then (if (a0:Int).toNat≤281474976710656 then (if (a0:Int).toNat≤35184372088832 then (some ((List.replicate (a0:Int).toNat false),(List.replicate (a0:Int).toNat 0),0,0)) else (none)) else (none)) else (none)) else (some (([]:List Bool),([]:List Int),0,20)))=some (r1,r2,r3,r4):=H
 have A2:=zm A20
 clear A20
 by_cases c3:t105=true
 ·subst c3
  have H1:(if 0≤a0 then (if (a0:Int).toNat≤281474976710656 then (if (a0:Int).toNat≤35184372088832 then (some ((List.replicate (a0:Int).toNat false),(List.replicate (a0:Int).toNat 0),0,0)) else (none)) else (none)) else (none))=some (r1,r2,r3,r4):=by rw [if_pos rfl] at H;exact H
  clear H
  have H:=H1
  clear H1
  by_cases c4:0≤a0
  ·rw [if_pos c4] at H
   have c4b0:=eq_true c4
   have c4b1:decide (0≤a0)=true:=decide_eq_true c4
   clear c4
   by_cases c5:(a0:Int).toNat≤281474976710656
   ·rw [if_pos c5] at H
    have c5b0:=eq_true c5
    have c5b1:decide ((a0:Int).toNat≤281474976710656)=true:=decide_eq_true c5
    clear c5
    obtain ⟨y106,hy106⟩:∃ y_:List Bool,y_=(List.replicate (a0:Int).toNat false):=⟨_,rfl⟩
    replace H:(if (a0:Int).toNat≤35184372088832 then (some (y106,(List.replicate (a0:Int).toNat 0),0,0)) else (none))=some (r1,r2,r3,r4):=by first|(rw [hy106];with_reducible exact H)|(have H2_:=(Option.bind_some _ _).symm.trans H;rw [hy106];with_reducible exact H2_)|(have H2_:=(Option.bind_some _ _).symm.trans H;with_reducible exact H2_)|with_reducible exact H|(rw [hy106];exact H)|exact H
    have Ny106:=zm hy106
    clear hy106
    by_cases c6:(a0:Int).toNat≤35184372088832
    ·rw [if_pos c6] at H
     have c6b0:=eq_true c6
     have c6b1:decide ((a0:Int).toNat≤35184372088832)=true:=decide_eq_true c6
     clear c6
     obtain ⟨y109,hy109⟩:∃ y_:List Int,y_=(List.replicate (a0:Int).toNat 0):=⟨_,rfl⟩
     replace H:(some (y106,y109,0,0))=some (r1,r2,r3,r4):=by first|(rw [hy109];with_reducible exact H)|(have H2_:=(Option.bind_some _ _).symm.trans H;rw [hy109];with_reducible exact H2_)|(have H2_:=(Option.bind_some _ _).symm.trans H;with_reducible exact H2_)|with_reducible exact H|(rw [hy109];exact H)|exact H
     have Ny109:=zm hy109
     clear hy109
     simp only [Option.some.injEq,Prod.mk.injEq] at H
     obtain ⟨rfl,rfl,rfl,rfl⟩:=H
     go_enter Try.func11,Try.ntmps11
     try go_wp2_with (first|((with_reducible refine gate_dst (N:=2) rfl ?_);refine zbx 2 #[.slice none 0 0,.slice none 0 0,.int .i64 0] 25 ?_;intro gb104 hg w7 hbox hb;have n0_:=zkH HB hb;have n1_:=zm (hbox);have n2_:=zkG HB hg;have n3_:=zkG HB hg;clear HB;have HB:=n0_;have BK104:=n1_;have GW104:=n2_;have GE104:=n3_;clear n0_ n1_ n2_ n3_;clear hb hbox hg)|((with_reducible refine gate_callee (f:=49) rfl ?_);refine goesL_ (some 5) rfl rfl Try.func49 (by kernel_rfl) rfl #[.int .i64 a0] rfl (by (try simp only [List.map_toArray,List.map_cons,List.map_nil]);first|done|rfl|(simp only [List.length_drop,List.length_take];rfl)) ?_;(with_reducible refine (mapjnl_blocks.calls a0 true _ A2.out).mono ?_);rintro e w' ⟨rfl,⟨nd,rfl⟩⟩;refine ⟨_,rfl,?_⟩;(try (rw [drewN_self w7];generalize hq_:World.drewN w7 _=w7;have n0_:Aside0 (w7.heap[gb104]?=some (.cells #[.slice none 0 0,.slice none 0 0,.int .i64 0] 25 (0,0))):=⟨by rw [← hq_];exact zx_⟩;have n1_:Aside0 (Below w.heap.size w w7):=⟨by rw [← hq_];exact (zb_)⟩;clear BK104 HB hq_;have BK104:=n0_;have HB:=n1_;clear n0_ n1_))))
     have n0_:=zm (zbD BK104.out)
     have n1_:=zm (zlD HB.out)
     clear BK104 HB
     have BK104:=n0_
     have HB:=n1_
     clear n0_ n1_
     refine start_ (n:=7) (S:=fun w'=>True) (ds:=[]) (Array.replicate 7 false) (by kernel_rfl) rfl rfl trivial (fun hHeld=>?_)
     generalize w7.drew=w8 at BK104 HB hHeld ⊢
     refine pure_ (i:=0) (N:=some 8) (v:=?_) (a':=?_) #[true,false,false,false,false,false,false] rfl rfl (by kernel_rfl) (fun _ _ _ h=>h) (Or.inl ⟨by rfl,?_⟩) ?_ ?_
     rotate_left
     ·intro w'
      go_simp
      with_reducible rfl
     rotate_left
     ·simp only [Act.put,List.setIfInBounds_toArray,List.set_cons_zero,List.set_cons_succ,i64_w,i32_w]
      rfl
     refine pure_ (i:=2) (N:=some 10) (v:=?_) (a':=?_) #[true,false,true,false,false,false,false] rfl rfl (by kernel_rfl) (fun _ _ _ h=>h) (Or.inl ⟨by rfl,?_⟩) ?_ ?_
     rotate_left
     ·intro w'
      go_simp
      with_reducible rfl
     rotate_left
     ·simp only [Act.put,List.setIfInBounds_toArray,List.set_cons_zero,List.set_cons_succ,i64_w,i32_w]
      rfl
     refine join_ (σ:=Value × Value) 3 #[true,true,true,true,false,false,false] (fun s_=>[(9,s_.1),(11,s_.2)]) (fun s_ w'=>(Kd.R Kd.bool 4 w' w.heap.size (fun _=>True) s_.1 y106)∧(Kd.R (Kd.int .i64) 2 w' w.heap.size (fun _=>True) s_.2 y109)∧(w'.heap[gb104]?=some (.cells #[.slice none 0 0,.slice none 0 0,.int .i64 0] 25 (0,0)))∧(Below w.heap.size w w')) ?_ ?_
     rotate_left
     ·intro hCont
      refine two_ (i:=1) (j:=3) (Ni:=some 9) (Nj:=some 11) #[true,true,true,false,false,false,false] #[true,false,true,true,false,false,false] rfl rfl rfl rfl (by kernel_rfl) (by decide) (by decide) (fun K hK=>?_) (fun K hK=>?_)
      ·skip
       refine Kd.R_make_step Kd.bool _ 4 (by rfl) (N:=9) rfl 22 _ _ rfl a0 rfl rfl Try.underlying22 (.bool false) 1 info4 rfl (by decide) (by omega) false (ok:=fun _=>True) (okp:=fun _=>True) rfl (fun _ hk=>hk) trivial (za_) (Nat.le_trans (Nat.mul_le_mul_right _ (za_:a0.toNat≤281474976710656)) (by omega)) (Below.refl _ _) (Nat.le_refl _) ?_
       intro v107 w9 ho10 hb hg_ hnew_
       clear hg_ hnew_
       (first|rw [← Ny106.out] at ho10|(simp only [Int.reduceToNat] at ho10;rw [← Ny106.out] at ho10))
       have n0_:=zm (Kd.R_lower ho10 (below_size (zb_)))
       have n1_:=zkB BK104 hb
       have n2_:=zkH HB hb
       clear BK104 HB
       have HO108:=n0_
       have BK104:=n1_
       have HB:=n2_
       clear n0_ n1_ n2_ hb ho10
       refine hK.out _ _ trivial (fun hHeld=>?_)
       clear hK K
       refine znm (some 9) ?_
       refine one_ (i:=3) (N:=some 11) #[true,true,true,true,false,false,false] rfl rfl (by kernel_rfl) (by decide) (fun K hK=>?_)
       refine Kd.R_make_step (Kd.int .i64) _ 2 (by rfl) (N:=11) rfl 23 _ _ rfl a0 rfl rfl Try.underlying23 (.int .i64 0) 8 info2 rfl (by decide) (by omega) 0 (ok:=fun _=>True) (okp:=fun _=>True) rfl (fun _ hk=>hk) trivial (za_) (Nat.le_trans (Nat.mul_le_mul_right _ (za_:a0.toNat≤35184372088832)) (by omega)) (Below.refl _ _) (Nat.le_refl _) ?_
       intro v110 w11 ho12 hb hg_ hnew_
       clear hg_ hnew_
       (first|rw [← Ny109.out] at ho12|(simp only [Int.reduceToNat] at ho12;rw [← Ny109.out] at ho12))
       have n0_:=zm (Kd.R_below (by (with_reducible repeat (first|apply zrA|apply zrN|apply zrD));exact HO108.out) hb)
       have n1_:=zm (Kd.R_lower ho12 (below_size (zb_)))
       have n2_:=zkB BK104 hb
       have n3_:=zkH HB hb
       clear HO108 BK104 HB
       have HO108:=n0_
       have HO111:=n1_
       have BK104:=n2_
       have HB:=n3_
       clear n0_ n1_ n2_ n3_ hb ho12
       obtain ⟨Ao13,co13,eo13⟩:=Kd.R_slice HO111.out
       (first|subst eo13|(injection eo13 with f1_ f2_ f3_;have f4_:=f1_.symm;have f5_:=f3_.symm;clear f1_ f2_ f3_;subst f4_;subst f5_))
       obtain ⟨Ao14,co14,eo14⟩:=Kd.R_slice HO108.out
       (first|subst eo14|(injection eo14 with f1_ f2_ f3_;have f4_:=f1_.symm;have f5_:=f3_.symm;clear f1_ f2_ f3_;subst f4_;subst f5_))
       refine hK.out _ _ trivial (fun hHeld=>?_)
       clear hK K
       refine znm (some 11) ?_
       exact norm_ (by simp only [putAll,Act.put,List.setIfInBounds_toArray,List.set_cons_zero,List.set_cons_succ]) (hCont (.slice Ao14 y106.length co14,.slice Ao13 y109.length co13) _ ⟨(by (with_reducible repeat (first|apply zrA|apply zrN|apply zrD));exact HO108.out),(by (with_reducible repeat (first|apply zrA|apply zrN|apply zrD));exact HO111.out),zx_,(zb_)⟩)
      ·skip
       refine Kd.R_make_step (Kd.int .i64) _ 2 (by rfl) (N:=11) rfl 23 _ _ rfl a0 rfl rfl Try.underlying23 (.int .i64 0) 8 info2 rfl (by decide) (by omega) 0 (ok:=fun _=>True) (okp:=fun _=>True) rfl (fun _ hk=>hk) trivial (za_) (Nat.le_trans (Nat.mul_le_mul_right _ (za_:a0.toNat≤35184372088832)) (by omega)) (Below.refl _ _) (Nat.le_refl _) ?_
       intro v110 w9 ho10 hb hg_ hnew_
       clear hg_ hnew_
       (first|rw [← Ny109.out] at ho10|(simp only [Int.reduceToNat] at ho10;rw [← Ny109.out] at ho10))
       have n0_:=zm (Kd.R_lower ho10 (below_size (zb_)))
       have n1_:=zkB BK104 hb
       have n2_:=zkH HB hb
       clear BK104 HB
       have HO111:=n0_
       have BK104:=n1_
       have HB:=n2_
       clear n0_ n1_ n2_ hb ho10
       refine hK.out _ _ trivial (fun hHeld=>?_)
       clear hK K
       refine znm (some 11) ?_
       refine one_ (i:=1) (N:=some 9) #[true,true,true,true,false,false,false] rfl rfl (by kernel_rfl) (by decide) (fun K hK=>?_)
       refine Kd.R_make_step Kd.bool _ 4 (by rfl) (N:=9) rfl 22 _ _ rfl a0 rfl rfl Try.underlying22 (.bool false) 1 info4 rfl (by decide) (by omega) false (ok:=fun _=>True) (okp:=fun _=>True) rfl (fun _ hk=>hk) trivial (za_) (Nat.le_trans (Nat.mul_le_mul_right _ (za_:a0.toNat≤281474976710656)) (by omega)) (Below.refl _ _) (Nat.le_refl _) ?_
       intro v107 w11 ho12 hb hg_ hnew_
       clear hg_ hnew_
       (first|rw [← Ny106.out] at ho12|(simp only [Int.reduceToNat] at ho12;rw [← Ny106.out] at ho12))
       have n0_:=zm (Kd.R_below (by (with_reducible repeat (first|apply zrA|apply zrN|apply zrD));exact HO111.out) hb)
       have n1_:=zm (Kd.R_lower ho12 (below_size (zb_)))
       have n2_:=zkB BK104 hb
       have n3_:=zkH HB hb
       clear HO111 BK104 HB
       have HO111:=n0_
       have HO108:=n1_
       have BK104:=n2_
       have HB:=n3_
       clear n0_ n1_ n2_ n3_ hb ho12
       obtain ⟨Ao13,co13,eo13⟩:=Kd.R_slice HO111.out
       (first|subst eo13|(injection eo13 with f1_ f2_ f3_;have f4_:=f1_.symm;have f5_:=f3_.symm;clear f1_ f2_ f3_;subst f4_;subst f5_))
       obtain ⟨Ao14,co14,eo14⟩:=Kd.R_slice HO108.out
       (first|subst eo14|(injection eo14 with f1_ f2_ f3_;have f4_:=f1_.symm;have f5_:=f3_.symm;clear f1_ f2_ f3_;subst f4_;subst f5_))
       refine hK.out _ _ trivial (fun hHeld=>?_)
       clear hK K
       refine znm (some 9) ?_
       exact norm_ (by simp only [putAll,Act.put,List.setIfInBounds_toArray,List.set_cons_zero,List.set_cons_succ]) (hCont (.slice Ao14 y106.length co14,.slice Ao13 y109.length co13) _ ⟨(by (with_reducible repeat (first|apply zrA|apply zrN|apply zrD));exact HO108.out),(by (with_reducible repeat (first|apply zrA|apply zrN|apply zrD));exact HO111.out),zx_,(zb_)⟩)
     rintro ⟨v107,v110⟩ w15 ⟨h0_,h1_,h2_,h3_⟩
     have n0_:Aside0 (Kd.R Kd.bool 4 w15 w.heap.size (fun _=>True) v107 y106):=⟨h0_⟩
     have n1_:Aside0 (Kd.R (Kd.int .i64) 2 w15 w.heap.size (fun _=>True) v110 y109):=⟨h1_⟩
     have n2_:Aside0 (w15.heap[gb104]?=some (.cells #[.slice none 0 0,.slice none 0 0,.int .i64 0] 25 (0,0))):=⟨h2_⟩
     have n3_:Aside0 (Below w.heap.size w w15):=⟨h3_⟩
     clear BK104 HB h0_ h1_ h2_ h3_
     have HO108:=n0_
     have HO111:=n1_
     have BK104:=n2_
     have HB:=n3_
     clear n0_ n1_ n2_ n3_
     have hHeld:=trivial
     obtain ⟨Ao16,co16,eo16⟩:=Kd.R_slice HO111.out
     (first|subst eo16|(injection eo16 with f1_ f2_ f3_;have f4_:=f1_.symm;have f5_:=f3_.symm;clear f1_ f2_ f3_;subst f4_;subst f5_))
     obtain ⟨Ao17,co17,eo17⟩:=Kd.R_slice HO108.out
     (first|subst eo17|(injection eo17 with f1_ f2_ f3_;have f4_:=f1_.symm;have f5_:=f3_.symm;clear f1_ f2_ f3_;subst f4_;subst f5_))
     refine norm_ (a':=?_) ?_ ?_
     rotate_left
     ·simp only [putAll,Act.put,List.setIfInBounds_toArray,List.set_cons_zero,List.set_cons_succ]
      rfl
     refine pure_ (i:=4) (N:=some 12) (v:=?_) (a':=?_) #[true,true,true,true,true,false,false] rfl rfl (by kernel_rfl) (fun _ _ _ h=>h) (Or.inl ⟨by rfl,?_⟩) ?_ ?_
     rotate_left
     ·intro w'
      go_simp
      with_reducible rfl
     rotate_left
     ·simp only [Act.put,List.setIfInBounds_toArray,List.set_cons_zero,List.set_cons_succ,i64_w,i32_w]
      rfl
     refine one_ (i:=5) (N:=none) #[true,true,true,true,true,true,false] rfl rfl (by kernel_rfl) (by decide) (fun K hK=>?_)
     have hs18:w15.cell? ⟨gb104,0,none⟩=some (.slice none 0 0):=(blk_cell BK104.out 0).trans rfl
     have hfs18:=blk_frozen BK104.out 0
     have hs19:w15.cell? ⟨gb104,1,none⟩=some (.slice none 0 0):=(blk_cell BK104.out 1).trans rfl
     have hfs19:=blk_frozen BK104.out 1
     have hs20:w15.cell? ⟨gb104,2,none⟩=some (.int .i64 0):=(blk_cell BK104.out 2).trans rfl
     have hfs20:=blk_frozen BK104.out 2
     refine skip_ (w1:=?_) (by rfl) rfl ?_ ?_
     rotate_left
     ·go_simp
      rfl
     refine hK.out _ _ trivial (fun hHeld=>?_)
     clear hK K
     refine pure_ (i:=6) (N:=some 3) (v:=?_) (a':=?_) #[true,true,true,true,true,true,true] rfl rfl (by kernel_rfl) (fun _ _ _ h=>h) (Or.inl ⟨by rfl,?_⟩) ?_ ?_
     rotate_left
     ·intro w'
      go_simp
      with_reducible rfl
     rotate_left
     ·simp only [Act.put,List.setIfInBounds_toArray,List.set_cons_zero,List.set_cons_succ,i64_w,i32_w]
      rfl
     refine done_ (by kernel_rfl) ?_
     try go_wp2
     refine bodyPost_ret (results_ct rfl _ _ gb104 25 #[.slice Ao17 y106.length co17,.slice Ao16 y109.length co16,.int .i64 0] (0,0) _ rfl (by (with_reducible repeat (first|refine zbN ?_ _|refine zbD ?_|refine zbA ?_ _));refine blk_put (cs:=#[.slice Ao17 y106.length co17,.slice Ao16 y109.length co16,.int .i64 0]) ?_ 2 _ rfl;(with_reducible repeat (first|refine zbN ?_ _|refine zbD ?_|refine zbA ?_ _));refine blk_put (cs:=#[.slice Ao17 y106.length co17,.slice none 0 0,.int .i64 0]) ?_ 1 _ rfl;(with_reducible repeat (first|refine zbN ?_ _|refine zbD ?_|refine zbA ?_ _));refine blk_put (cs:=#[.slice none 0 0,.slice none 0 0,.int .i64 0]) ?_ 0 _ rfl;(with_reducible repeat (first|refine zbN ?_ _|refine zbD ?_|refine zbA ?_ _));exact BK104.out) Try.underlying25 rfl (by kernel_rfl)) rfl ?_
     exact ⟨_,_,ze_,by (with_reducible repeat (first|apply zrA|apply zrN|apply zrD));exact Kd.R_mono (Kd.R_far (p:=⟨gb104,2,none⟩) (Kd.R_far (p:=⟨gb104,1,none⟩) (Kd.R_far (p:=⟨gb104,0,none⟩) (Kd.R_types HO108.out BK104.out (by decide)) (fun _ hk=>hk.2) (.slice Ao17 y106.length co17)) (fun _ hk=>hk.2) (.slice Ao16 y109.length co16)) (fun _ hk=>hk.2) (.int .i64 0)) (fun _ hk=>trivial),by (with_reducible repeat (first|apply zrA|apply zrN|apply zrD));exact Kd.R_mono (Kd.R_far (p:=⟨gb104,2,none⟩) (Kd.R_far (p:=⟨gb104,1,none⟩) (Kd.R_far (p:=⟨gb104,0,none⟩) (Kd.R_types HO111.out BK104.out (by decide)) (fun _ hk=>hk.2) (.slice Ao17 y106.length co17)) (fun _ hk=>hk.2) (.slice Ao16 y109.length co16)) (fun _ hk=>hk.2) (.int .i64 0)) (fun _ hk=>trivial),zb_⟩
    ·rw [if_neg c6] at H
     exact absurd H (by simp)
   ·rw [if_neg c5] at H
    exact absurd H (by simp)
  ·rw [if_neg c4] at H
   exact absurd H (by simp)
 ·replace c3:=Bool.eq_false_iff.mpr c3
  subst c3
  have H1:(some (([]:List Bool),([]:List Int),0,20))=some (r1,r2,r3,r4):=by rw [if_neg (show ¬ (false=true) by decide)] at H;exact H
  clear H
  have H:=H1
  clear H1
  simp only [Option.some.injEq,Prod.mk.injEq] at H
  obtain ⟨rfl,rfl,rfl,rfl⟩:=H
  go_enter Try.func11,Try.ntmps11
  go_wp2_with (first|((with_reducible refine gate_dst (N:=2) rfl ?_);refine zbx 2 #[.slice none 0 0,.slice none 0 0,.int .i64 0] 25 ?_;intro gb104 hg w21 hbox hb;have n0_:=zkH HB hb;have n1_:=zm (hbox);have n2_:=zkG HB hg;have n3_:=zkG HB hg;clear HB;have HB:=n0_;have BK104:=n1_;have GW104:=n2_;have GE104:=n3_;clear n0_ n1_ n2_ n3_;clear hb hbox hg)|((with_reducible refine gate_callee (f:=49) rfl ?_);refine goesL_ (some 5) rfl rfl Try.func49 (by kernel_rfl) rfl #[.int .i64 a0] rfl (by (try simp only [List.map_toArray,List.map_cons,List.map_nil]);first|done|rfl|(simp only [List.length_drop,List.length_take];rfl)) ?_;(with_reducible refine (mapjnl_blocks.calls a0 false _ A2.out).mono ?_);rintro e w' ⟨rfl,⟨nd,rfl⟩⟩;refine ⟨_,rfl,?_⟩;(try (rw [drewN_self w21];generalize hq_:World.drewN w21 _=w21;have n0_:Aside0 (w21.heap[gb104]?=some (.cells #[.slice none 0 0,.slice none 0 0,.int .i64 0] 25 (0,0))):=⟨by rw [← hq_];exact zx_⟩;have n1_:Aside0 (Below w.heap.size w w21):=⟨by rw [← hq_];exact (zb_)⟩;clear BK104 HB hq_;have BK104:=n0_;have HB:=n1_;clear n0_ n1_));obtain ⟨hcz22_0,hcz22_1,hcz22_2,hfz22_0,hfz22_1,hfz22_2⟩:=zc3 BK104.out))
  refine bodyPost_ret (results_ct rfl _ _ gb104 25 #[.slice none 0 0,.slice none 0 0,.int .i64 0] (0,0) _ rfl (by (with_reducible repeat (first|refine zbN ?_ _|refine zbD ?_|refine zbA ?_ _));refine blk_put (cs:=#[.slice none 0 0,.slice none 0 0,.int .i64 0]) ?_ 2 _ rfl;(with_reducible repeat (first|refine zbN ?_ _|refine zbD ?_|refine zbA ?_ _));refine blk_put (cs:=#[.slice none 0 0,.slice none 0 0,.int .i64 0]) ?_ 1 _ rfl;(with_reducible repeat (first|refine zbN ?_ _|refine zbD ?_|refine zbA ?_ _));refine blk_put (cs:=#[.slice none 0 0,.slice none 0 0,.int .i64 0]) ?_ 0 _ rfl;(with_reducible repeat (first|refine zbN ?_ _|refine zbD ?_|refine zbA ?_ _));exact BK104.out) Try.underlying25 rfl (by kernel_rfl)) rfl ?_
  exact ⟨_,_,ze_,zr_,zr_,zb_⟩
end Go.Proofs.Ytkhbmgclklmimaa.Print
end
section
namespace Go.Proofs.Ytkhbmgclklmimaa.Print
open Go.RowKit Go.Proofs.YtkhbmgclklmimaaW.PrintWords Go.Proofs.YtkhbmgclklmimaaW.PrintLast Go.Proofs.YtkhbmgclklmimaaW.PrintMore
attribute [local go_sem] max2_int min2_int max_two min_two max_three min_three max_four min_four   -- for this text's walks alone
attribute [local go_sem ↓] Go.Proofs.Ytkhbmgclklmimaa.Sem.isSome_setCell
attribute [local go_sem] Go.Instr.field Go.asAgg
set_option linter.unusedVariables false
set_option linter.unusedSimpArgs false
def mapjnl_learn.f (l0_0:List Bool) (l0_1:List Int) (a0_2:Int) (a1_0:Int) (a1_1:Int) (a1_2:Int):Option (List Bool × List Int × Int):=if a1_0=1 then (if 0≤a1_1 then (if a1_1 < (l0_0.length:Int) then (some ((l0_0.set (a1_1:Int).toNat true),l0_1,a0_2)) else (none)) else (none)) else (if a1_0=2 then (if 0≤a1_1 then (if a1_1 < (l0_1.length:Int) then (some (l0_0,(l0_1.set (a1_1:Int).toNat (mx (rd l0_1 a1_1) a1_2)),a0_2)) else (none)) else (none)) else (some (l0_0,l0_1,mx a0_2 a1_2)))
def mapjnl_learn.T2:Bool × List (List Nat × List Nat):=(true,[([],[]),([],[]),([1],[1]),([2],[2]),([3],[3]),([],[]),([5],[5]),([4,6],[4,6]),([0,0,1,2,3,4,5,6,7],[0]),([8,0,1,2,3,4,5,6,7],[8]),([9,7,0,1,2,3,4,5,6,7],[7,9])])
def mapjnl_learn.B2:List Nat:=[0,0,2,6,14,0,32,126,255,511,1023]
theorem mapjnl_learn.tab2:rtab .any (opsOf Try.f62 2)=mapjnl_learn.T2:=by kernel_rfl
theorem mapjnl_learn.bits2:waitsOk mapjnl_learn.T2.2 mapjnl_learn.B2=true:=by kernel_rfl
def mapjnl_learn.T4:Bool × List (List Nat × List Nat):=(true,[([],[]),([0],[0]),([1],[1]),([2],[2]),([],[]),([4],[4]),([3,5,0,1,2,3,4,5],[3,5]),([6,0,1,2,3,4,5],[6])])
def mapjnl_learn.B4:List Nat:=[0,1,3,7,0,16,63,127]
theorem mapjnl_learn.tab4:rtab .any (opsOf Try.f62 4)=mapjnl_learn.T4:=by kernel_rfl
theorem mapjnl_learn.bits4:waitsOk mapjnl_learn.T4.2 mapjnl_learn.B4=true:=by kernel_rfl
def mapjnl_learn.T6:Bool × List (List Nat × List Nat):=(true,[([],[]),([0],[0]),([1],[1]),([2],[2]),([],[]),([4],[4]),([],[]),([6],[6]),([7],[7]),([8],[8]),([],[]),([10],[10]),([9,11],[9,11]),([12],[12]),([],[]),([14],[14]),([13,15],[13,15]),([3,5,0,1,2,3,4,5,6,7,8,9,10,11,12,13,14,15,16],[3,5]),([17,16,0,1,2,3,4,5,6,7,8,9,10,11,12,13,14,15,16],[16,17])])
def mapjnl_learn.B6:List Nat:=[0,1,3,7,0,16,0,64,192,448,0,1024,4032,8128,0,16384,65472,131071,262143]
theorem mapjnl_learn.tab6:rtab .any (opsOf Try.f62 6)=mapjnl_learn.T6:=by kernel_rfl
theorem mapjnl_learn.bits6:waitsOk mapjnl_learn.T6.2 mapjnl_learn.B6=true:=by kernel_rfl
set_option maxHeartbeats 8000000 in
set_option maxRecDepth 100000 in
theorem mapjnl_learn.calls (g_:Nat) (P0_0_:Nat → Prop) (u9000_:Value) (l0_0:List Bool) (P0_1_:Nat → Prop) (u9001_:Value) (l0_1:List Int) (a0_2:Int) (a1_0:Int) (a1_1:Int) (a1_2:Int) (r1:List Bool) (r2:List Int) (r3:Int) (w0 w:World) (hB:Below w0.heap.size w0 w) (ho0_0:Kd.R Kd.bool 4 w w0.heap.size P0_0_ u9000_ l0_0) (ho0_1:Kd.R (Kd.int .i64) 2 w w0.heap.size P0_1_ u9001_ l0_1) (hbox:w.heap[g_]?=some (.cells #[u9000_,u9001_,.int .i64 a0_2] 25 (0,0))) (h:mapjnl_learn.f l0_0 l0_1 a0_2 a1_0 a1_1 a1_2=some (r1,r2,r3)) :
  Calls Try.prog 62 #[.pointer (some ⟨g_,0,none⟩),.agg #[.int .i64 a1_0,.int .i64 a1_1,.int .i64 a1_2]] w fun e w'=>∃ (v0_ v1_:Value) (w2_:World),e=.returned (.tuple #[])∧w'=((w2_.setCell ⟨g_,0,none⟩ v0_).setCell ⟨g_,1,none⟩ v1_).setCell ⟨g_,2,none⟩ (.int .i64 r3)∧Kd.R Kd.bool 4 w2_ w0.heap.size (fun k_=>((P0_0_ k_∨P0_1_ k_)∨w.heap.size≤k_)) v0_ r1∧Kd.R (Kd.int .i64) 2 w2_ w0.heap.size (fun k_=>((P0_0_ k_∨P0_1_ k_)∨w.heap.size≤k_)) v1_ r2∧Below w0.heap.size w0 w2_∧Kept w w2_ (fun k_=>P0_0_ k_∨P0_1_ k_):=by
 have hu25:=Try.underlying25
 have hu55:=Try.underlying55
 have HO0_0:=zm (show Kd.R Kd.bool 4 w w0.heap.size (fun k_=>((P0_0_ k_∨P0_1_ k_)∨w.heap.size≤k_)) u9000_ l0_0 from Kd.R_mono ho0_0 (fun k_ hk=>(.inl (.inl hk))))
 have HO0_1:=zm (show Kd.R (Kd.int .i64) 2 w w0.heap.size (fun k_=>((P0_0_ k_∨P0_1_ k_)∨w.heap.size≤k_)) u9001_ l0_1 from Kd.R_mono ho0_1 (fun k_ hk=>(.inl (.inr hk))))
 have HK:=zm (Kept.refl w (fun k_=>P0_0_ k_∨P0_1_ k_))
 have HW0:=zm hB.size
 have HB:=zm hB
 clear hB
 have H:(if a1_0=1 then (if 0≤a1_1 then (if a1_1 < (l0_0.length:Int) then (some ((l0_0.set (a1_1:Int).toNat true),l0_1,a0_2)) else (none)) else (none)) else (if a1_0=2 then (if 0≤a1_1 then (if a1_1 < (l0_1.length:Int) then (some (l0_0,(l0_1.set (a1_1:Int).toNat (mx (rd l0_1 a1_1) a1_2)),a0_2)) else (none)) else (none)) else (some (l0_0,l0_1,mx a0_2 a1_2))))=some (r1,r2,r3):=h
 clear h
 by_cases c3:a1_0=1
 ·rw [if_pos c3] at H
  have c3b0:(a1_0 == 1)=true:=beq_iff_eq.mpr c3
  have c3b1:(a1_0 != 1)=false:=bne_eq_false_iff_eq.mpr c3
  clear c3
  by_cases c4:0≤a1_1
  ·rw [if_pos c4] at H
   have c4b0:decide (0≤a1_1)=true:=decide_eq_true c4
   clear c4
   by_cases c5:a1_1 < (l0_0.length:Int)
   ·rw [if_pos c5] at H
    have c5b0:decide (a1_1 < (l0_0.length:Int))=true:=decide_eq_true c5
    clear c5
    obtain ⟨y226,hy226⟩:∃ y_:List Bool,y_=(l0_0.set (a1_1:Int).toNat true):=⟨_,rfl⟩
    replace H:(some (y226,l0_1,a0_2))=some (r1,r2,r3):=by first|(rw [hy226];with_reducible exact H)|(have H2_:=(Option.bind_some _ _).symm.trans H;rw [hy226];with_reducible exact H2_)|(have H2_:=(Option.bind_some _ _).symm.trans H;with_reducible exact H2_)|with_reducible exact H|(rw [hy226];exact H)|exact H
    have Ny226:=zm hy226
    clear hy226
    simp only [Option.some.injEq,Prod.mk.injEq] at H
    obtain ⟨rfl,rfl,rfl⟩:=H
    obtain ⟨Ao7,co7,eo7⟩:=Kd.R_slice HO0_0.out
    subst eo7
    obtain ⟨Ao8,co8,eo8⟩:=Kd.R_slice HO0_1.out
    subst eo8
    have BK224:=zm hbox
    clear hbox
    go_enter Try.func62,Try.ntmps62
    try go_wp2_with (first|((with_reducible refine gate_dst (N:=3) rfl ?_);refine zbx 3 #[.int .i64 a1_0,.int .i64 a1_1,.int .i64 a1_2] 55 ?_;intro gb225 hg w10 hbox hb;have n0_:=zm (Kd.R_below (by (with_reducible repeat (first|apply zrA|apply zrN|apply zrD));exact HO0_0.out) hb);have n1_:=zm (Kd.R_below (by (with_reducible repeat (first|apply zrA|apply zrN|apply zrD));exact HO0_1.out) hb);have n2_:=zm (zbB (g:=g_) (o:=.cells #[.slice Ao7 l0_0.length co7,.slice Ao8 l0_1.length co8,.int .i64 a0_2] 25 (0,0)) zx_ hb);have n3_:=zm (Kept.below (S:=(fun k_=>P0_0_ k_∨P0_1_ k_)) (by repeat (first|(with_reducible first|exact HK.out|apply Kept.alloc|apply Kept.drewN|apply Kept.drew|refine Kept.setCell ?_ (.inr GW224.out) _)|exact HK.out)) hb);have n4_:=zkH HB hb;have n5_:=zm (hbox);have n6_:=zm ((by rw [hg];exact (by first|exact HK.out.1|exact (show Kept w _ (fun k_=>P0_0_ k_∨P0_1_ k_) from by repeat (first|(with_reducible first|exact HK.out|apply Kept.alloc|apply Kept.drewN|apply Kept.drew|refine Kept.setCell ?_ (.inr GW224.out) _)|exact HK.out)).1):w.heap.size≤gb225));have n7_:=zm ((by rw [hg];exact (below_size (zb_)):w0.heap.size≤gb225));have n8_:=zm ((by rw [hg];exact Nat.ne_of_lt (blk_lt (g:=g_) (o:=.cells #[.slice Ao7 l0_0.length co7,.slice Ao8 l0_1.length co8,.int .i64 a0_2] 25 (0,0)) zx_):g_≠gb225));have n9_:=zm ((by rw [hg];exact Nat.ne_of_gt (blk_lt (g:=g_) (o:=.cells #[.slice Ao7 l0_0.length co7,.slice Ao8 l0_1.length co8,.int .i64 a0_2] 25 (0,0)) zx_):gb225≠g_));clear HO0_0 HO0_1 BK224 HK HB;have HO0_0:=n0_;have HO0_1:=n1_;have BK224:=n2_;have HK:=n3_;have HB:=n4_;have BK225:=n5_;have GW225:=n6_;have GE225:=n7_;have NB224_225:=n8_;have NB225_224:=n9_;clear n0_ n1_ n2_ n3_ n4_ n5_ n6_ n7_ n8_ n9_;clear hb hbox hg;have hnb11:=NB225_224.out;have hnc11:=NB224_225.out;obtain ⟨hcz12_0,hcz12_1,hcz12_2,hfz12_0,hfz12_1,hfz12_2⟩:=zc3 BK225.out))
    have n0_:=zm (zrD HO0_0.out)
    have n1_:=zm (zrD HO0_1.out)
    have n2_:=zm (zbD BK224.out)
    have n3_:=zm (zbD BK225.out)
    have n4_:=zm (Kept.drew HK.out)
    have n5_:=zm (zlD HB.out)
    clear HO0_0 HO0_1 BK224 BK225 HK HB
    have HO0_0:=n0_
    have HO0_1:=n1_
    have BK224:=n2_
    have BK225:=n3_
    have HK:=n4_
    have HB:=n5_
    clear n0_ n1_ n2_ n3_ n4_ n5_
    have p6:0≤(a1_1:Int):=za_
    have q6:(a1_1:Int) < ((l0_0.length:Int):Int):=za_
    obtain ⟨go6,co6,eo6,gb6,gl6,cl6,HG6⟩:=Kd.R_form HO0_0.out (by omega)
    (first|cases eo6|(injection eo6 with ea_ en_ ec_;(first|subst ea_|(injection ea_ with ea_;subst ea_));subst ec_;clear en_))
    have GB6:=zm gb6
    have GG6:=zm HG6
    have NBG_go6:=zm (show g_≠go6 from fun e_=>by have hx_:=HG6;rw [← e_] at hx_;exact absurd (BK224.out.symm.trans hx_) (by simp))
    clear gb6 gl6 HG6
    have HMgo6:=zm (show ((P0_0_ go6∨P0_1_ go6)∨w.heap.size≤go6) from (HO0_0.out.1 _ rfl))
    obtain ⟨hx6_0,hf6_0⟩:=Kd.R_celln false HO0_0.out (a1_1:Int) p6 q6
    replace p6:=eq_true p6
    replace q6:=eq_true q6
    have HP14:=Kd.R_putn HO0_0.out (a1_1:Int) true
    rw [← Ny226.out] at HP14
    have HQ14:=zm HP14
    clear HP14
    refine start_ (n:=8) (S:=fun w'=>w'.cell? ⟨g_,0,none⟩=some (.slice (some ⟨go6,0,none⟩) l0_0.length co7)∧w'.cell? ⟨g_,1,none⟩=some (.slice Ao8 l0_1.length co8)∧w'.cell? ⟨g_,2,none⟩=some (.int .i64 a0_2)∧w'.cell? ⟨gb225,0,none⟩=some (.int .i64 a1_0)∧w'.cell? ⟨gb225,1,none⟩=some (.int .i64 a1_1)∧w'.cell? ⟨gb225,2,none⟩=some (.int .i64 a1_2)) (ds:=[7]) (Array.replicate 8 false) (by kernel_rfl) rfl rfl ⟨(blk_cell BK224.out 0).trans rfl,(blk_cell BK224.out 1).trans rfl,(blk_cell BK224.out 2).trans rfl,(blk_cell BK225.out 0).trans rfl,(blk_cell BK225.out 1).trans rfl,(blk_cell BK225.out 2).trans rfl⟩ (fun hHeld=>?_);refine with_tabW mapjnl_learn.tab4 mapjnl_learn.bits4 (fun HT_ HW_=>?_)
    generalize w10.drew=w13 at HO0_0 HO0_1 BK224 BK225 HK HB GG6 HQ14 hf6_0 hx6_0 hHeld ⊢
    refine zpu 0 ?_
    refine zpu 1 ?_
    refine zpu 2 ?_
    refine zpu 4 ?_
    refine zta 3 hHeld ?_
    refine zta 5 hHeld ?_
    refine zpu 6 ?_
    refine zla 7 none (fun K hK=>?_)
    refine skip_ (w1:=?_) (by rfl) rfl ?_ ?_
    rotate_left
    ·go_simp
     rfl
    refine hK.out _ _ ?_
    clear hK K
    refine zdo ?_
    try go_wp2
    first|go_end0|((try simp only [Exit.inBlock,Exit.then]);refine bodyPost_ret (results_none rfl _ _ _) rfl ?_)
    exact ⟨.slice (some ⟨go6,0,none⟩) l0_0.length co7,.slice Ao8 l0_1.length co8,_,rfl,(Sem.setCell_three (t:=25) (by (with_reducible repeat (first|refine zbN ?_ _|refine zbD ?_|refine zbA ?_ _));refine blk_far ?_ (NBG_go6.out) _;exact BK224.out)).symm,by (with_reducible repeat (first|apply zrA|apply zrN|apply zrD));exact HQ14.out,by (with_reducible repeat (first|apply zrA|apply zrN|apply zrD));exact Kd.R_mono (Kd.R_far (p:=⟨go6,(a1_1:Int).toNat,none⟩) (Kd.R_types HO0_1.out GG6.out (by decide)) (fun _ hk=>hk.2) (.bool true)) (fun _ hk=>hk.1),by repeat (first|(with_reducible first|exact HB.out|apply zlA|apply zlN|apply zlD|refine zlS ?_ GB6.out|refine zlS ?_ GE224.out|refine zlS ?_ GE225.out)|exact HB.out),by repeat (first|(with_reducible first|exact HK.out|apply Kept.alloc|apply Kept.drewN|apply Kept.drew|refine Kept.setCell ?_ HMgo6.out _|refine Kept.setCell ?_ (.inr GW224.out) _|refine Kept.setCell ?_ (.inr GW225.out) _)|exact HK.out)⟩
   ·rw [if_neg c5] at H
    exact absurd H (by simp)
  ·rw [if_neg c4] at H
   exact absurd H (by simp)
 ·rw [if_neg c3] at H
  have c3b0:(a1_0 == 1)=false:=beq_eq_false_iff_ne.mpr c3
  have c3b1:(a1_0 != 1)=true:=bne_iff_ne.mpr c3
  by_cases c15:a1_0=2
  ·rw [if_pos c15] at H
   have c15b0:(a1_0 == 2)=true:=beq_iff_eq.mpr c15
   have c15b1:(a1_0 != 2)=false:=bne_eq_false_iff_eq.mpr c15
   clear c15
   by_cases c16:0≤a1_1
   ·rw [if_pos c16] at H
    have c16b0:decide (0≤a1_1)=true:=decide_eq_true c16
    clear c16
    by_cases c17:a1_1 < (l0_1.length:Int)
    ·rw [if_pos c17] at H
     have c17b0:decide (a1_1 < (l0_1.length:Int))=true:=decide_eq_true c17
     clear c17
     obtain ⟨ji18,hji18⟩:∃ j_:Int,(mx (rd l0_1 a1_1) a1_2)=j_:=⟨_,rfl⟩
     replace H:(some (l0_0,(l0_1.set (a1_1:Int).toNat (ji18)),a0_2))=some (r1,r2,r3):=by first|(rw [hji18] at H;exact H)|(simp only [hji18] at H ⊢;exact H)
     have hji18_:(if (rd l0_1 a1_1) < a1_2 then a1_2 else (rd l0_1 a1_1))=ji18:=hji18
     obtain ⟨y228,hy228⟩:∃ y_:List Int,y_=(l0_1.set (a1_1:Int).toNat (ji18)):=⟨_,rfl⟩
     replace H:(some (l0_0,y228,a0_2))=some (r1,r2,r3):=by first|(rw [hy228];with_reducible exact H)|(have H2_:=(Option.bind_some _ _).symm.trans H;rw [hy228];with_reducible exact H2_)|(have H2_:=(Option.bind_some _ _).symm.trans H;with_reducible exact H2_)|with_reducible exact H|(rw [hy228];exact H)|exact H
     have Ny228:=zm hy228
     clear hy228
     simp only [Option.some.injEq,Prod.mk.injEq] at H
     obtain ⟨rfl,rfl,rfl⟩:=H
     obtain ⟨Ao20,co20,eo20⟩:=Kd.R_slice HO0_0.out
     subst eo20
     obtain ⟨Ao21,co21,eo21⟩:=Kd.R_slice HO0_1.out
     subst eo21
     have BK224:=zm hbox
     clear hbox
     go_enter Try.func62,Try.ntmps62
     try go_wp2_with (first|((with_reducible refine gate_dst (N:=3) rfl ?_);refine zbx 3 #[.int .i64 a1_0,.int .i64 a1_1,.int .i64 a1_2] 55 ?_;intro gb225 hg w23 hbox hb;have n0_:=zm (Kd.R_below (by (with_reducible repeat (first|apply zrA|apply zrN|apply zrD));exact HO0_0.out) hb);have n1_:=zm (Kd.R_below (by (with_reducible repeat (first|apply zrA|apply zrN|apply zrD));exact HO0_1.out) hb);have n2_:=zm (zbB (g:=g_) (o:=.cells #[.slice Ao20 l0_0.length co20,.slice Ao21 l0_1.length co21,.int .i64 a0_2] 25 (0,0)) zx_ hb);have n3_:=zm (Kept.below (S:=(fun k_=>P0_0_ k_∨P0_1_ k_)) (by repeat (first|(with_reducible first|exact HK.out|apply Kept.alloc|apply Kept.drewN|apply Kept.drew|refine Kept.setCell ?_ (.inr GW224.out) _)|exact HK.out)) hb);have n4_:=zkH HB hb;have n5_:=zm (hbox);have n6_:=zm ((by rw [hg];exact (by first|exact HK.out.1|exact (show Kept w _ (fun k_=>P0_0_ k_∨P0_1_ k_) from by repeat (first|(with_reducible first|exact HK.out|apply Kept.alloc|apply Kept.drewN|apply Kept.drew|refine Kept.setCell ?_ (.inr GW224.out) _)|exact HK.out)).1):w.heap.size≤gb225));have n7_:=zm ((by rw [hg];exact (below_size (zb_)):w0.heap.size≤gb225));have n8_:=zm ((by rw [hg];exact Nat.ne_of_lt (blk_lt (g:=g_) (o:=.cells #[.slice Ao20 l0_0.length co20,.slice Ao21 l0_1.length co21,.int .i64 a0_2] 25 (0,0)) zx_):g_≠gb225));have n9_:=zm ((by rw [hg];exact Nat.ne_of_gt (blk_lt (g:=g_) (o:=.cells #[.slice Ao20 l0_0.length co20,.slice Ao21 l0_1.length co21,.int .i64 a0_2] 25 (0,0)) zx_):gb225≠g_));clear HO0_0 HO0_1 BK224 HK HB;have HO0_0:=n0_;have HO0_1:=n1_;have BK224:=n2_;have HK:=n3_;have HB:=n4_;have BK225:=n5_;have GW225:=n6_;have GE225:=n7_;have NB224_225:=n8_;have NB225_224:=n9_;clear n0_ n1_ n2_ n3_ n4_ n5_ n6_ n7_ n8_ n9_;clear hb hbox hg;have hnb24:=NB225_224.out;have hnc24:=NB224_225.out;obtain ⟨hcz25_0,hcz25_1,hcz25_2,hfz25_0,hfz25_1,hfz25_2⟩:=zc3 BK225.out))
     have n0_:=zm (zrD HO0_0.out)
     have n1_:=zm (zrD HO0_1.out)
     have n2_:=zm (zbD BK224.out)
     have n3_:=zm (zbD BK225.out)
     have n4_:=zm (Kept.drew HK.out)
     have n5_:=zm (zlD HB.out)
     clear HO0_0 HO0_1 BK224 BK225 HK HB
     have HO0_0:=n0_
     have HO0_1:=n1_
     have BK224:=n2_
     have BK225:=n3_
     have HK:=n4_
     have HB:=n5_
     clear n0_ n1_ n2_ n3_ n4_ n5_
     have p227:0≤(a1_1:Int):=za_
     have q227:a1_1 < (l0_1.length:Int):=za_
     obtain ⟨ad227,e227,hx227_0⟩:=Kd.at_int (Kd.R_reads' HO0_1.out).2.2 a1_1 p227 q227
     cases e227
     replace p227:=eq_true p227
     replace q227:=eq_true q227
     have p19:0≤(a1_1:Int):=za_
     have q19:(a1_1:Int) < ((l0_1.length:Int):Int):=za_
     obtain ⟨go19,co19,eo19,gb19,gl19,cl19,HG19⟩:=Kd.R_form HO0_1.out (by omega)
     (first|cases eo19|(injection eo19 with ea_ en_ ec_;(first|subst ea_|(injection ea_ with ea_;subst ea_));subst ec_;clear en_))
     have GB19:=zm gb19
     have GG19:=zm HG19
     have NBG_go19:=zm (show g_≠go19 from fun e_=>by have hx_:=HG19;rw [← e_] at hx_;exact absurd (BK224.out.symm.trans hx_) (by simp))
     clear gb19 gl19 HG19
     have HMgo19:=zm (show ((P0_0_ go19∨P0_1_ go19)∨w.heap.size≤go19) from (HO0_1.out.1 _ rfl))
     (first|simp only [add_plain] at hx227_0|skip)
     obtain ⟨hx19_0,hf19_0⟩:=Kd.R_celln 0 HO0_1.out (a1_1:Int) p19 q19
     replace p19:=eq_true p19
     replace q19:=eq_true q19
     have HP27:=Kd.R_putn HO0_1.out (a1_1:Int) ji18
     rw [← Ny228.out] at HP27
     have HQ27:=zm HP27
     clear HP27
     refine start_ (n:=19) (S:=fun w'=>w'.cell? ⟨g_,0,none⟩=some (.slice Ao20 l0_0.length co20)∧w'.cell? ⟨g_,1,none⟩=some (.slice (some ⟨go19,0,none⟩) l0_1.length co21)∧w'.cell? ⟨g_,2,none⟩=some (.int .i64 a0_2)∧w'.cell? ⟨gb225,0,none⟩=some (.int .i64 a1_0)∧w'.cell? ⟨gb225,1,none⟩=some (.int .i64 a1_1)∧w'.cell? ⟨gb225,2,none⟩=some (.int .i64 a1_2)∧w'.cell? ⟨go19,(a1_1).toNat,none⟩=some (.int .i64 (rd l0_1 a1_1))) (ds:=[18]) (Array.replicate 19 false) (by kernel_rfl) rfl rfl ⟨(blk_cell BK224.out 0).trans rfl,(blk_cell BK224.out 1).trans rfl,(blk_cell BK224.out 2).trans rfl,(blk_cell BK225.out 0).trans rfl,(blk_cell BK225.out 1).trans rfl,(blk_cell BK225.out 2).trans rfl,hx227_0⟩ (fun hHeld=>?_);refine with_tabW mapjnl_learn.tab6 mapjnl_learn.bits6 (fun HT_ HW_=>?_)
     generalize w23.drew=w26 at HO0_0 HO0_1 BK224 BK225 HK HB GG19 HQ27 hf19_0 hx19_0 hx227_0 hHeld ⊢
     refine zpu 0 ?_
     refine zpu 1 ?_
     refine zpu 2 ?_
     refine zpu 4 ?_
     refine zpu 6 ?_
     refine zpu 7 ?_
     refine zpu 8 ?_
     refine zpu 10 ?_
     refine zpu 14 ?_
     refine zta 3 hHeld ?_
     refine zta 5 hHeld ?_
     refine zta 9 hHeld ?_
     refine zta 11 hHeld ?_
     refine zpu 12 ?_
     refine zta 13 hHeld ?_
     refine zta 15 hHeld ?_
     refine zpu 16 ?_
     refine zpu 17 ?_
     refine zla 18 none (fun K hK=>?_)
     refine skip_ (w1:=?_) (by rfl) rfl ?_ ?_
     rotate_left
     ·go_simp
      rfl
     refine hK.out _ _ ?_
     clear hK K
     refine zdo ?_
     try go_wp2
     first|go_end0|((try simp only [Exit.inBlock,Exit.then]);refine bodyPost_ret (results_none rfl _ _ _) rfl ?_)
     exact ⟨.slice Ao20 l0_0.length co20,.slice (some ⟨go19,0,none⟩) l0_1.length co21,_,rfl,(Sem.setCell_three (t:=25) (by (with_reducible repeat (first|refine zbN ?_ _|refine zbD ?_|refine zbA ?_ _));refine blk_far ?_ (NBG_go19.out) _;exact BK224.out)).symm,by (with_reducible repeat (first|apply zrA|apply zrN|apply zrD));exact Kd.R_mono (Kd.R_far (p:=⟨go19,(a1_1:Int).toNat,none⟩) (Kd.R_types HO0_0.out GG19.out (by decide)) (fun _ hk=>hk.2) (.int .i64 ji18)) (fun _ hk=>hk.1),by (with_reducible repeat (first|apply zrA|apply zrN|apply zrD));exact HQ27.out,by repeat (first|(with_reducible first|exact HB.out|apply zlA|apply zlN|apply zlD|refine zlS ?_ GB19.out|refine zlS ?_ GE224.out|refine zlS ?_ GE225.out)|exact HB.out),by repeat (first|(with_reducible first|exact HK.out|apply Kept.alloc|apply Kept.drewN|apply Kept.drew|refine Kept.setCell ?_ HMgo19.out _|refine Kept.setCell ?_ (.inr GW224.out) _|refine Kept.setCell ?_ (.inr GW225.out) _)|exact HK.out)⟩
    ·rw [if_neg c17] at H
     exact absurd H (by simp)
   ·rw [if_neg c16] at H
    exact absurd H (by simp)
  ·rw [if_neg c15] at H
   have c15b0:(a1_0 == 2)=false:=beq_eq_false_iff_ne.mpr c15
   have c15b1:(a1_0 != 2)=true:=bne_iff_ne.mpr c15
   obtain ⟨ji28,hji28⟩:∃ j_:Int,(mx a0_2 a1_2)=j_:=⟨_,rfl⟩
   replace H:(some (l0_0,l0_1,ji28))=some (r1,r2,r3):=by first|(rw [hji28] at H;exact H)|(simp only [hji28] at H ⊢;exact H)
   have hji28_:(if a0_2 < a1_2 then a1_2 else a0_2)=ji28:=hji28
   simp only [Option.some.injEq,Prod.mk.injEq] at H
   obtain ⟨rfl,rfl,rfl⟩:=H
   obtain ⟨Ao29,co29,eo29⟩:=Kd.R_slice HO0_0.out
   subst eo29
   obtain ⟨Ao30,co30,eo30⟩:=Kd.R_slice HO0_1.out
   subst eo30
   have BK224:=zm hbox
   clear hbox
   go_enter Try.func62,Try.ntmps62
   try go_wp2_with (first|((with_reducible refine gate_dst (N:=3) rfl ?_);refine zbx 3 #[.int .i64 a1_0,.int .i64 a1_1,.int .i64 a1_2] 55 ?_;intro gb225 hg w32 hbox hb;have n0_:=zm (Kd.R_below (by (with_reducible repeat (first|apply zrA|apply zrN|apply zrD));exact HO0_0.out) hb);have n1_:=zm (Kd.R_below (by (with_reducible repeat (first|apply zrA|apply zrN|apply zrD));exact HO0_1.out) hb);have n2_:=zm (zbB (g:=g_) (o:=.cells #[.slice Ao29 l0_0.length co29,.slice Ao30 l0_1.length co30,.int .i64 a0_2] 25 (0,0)) zx_ hb);have n3_:=zm (Kept.below (S:=(fun k_=>P0_0_ k_∨P0_1_ k_)) (by repeat (first|(with_reducible first|exact HK.out|apply Kept.alloc|apply Kept.drewN|apply Kept.drew|refine Kept.setCell ?_ (.inr GW224.out) _)|exact HK.out)) hb);have n4_:=zkH HB hb;have n5_:=zm (hbox);have n6_:=zm ((by rw [hg];exact (by first|exact HK.out.1|exact (show Kept w _ (fun k_=>P0_0_ k_∨P0_1_ k_) from by repeat (first|(with_reducible first|exact HK.out|apply Kept.alloc|apply Kept.drewN|apply Kept.drew|refine Kept.setCell ?_ (.inr GW224.out) _)|exact HK.out)).1):w.heap.size≤gb225));have n7_:=zm ((by rw [hg];exact (below_size (zb_)):w0.heap.size≤gb225));have n8_:=zm ((by rw [hg];exact Nat.ne_of_lt (blk_lt (g:=g_) (o:=.cells #[.slice Ao29 l0_0.length co29,.slice Ao30 l0_1.length co30,.int .i64 a0_2] 25 (0,0)) zx_):g_≠gb225));have n9_:=zm ((by rw [hg];exact Nat.ne_of_gt (blk_lt (g:=g_) (o:=.cells #[.slice Ao29 l0_0.length co29,.slice Ao30 l0_1.length co30,.int .i64 a0_2] 25 (0,0)) zx_):gb225≠g_));clear HO0_0 HO0_1 BK224 HK HB;have HO0_0:=n0_;have HO0_1:=n1_;have BK224:=n2_;have HK:=n3_;have HB:=n4_;have BK225:=n5_;have GW225:=n6_;have GE225:=n7_;have NB224_225:=n8_;have NB225_224:=n9_;clear n0_ n1_ n2_ n3_ n4_ n5_ n6_ n7_ n8_ n9_;clear hb hbox hg;have hnb33:=NB225_224.out;have hnc33:=NB224_225.out;obtain ⟨hcz34_0,hcz34_1,hcz34_2,hfz34_0,hfz34_1,hfz34_2⟩:=zc3 BK225.out))
   have n0_:=zm (zrD HO0_0.out)
   have n1_:=zm (zrD HO0_1.out)
   have n2_:=zm (zbD BK224.out)
   have n3_:=zm (zbD BK225.out)
   have n4_:=zm (Kept.drew HK.out)
   have n5_:=zm (zlD HB.out)
   clear HO0_0 HO0_1 BK224 BK225 HK HB
   have HO0_0:=n0_
   have HO0_1:=n1_
   have BK224:=n2_
   have BK225:=n3_
   have HK:=n4_
   have HB:=n5_
   clear n0_ n1_ n2_ n3_ n4_ n5_
   refine start_ (n:=11) (S:=fun w'=>w'.cell? ⟨g_,0,none⟩=some (.slice Ao29 l0_0.length co29)∧w'.cell? ⟨g_,1,none⟩=some (.slice Ao30 l0_1.length co30)∧w'.cell? ⟨g_,2,none⟩=some (.int .i64 a0_2)∧w'.cell? ⟨gb225,0,none⟩=some (.int .i64 a1_0)∧w'.cell? ⟨gb225,1,none⟩=some (.int .i64 a1_1)∧w'.cell? ⟨gb225,2,none⟩=some (.int .i64 a1_2)) (ds:=[10]) (Array.replicate 11 false) (by kernel_rfl) rfl rfl ⟨(blk_cell BK224.out 0).trans rfl,(blk_cell BK224.out 1).trans rfl,(blk_cell BK224.out 2).trans rfl,(blk_cell BK225.out 0).trans rfl,(blk_cell BK225.out 1).trans rfl,(blk_cell BK225.out 2).trans rfl⟩ (fun hHeld=>?_);refine with_tabW mapjnl_learn.tab2 mapjnl_learn.bits2 (fun HT_ HW_=>?_)
   generalize w32.drew=w35 at HO0_0 HO0_1 BK224 BK225 HK HB hHeld ⊢
   refine zpu 0 ?_
   refine zpu 1 ?_
   refine zpu 2 ?_
   refine zpu 3 ?_
   refine zpu 5 ?_
   refine zta 4 hHeld ?_
   refine zta 6 hHeld ?_
   refine zpu 7 ?_
   refine zpu 8 ?_
   refine zpu 9 ?_
   refine zla 10 none (fun K hK=>?_)
   have hs36:w35.cell? ⟨g_,2,none⟩=some (.int .i64 a0_2):=(blk_cell BK224.out 2).trans rfl
   have hfs36:=blk_frozen BK224.out 2
   have hns36_1:=NB225_224.out
   have hms36_1:=NB224_225.out
   refine skip_ (w1:=?_) (by rfl) rfl ?_ ?_
   rotate_left
   ·go_simp
    rfl
   refine hK.out _ _ ?_
   clear hK K
   refine zdo ?_
   try go_wp2
   first|go_end0|((try simp only [Exit.inBlock,Exit.then]);refine bodyPost_ret (results_none rfl _ _ _) rfl ?_)
   exact ⟨.slice Ao29 l0_0.length co29,.slice Ao30 l0_1.length co30,_,rfl,(Sem.setCell_two (t:=25) zx_).symm,by (with_reducible repeat (first|apply zrA|apply zrN|apply zrD));exact Kd.R_mono HO0_0.out (fun _ hk=>hk),by (with_reducible repeat (first|apply zrA|apply zrN|apply zrD));exact Kd.R_mono HO0_1.out (fun _ hk=>hk),zb_,by repeat (first|(with_reducible first|exact HK.out|apply Kept.alloc|apply Kept.drewN|apply Kept.drew|refine Kept.setCell ?_ (.inr GW224.out) _|refine Kept.setCell ?_ (.inr GW225.out) _)|exact HK.out)⟩
end Go.Proofs.Ytkhbmgclklmimaa.Print
end
section
namespace Go.Proofs.Ytkhbmgclklmimaa.Print
open Go.RowKit Go.Proofs.YtkhbmgclklmimaaW.PrintWords Go.Proofs.YtkhbmgclklmimaaW.PrintLast Go.Proofs.YtkhbmgclklmimaaW.PrintMore
attribute [local go_sem] max2_int min2_int max_two min_two max_three min_three max_four min_four   -- for this text's walks alone
attribute [local go_sem ↓] Go.Proofs.Ytkhbmgclklmimaa.Sem.isSome_setCell
attribute [local go_sem] Go.Instr.field Go.asAgg
set_option linter.unusedVariables false
set_option linter.unusedSimpArgs false
def mapjnl_Apply.l0:Nat → List (S55) → Int → Int → List Bool → List Int → Int → List Bool → List Int → Int → Option (List Bool × List Int × Int × Int)
 | 0,_,_,_,_,_,_,_,_,_=>none
 | k + 1,x18,x19,x20,x231000,x231001,x231002,x241000,x241001,x241002=>if x20 < x19 then (if 0≤x20 then (if x20 < (x18.length:Int) then ((mapjnl_record.f k ((rd_T55 x18 x20).f0) ((rd_T55 x18 x20).f1) ((rd_T55 x18 x20).f2)).bind fun t243=>(if t243=true then (if ((rd_T55 x18 x20).f1) ≥ (x231000.length:Int) then (some (([]:List Bool),([]:List Int),0,61)) else ((mapjnl_learn.f x241000 x241001 x241002 ((rd_T55 x18 x20).f0) ((rd_T55 x18 x20).f1) ((rd_T55 x18 x20).f2)).bind fun bt244=>(mapjnl_Apply.l0 k x18 x19 (wrap64 (x20 + 1)) x231000 x231001 x231002 bt244.1 bt244.2.1 bt244.2.2))) else (some (([]:List Bool),([]:List Int),0,61)))) else (none)) else (none)) else (some (x241000,x241001,x241002,0))
def mapjnl_Apply.f (k:Nat) (l0_0:List Bool) (l0_1:List Int) (a0_2:Int) (l1:List (S55)):Option (List Bool × List Int × Int × Int):=(mapjnl_Check.f k l0_0 l0_1 a0_2).bind fun t232=>(if t232=0 then ((mapjnl_clone.f l0_0 l0_1 a0_2).bind fun bt233=>(mapjnl_Apply.l0 k l1 (l1.length:Int) 0 l0_0 l0_1 a0_2 bt233.1 bt233.2.1 bt233.2.2)) else (some (([]:List Bool),([]:List Int),0,t232)))
theorem mapjnl_Apply.mono_l:∀ k,(∀ y0 y1 y2 y3 y4 y5 y6 y7 y8,LeO (mapjnl_Apply.l0 k y0 y1 y2 y3 y4 y5 y6 y7 y8) (mapjnl_Apply.l0 (k + 1) y0 y1 y2 y3 y4 y5 y6 y7 y8))
 | 0=>fun _ _ _ _ _ _ _ _ _ r h=>by simp [mapjnl_Apply.l0] at h
 | k + 1=>by
  have ih0:=mapjnl_Apply.mono_l k
  ·intro y0 y1 y2 y3 y4 y5 y6 y7 y8
   unfold mapjnl_Apply.l0
   repeat' first
   | (with_reducible exact ih0 _ _ _ _ _ _ _ _ _)
   | (with_reducible exact mapjnl_Check.mono _ _ _ _)
   | (with_reducible exact mapjnl_record.mono _ _ _ _)
   | (with_reducible exact LeO.refl _)
   | (with_reducible exact LeO.none _)
   | (with_reducible refine LeO.ite ?_ ?_)
   | (with_reducible refine LeO.bind ?_ (fun _=>?_))
   | exact ih0 _ _ _ _ _ _ _ _ _
   | exact mapjnl_Check.mono _ _ _ _
   | exact mapjnl_record.mono _ _ _ _
   | exact LeO.none _
   | refine LeO.ite ?_ ?_
   | refine LeO.bind ?_ (fun _=>?_)
theorem mapjnl_Apply.mono:∀ a0 a1 a2 a3 k,LeO (mapjnl_Apply.f k a0 a1 a2 a3) (mapjnl_Apply.f (k + 1) a0 a1 a2 a3):=by
 intro a0 a1 a2 a3 k
 have ih0:=mapjnl_Apply.mono_l k
 unfold mapjnl_Apply.f
 repeat' first
   | (with_reducible exact ih0 _ _ _ _ _ _ _ _ _)
   | (with_reducible exact mapjnl_Check.mono _ _ _ _)
   | (with_reducible exact mapjnl_record.mono _ _ _ _)
   | (with_reducible exact LeO.refl _)
   | (with_reducible exact LeO.none _)
   | (with_reducible refine LeO.ite ?_ ?_)
   | (with_reducible refine LeO.bind ?_ (fun _=>?_))
   | exact ih0 _ _ _ _ _ _ _ _ _
   | exact mapjnl_Check.mono _ _ _ _
   | exact mapjnl_record.mono _ _ _ _
   | exact LeO.none _
   | refine LeO.ite ?_ ?_
   | refine LeO.bind ?_ (fun _=>?_)
set_option maxHeartbeats 8000000 in
set_option maxRecDepth 100000 in
theorem mapjnl_Apply.calls (k:Nat) (A0_0:Option Addr) (c0_0:Nat) (l0_0:List Bool) (A0_1:Option Addr) (c0_1:Nat) (l0_1:List Int) (a0_2:Int) (A1:Option Addr) (c1:Nat) (l1:List (S55)) (r1:List Bool) (r2:List Int) (r3:Int) (r4:Int) (w:World) (hr0_0:Kd.C Kd.bool w A0_0 l0_0.length l0_0) (hc0_0:l0_0.length≤c0_0) (hr0_1:Kd.C (Kd.int .i64) w A0_1 l0_1.length l0_1) (hc0_1:l0_1.length≤c0_1) (hr1:Kd.C k55 w A1 l1.length l1) (hc1:l1.length≤c1) (h:mapjnl_Apply.f k l0_0 l0_1 a0_2 l1=some (r1,r2,r3,r4)) :
  Calls Try.prog 22 #[.agg #[.slice A0_0 l0_0.length c0_0,.slice A0_1 l0_1.length c0_1,.int .i64 a0_2],.slice A1 l1.length c1] w fun e w'=>∃ v0_ v1_:Value,e=.returned (.tuple #[.agg #[v0_,v1_,.int .i64 r3],.int .i64 r4])∧Kd.R Kd.bool 4 w' w.heap.size (fun _=>True) v0_ r1∧Kd.R (Kd.int .i64) 2 w' w.heap.size (fun _=>True) v1_ r2∧Below w.heap.size w w':=by
 have hu25:=Try.underlying25
 have hu55:=Try.underlying55
 have HR0_0:=zm hr0_0
 have HC0_0:=zm hc0_0
 clear hr0_0 hc0_0
 have HR0_1:=zm hr0_1
 have HC0_1:=zm hc0_1
 clear hr0_1 hc0_1
 have HR1:=zm hr1
 have HC1:=zm hc1
 clear hr1 hc1
 have HB:=zm (Below.refl w.heap.size w)
 have H:((mapjnl_Check.f k l0_0 l0_1 a0_2).bind fun t232=>(if t232=0 then ((mapjnl_clone.f l0_0 l0_1 a0_2).bind fun bt233=>(mapjnl_Apply.l0 k l1 (l1.length:Int) 0 l0_0 l0_1 a0_2 bt233.1 bt233.2.1 bt233.2.2)) else (some (([]:List Bool),([]:List Int),0,t232))))=some (r1,r2,r3,r4):=h
 clear h
 replace H:=Option.bind_eq_some_iff.mp H
 obtain ⟨t232,A30,H⟩:=H
 replace H:(if t232=0 then ((mapjnl_clone.f l0_0 l0_1 a0_2).bind fun bt233=>(mapjnl_Apply.l0 k l1 (l1.length:Int) 0 l0_0 l0_1 a0_2 bt233.1 bt233.2.1 bt233.2.2)) else (some (([]:List Bool),([]:List Int),0,t232)))=some (r1,r2,r3,r4):=H
 have A3:=zm A30
 clear A30
 by_cases c4:t232=0
 ·rw [if_pos c4] at H
  have c4b0:(t232 == 0)=true:=beq_iff_eq.mpr c4
  have c4b1:(t232 != 0)=false:=bne_eq_false_iff_eq.mpr c4
  clear c4
  replace H:=Option.bind_eq_some_iff.mp H
  obtain ⟨⟨t233,t236,t239⟩,A50,H⟩:=H
  replace H:(mapjnl_Apply.l0 k l1 (l1.length:Int) 0 l0_0 l0_1 a0_2 t233 t236 t239)=some (r1,r2,r3,r4):=H
  have A5:=zm A50
  clear A50
  have H':=zm H
  clear H
  go_enter Try.func22,Try.ntmps22
  go_wp2_with (first|((with_reducible refine gate_dst (N:=2) rfl ?_);(try (refine gate_guard (by rfl) ?_;dsimp only));refine zbx 2 #[.slice A0_0 l0_0.length c0_0,.slice A0_1 l0_1.length c0_1,.int .i64 a0_2] 25 ?_;intro gb230 hg w6 hbox hb;have n0_:=zkH HB hb;have n1_:=zm (hbox);have n2_:=zkG HB hg;have n3_:=zkG HB hg;clear HB;have HB:=n0_;have BK230:=n1_;have GW230:=n2_;have GE230:=n3_;clear n0_ n1_ n2_ n3_;clear hb hbox hg)|((with_reducible refine gate_dst (N:=4) rfl ?_);(try (refine gate_guard (by rfl) ?_;dsimp only));refine zbx 4 #[.slice none 0 0,.slice none 0 0,.int .i64 0] 25 ?_;intro gb231 hg w7 hbox hb;have n0_:=zkB BK230 hb;have n1_:=zkH HB hb;have n2_:=zm (hbox);have n3_:=zkG HB hg;have n4_:=zkG HB hg;have n5_:=zkN BK230 hg;have n6_:=zkM BK230 hg;clear BK230 HB;have BK230:=n0_;have HB:=n1_;have BK231:=n2_;have GW231:=n3_;have GE231:=n4_;have NB230_231:=n5_;have NB231_230:=n6_;clear n0_ n1_ n2_ n3_ n4_ n5_ n6_;clear hb hbox hg;have hnb8:=NB230_231.out;have hnc8:=NB231_230.out;obtain ⟨hcz9_0,hcz9_1,hcz9_2,hfz9_0,hfz9_1,hfz9_2⟩:=zc3 BK230.out)|((with_reducible refine gate_callee (f:=17) rfl ?_);refine goesL_ (some 11) rfl rfl Try.func17 (by kernel_rfl) rfl #[.agg #[.slice A0_0 l0_0.length c0_0,.slice A0_1 l0_1.length c0_1,.int .i64 a0_2]] rfl (by (try simp only [List.map_toArray,List.map_cons,List.map_nil]);first|done|rfl|(simp only [List.length_drop,List.length_take];rfl)) ?_;(with_reducible refine (mapjnl_Check.calls k _ _ l0_0 _ _ l0_1 a0_2 t232 _ ?side1 ?side2 ?side3 ?side4 A3.out).mono ?_);(case side1=>exact zC HR0_0);(case side2=>exact HC0_0.out);(case side3=>exact zC HR0_1);(case side4=>exact HC0_1.out);rintro e w10 ⟨rfl,hb⟩;refine ⟨_,rfl,?_⟩;have n0_:=zkB BK230 hb;have n1_:=zkB BK231 hb;have n2_:=zkH HB hb;clear BK230 BK231 HB;have BK230:=n0_;have BK231:=n1_;have HB:=n2_;clear n0_ n1_ n2_;(try clear hb);(try clear hb2);(try clear hk);(try clear hi);obtain ⟨hcz11_0,hcz11_1,hcz11_2,hfz11_0,hfz11_1,hfz11_2⟩:=zc3 BK230.out)|((with_reducible refine gate_callee (f:=51) rfl ?_);refine goesL_ (some 17) rfl rfl Try.func51 (by kernel_rfl) rfl #[.agg #[.slice A0_0 l0_0.length c0_0,.slice A0_1 l0_1.length c0_1,.int .i64 a0_2]] rfl (by (try simp only [List.map_toArray,List.map_cons,List.map_nil]);first|done|rfl|(simp only [List.length_drop,List.length_take];rfl)) ?_;(with_reducible refine (mapjnl_clone.calls _ _ l0_0 _ _ l0_1 a0_2 t233 t236 t239 _ ?side1 ?side2 ?side3 ?side4 A5.out).mono ?_);(case side1=>exact zC HR0_0);(case side2=>exact HC0_0.out);(case side3=>exact zC HR0_1);(case side4=>exact HC0_1.out);rintro e w12 ⟨v234,v237,rfl,ho0,ho1,hb⟩;refine ⟨_,rfl,?_⟩;have n0_:=zm (Kd.R_lower ho0 (below_size (zb_)));have n1_:=zm (Kd.R_lower ho1 (below_size (zb_)));have n2_:=zkB BK230 hb;have n3_:=zkB BK231 hb;have n4_:=zkH HB hb;clear BK230 BK231 HB;have HO235:=n0_;have HO238:=n1_;have BK230:=n2_;have BK231:=n3_;have HB:=n4_;clear n0_ n1_ n2_ n3_ n4_;(try clear hb);(try clear hb2);(try clear hk);(try clear hi);(try clear ho0);(try clear ho1))|((with_reducible refine gate_dst (N:=7) rfl ?_);(try (refine gate_guard (by rfl) ?_;dsimp only));refine zbx 7 #[.slice none 0 0,.slice none 0 0,.int .i64 0] 25 ?_;intro gb240 hg w13 hbox hb;have n0_:=zm (Kd.R_below (by (with_reducible repeat (first|apply zrA|apply zrN|apply zrD));exact HO235.out) hb);have n1_:=zm (Kd.R_below (by (with_reducible repeat (first|apply zrA|apply zrN|apply zrD));exact HO238.out) hb);have n2_:=zkB BK230 hb;have n3_:=zkB BK231 hb;have n4_:=zkH HB hb;have n5_:=zm (hbox);have n6_:=zkG HB hg;have n7_:=zkG HB hg;have n8_:=zkN BK230 hg;have n9_:=zkM BK230 hg;have n10_:=zkN BK231 hg;have n11_:=zkM BK231 hg;clear HO235 HO238 BK230 BK231 HB;have HO235:=n0_;have HO238:=n1_;have BK230:=n2_;have BK231:=n3_;have HB:=n4_;have BK240:=n5_;have GW240:=n6_;have GE240:=n7_;have NB230_240:=n8_;have NB240_230:=n9_;have NB231_240:=n10_;have NB240_231:=n11_;clear n0_ n1_ n2_ n3_ n4_ n5_ n6_ n7_ n8_ n9_ n10_ n11_;clear hb hbox hg;obtain ⟨Ao14,co14,eo14⟩:=Kd.R_slice HO235.out;subst eo14;have hnb15:=NB240_230.out;have hnc15:=NB230_240.out;have hnb16:=NB240_231.out;have hnc16:=NB231_240.out;obtain ⟨hcz17_0,hcz17_1,hcz17_2,hfz17_0,hfz17_1,hfz17_2⟩:=zc3 BK240.out;obtain ⟨Ao18,co18,eo18⟩:=Kd.R_slice HO238.out;subst eo18))
  go_loopg [20] k (fun kq v20 w'=>∃ (x20_1:Int) (x232002_1:Int) (x241000_1:List Bool) (x241001_1:List Int) (x241002_1:Int) (u241000:Value) (u241001:Value),v20=.int .i64 x20_1∧Aside0 (mapjnl_Apply.l0 kq l1 (l1.length:Int) x20_1 l0_0 l0_1 a0_2 x241000_1 x241001_1 x241002_1=some (r1,r2,r3,r4))∧Aside0 (kq≤k)∧Aside0 (Kd.R Kd.bool 4 w' w.heap.size (fun _=>True) u241000 x241000_1)∧Aside0 (Kd.R (Kd.int .i64) 2 w' w.heap.size (fun _=>True) u241001 x241001_1)∧Aside0 (w'.heap[gb230]?=some (.cells #[(.slice A0_0 l0_0.length c0_0),(.slice A0_1 l0_1.length c0_1),.int .i64 a0_2] 25 (0,0)))∧Aside0 (w'.heap[gb231]?=some (.cells #[(.slice none 0 0),(.slice none 0 0),.int .i64 x232002_1] 25 (0,0)))∧Aside0 (w'.heap[gb240]?=some (.cells #[u241000,u241001,.int .i64 x241002_1] 25 (0,0)))∧Aside0 (Below w.heap.size w w'))
  case atStart=>exact ⟨(0),(0),(t233),(t236),(t239),(.slice Ao14 t233.length co14),(.slice Ao18 t236.length co18),zs_,H',⟨Nat.le_refl _⟩,⟨by (with_reducible repeat (first|apply zrA|apply zrN|apply zrD));exact Kd.R_mono (Kd.R_far (p:=⟨gb240,2,none⟩) (Kd.R_far (p:=⟨gb240,1,none⟩) (Kd.R_far (p:=⟨gb240,0,none⟩) (Kd.R_types HO235.out BK240.out (by decide)) (fun _ hk=>hk.2) (.slice Ao14 t233.length co14)) (fun _ hk=>hk.2) (.slice Ao18 t236.length co18)) (fun _ hk=>hk.2) (.int .i64 t239)) (fun _ hk=>trivial)⟩,⟨by (with_reducible repeat (first|apply zrA|apply zrN|apply zrD));exact Kd.R_mono (Kd.R_far (p:=⟨gb240,2,none⟩) (Kd.R_far (p:=⟨gb240,1,none⟩) (Kd.R_far (p:=⟨gb240,0,none⟩) (Kd.R_types HO238.out BK240.out (by decide)) (fun _ hk=>hk.2) (.slice Ao14 t233.length co14)) (fun _ hk=>hk.2) (.slice Ao18 t236.length co18)) (fun _ hk=>hk.2) (.int .i64 t239)) (fun _ hk=>trivial)⟩,⟨by (with_reducible repeat (first|refine zbN ?_ _|refine zbD ?_|refine zbA ?_ _));refine blk_far ?_ NB230_240.out _;(with_reducible repeat (first|refine zbN ?_ _|refine zbD ?_|refine zbA ?_ _));refine blk_far ?_ NB230_240.out _;(with_reducible repeat (first|refine zbN ?_ _|refine zbD ?_|refine zbA ?_ _));refine blk_far ?_ NB230_240.out _;(with_reducible repeat (first|refine zbN ?_ _|refine zbD ?_|refine zbA ?_ _));exact BK230.out⟩,⟨by (with_reducible repeat (first|refine zbN ?_ _|refine zbD ?_|refine zbA ?_ _));refine blk_far ?_ NB231_240.out _;(with_reducible repeat (first|refine zbN ?_ _|refine zbD ?_|refine zbA ?_ _));refine blk_far ?_ NB231_240.out _;(with_reducible repeat (first|refine zbN ?_ _|refine zbD ?_|refine zbA ?_ _));refine blk_far ?_ NB231_240.out _;(with_reducible repeat (first|refine zbN ?_ _|refine zbD ?_|refine zbA ?_ _));exact BK231.out⟩,⟨by (with_reducible repeat (first|refine zbN ?_ _|refine zbD ?_|refine zbA ?_ _));refine blk_put (cs:=#[.slice Ao14 t233.length co14,.slice Ao18 t236.length co18,.int .i64 0]) ?_ 2 _ rfl;(with_reducible repeat (first|refine zbN ?_ _|refine zbD ?_|refine zbA ?_ _));refine blk_put (cs:=#[.slice Ao14 t233.length co14,.slice none 0 0,.int .i64 0]) ?_ 1 _ rfl;(with_reducible repeat (first|refine zbN ?_ _|refine zbD ?_|refine zbA ?_ _));refine blk_put (cs:=#[.slice none 0 0,.slice none 0 0,.int .i64 0]) ?_ 0 _ rfl;(with_reducible repeat (first|refine zbN ?_ _|refine zbD ?_|refine zbA ?_ _));exact BK240.out⟩,⟨zb_⟩⟩
  case round =>
   clear H'
   try clear c1
   try clear c2
   try clear p2
   try clear c4
   try clear c4b0
   try clear c4b1
   try clear c5
   try clear c8
   try clear c15
   try clear c16
   try clear c17
   try clear hcz11_0
   try clear hcz11_1
   try clear hcz11_2
   try clear hcz17_0
   try clear hcz17_1
   try clear hcz17_2
   try clear hcz9_0
   try clear hcz9_1
   try clear hcz9_2
   try clear hfz11_0
   try clear hfz11_1
   try clear hfz11_2
   try clear hfz17_0
   try clear hfz17_1
   try clear hfz17_2
   try clear hfz9_0
   try clear hfz9_1
   try clear hfz9_2
   obtain ⟨x20_1,x232002_1,x241000_1,x241001_1,x241002_1,u241000,u241001,rfl,HA,HK1,HO_241000,HO_241001,BK230,BK231,BK240,HB⟩:=hrel
   cases gk with
   | zero=>exact absurd HA.out (by simp [mapjnl_Apply.l0])
   | succ k1 =>
    have H:=HA.out
    clear HA
    simp only [mapjnl_Apply.l0] at H
    by_cases c19:x20_1 < (l1.length:Int)
    ·rw [if_pos c19] at H
     have c19b0:decide (x20_1 < (l1.length:Int))=true:=decide_eq_true c19
     clear c19
     by_cases c20:0≤x20_1
     ·rw [if_pos c20] at H
      have c20b0:decide (0≤x20_1)=true:=decide_eq_true c20
      clear c20
      by_cases c21:x20_1 < (l1.length:Int)
      ·rw [if_pos c21] at H
       have c21b0:decide (x20_1 < (l1.length:Int))=true:=decide_eq_true c21
       clear c21
       replace H:=Option.bind_eq_some_iff.mp H
       obtain ⟨t243,A220,H⟩:=H
       replace H:(if t243=true then (if ((rd_T55 l1 x20_1).f1) ≥ (l0_0.length:Int) then (some (([]:List Bool),([]:List Int),0,61)) else ((mapjnl_learn.f x241000_1 x241001_1 x241002_1 ((rd_T55 l1 x20_1).f0) ((rd_T55 l1 x20_1).f1) ((rd_T55 l1 x20_1).f2)).bind fun bt244=>(mapjnl_Apply.l0 k1 l1 (l1.length:Int) (wrap64 (x20_1 + 1)) l0_0 l0_1 a0_2 bt244.1 bt244.2.1 bt244.2.2))) else (some (([]:List Bool),([]:List Int),0,61)))=some (r1,r2,r3,r4):=H
       have A22:=zm A220
       clear A220
       by_cases c23:t243=true
       ·subst c23
        have H1:(if ((rd_T55 l1 x20_1).f1) ≥ (l0_0.length:Int) then (some (([]:List Bool),([]:List Int),0,61)) else ((mapjnl_learn.f x241000_1 x241001_1 x241002_1 ((rd_T55 l1 x20_1).f0) ((rd_T55 l1 x20_1).f1) ((rd_T55 l1 x20_1).f2)).bind fun bt244=>(mapjnl_Apply.l0 k1 l1 (l1.length:Int) (wrap64 (x20_1 + 1)) l0_0 l0_1 a0_2 bt244.1 bt244.2.1 bt244.2.2)))=some (r1,r2,r3,r4):=by rw [if_pos rfl] at H;exact H
        clear H
        have H:=H1
        clear H1
        by_cases c24:((rd_T55 l1 x20_1).f1) ≥ (l0_0.length:Int)
        ·rw [if_pos c24] at H
         have c24b0:decide ((l0_0.length:Int)≤((rd_T55 l1 x20_1).f1))=true:=decide_eq_true c24
         clear c24
         simp only [Option.some.injEq,Prod.mk.injEq] at H
         obtain ⟨rfl,rfl,rfl,rfl⟩:=H
         have p241:0≤(x20_1:Int):=za_
         have q241:x20_1 < (l1.length:Int):=za_
         obtain ⟨ad241,e241,hx241_0,hx241_1,hx241_2⟩:=at_T55 HR1.out x20_1 p241 q241
         cases e241
         replace hx241_0:=zhx HB hx241_0
         replace hx241_1:=zhx HB hx241_1
         replace hx241_2:=zhx HB hx241_2
         replace p241:=eq_true p241
         replace q241:=eq_true q241
         go_wp2_with (first|((with_reducible refine gate_dst (N:=9) rfl ?_);(try (refine gate_guard (by rfl) ?_;dsimp only));refine zbx 9 #[.int .i64 0,.int .i64 0,.int .i64 0] 55 ?_;intro gb242 hg w25 hbox hb;have n0_:=zm (Kd.R_below (by (with_reducible repeat (first|apply zrA|apply zrN|apply zrD));exact HO_241000.out) hb);have n1_:=zm (Kd.R_below (by (with_reducible repeat (first|apply zrA|apply zrN|apply zrD));exact HO_241001.out) hb);have n2_:=zkB BK230 hb;have n3_:=zkB BK231 hb;have n4_:=zkB BK240 hb;have n5_:=zkH HB hb;have n6_:=zm (hbox);have n7_:=zkG HB hg;have n8_:=zkG HB hg;have n9_:=zkN BK230 hg;have n10_:=zkM BK230 hg;have n11_:=zkN BK231 hg;have n12_:=zkM BK231 hg;have n13_:=zkN BK240 hg;have n14_:=zkM BK240 hg;clear HO_241000 HO_241001 BK230 BK231 BK240 HB;have HO_241000:=n0_;have HO_241001:=n1_;have BK230:=n2_;have BK231:=n3_;have BK240:=n4_;have HB:=n5_;have BK242:=n6_;have GW242:=n7_;have GE242:=n8_;have NB230_242:=n9_;have NB242_230:=n10_;have NB231_242:=n11_;have NB242_231:=n12_;have NB240_242:=n13_;have NB242_240:=n14_;clear n0_ n1_ n2_ n3_ n4_ n5_ n6_ n7_ n8_ n9_ n10_ n11_ n12_ n13_ n14_;clear hb hbox hg;have hnb26:=NB242_230.out;have hnc26:=NB230_242.out;have hnb27:=NB242_231.out;have hnc27:=NB231_242.out;have hnb28:=NB242_240.out;have hnc28:=NB240_242.out;obtain ⟨hcz29_0,hcz29_1,hcz29_2,hfz29_0,hfz29_1,hfz29_2⟩:=zc3 BK242.out)|((with_reducible refine gate_callee (f:=61) rfl ?_);refine goesL_ (some 25) rfl rfl Try.func61 (by kernel_rfl) rfl #[.agg #[.int .i64 ((rd_T55 l1 x20_1).f0),.int .i64 ((rd_T55 l1 x20_1).f1),.int .i64 ((rd_T55 l1 x20_1).f2)]] rfl (by (try simp only [List.map_toArray,List.map_cons,List.map_nil]);first|done|rfl|(simp only [List.length_drop,List.length_take];rfl)) ?_;(with_reducible refine (mapjnl_record.calls k1 ((rd_T55 l1 x20_1).f0) ((rd_T55 l1 x20_1).f1) ((rd_T55 l1 x20_1).f2) true _ A22.out).mono ?_);rintro e w30 ⟨rfl,hb⟩;refine ⟨_,rfl,?_⟩;have n0_:=zm (Kd.R_below (by (with_reducible repeat (first|apply zrA|apply zrN|apply zrD));exact (Kd.R_mono (Kd.R_far (p:=⟨gb242,2,none⟩) (Kd.R_far (p:=⟨gb242,1,none⟩) (Kd.R_far (p:=⟨gb242,0,none⟩) (Kd.R_types HO_241000.out BK242.out (by decide)) (fun _ hk=>hk.2) (.int .i64 ((rd_T55 l1 x20_1).f0))) (fun _ hk=>hk.2) (.int .i64 ((rd_T55 l1 x20_1).f1))) (fun _ hk=>hk.2) (.int .i64 ((rd_T55 l1 x20_1).f2))) (fun _ h_=>h_.1))) hb);have n1_:=zm (Kd.R_below (by (with_reducible repeat (first|apply zrA|apply zrN|apply zrD));exact (Kd.R_mono (Kd.R_far (p:=⟨gb242,2,none⟩) (Kd.R_far (p:=⟨gb242,1,none⟩) (Kd.R_far (p:=⟨gb242,0,none⟩) (Kd.R_types HO_241001.out BK242.out (by decide)) (fun _ hk=>hk.2) (.int .i64 ((rd_T55 l1 x20_1).f0))) (fun _ hk=>hk.2) (.int .i64 ((rd_T55 l1 x20_1).f1))) (fun _ hk=>hk.2) (.int .i64 ((rd_T55 l1 x20_1).f2))) (fun _ h_=>h_.1))) hb);have n2_:=zm (zbB (g:=gb230) (o:=.cells #[.slice A0_0 l0_0.length c0_0,.slice A0_1 l0_1.length c0_1,.int .i64 a0_2] 25 (0,0)) (by (with_reducible repeat (first|refine zbN ?_ _|refine zbD ?_|refine zbA ?_ _));refine blk_far ?_ NB230_242.out _;(with_reducible repeat (first|refine zbN ?_ _|refine zbD ?_|refine zbA ?_ _));refine blk_far ?_ NB230_242.out _;(with_reducible repeat (first|refine zbN ?_ _|refine zbD ?_|refine zbA ?_ _));refine blk_far ?_ NB230_242.out _;(with_reducible repeat (first|refine zbN ?_ _|refine zbD ?_|refine zbA ?_ _));exact BK230.out) hb);have n3_:=zm (zbB (g:=gb231) (o:=.cells #[.slice none 0 0,.slice none 0 0,.int .i64 x232002_1] 25 (0,0)) (by (with_reducible repeat (first|refine zbN ?_ _|refine zbD ?_|refine zbA ?_ _));refine blk_far ?_ NB231_242.out _;(with_reducible repeat (first|refine zbN ?_ _|refine zbD ?_|refine zbA ?_ _));refine blk_far ?_ NB231_242.out _;(with_reducible repeat (first|refine zbN ?_ _|refine zbD ?_|refine zbA ?_ _));refine blk_far ?_ NB231_242.out _;(with_reducible repeat (first|refine zbN ?_ _|refine zbD ?_|refine zbA ?_ _));exact BK231.out) hb);have n4_:=zm (zbB (g:=gb240) (o:=.cells #[u241000,u241001,.int .i64 x241002_1] 25 (0,0)) (by (with_reducible repeat (first|refine zbN ?_ _|refine zbD ?_|refine zbA ?_ _));refine blk_far ?_ NB240_242.out _;(with_reducible repeat (first|refine zbN ?_ _|refine zbD ?_|refine zbA ?_ _));refine blk_far ?_ NB240_242.out _;(with_reducible repeat (first|refine zbN ?_ _|refine zbD ?_|refine zbA ?_ _));refine blk_far ?_ NB240_242.out _;(with_reducible repeat (first|refine zbN ?_ _|refine zbD ?_|refine zbA ?_ _));exact BK240.out) hb);have n5_:=zm (zbB (g:=gb242) (o:=.cells #[.int .i64 ((rd_T55 l1 x20_1).f0),.int .i64 ((rd_T55 l1 x20_1).f1),.int .i64 ((rd_T55 l1 x20_1).f2)] 55 (0,0)) (by (with_reducible repeat (first|refine zbN ?_ _|refine zbD ?_|refine zbA ?_ _));refine blk_put (cs:=#[.int .i64 ((rd_T55 l1 x20_1).f0),.int .i64 ((rd_T55 l1 x20_1).f1),.int .i64 0]) ?_ 2 _ rfl;(with_reducible repeat (first|refine zbN ?_ _|refine zbD ?_|refine zbA ?_ _));refine blk_put (cs:=#[.int .i64 ((rd_T55 l1 x20_1).f0),.int .i64 0,.int .i64 0]) ?_ 1 _ rfl;(with_reducible repeat (first|refine zbN ?_ _|refine zbD ?_|refine zbA ?_ _));refine blk_put (cs:=#[.int .i64 0,.int .i64 0,.int .i64 0]) ?_ 0 _ rfl;(with_reducible repeat (first|refine zbN ?_ _|refine zbD ?_|refine zbA ?_ _));exact BK242.out) hb);have n6_:=zkH HB hb;clear HO_241000 HO_241001 BK230 BK231 BK240 BK242 HB;have HO_241000:=n0_;have HO_241001:=n1_;have BK230:=n2_;have BK231:=n3_;have BK240:=n4_;have BK242:=n5_;have HB:=n6_;clear n0_ n1_ n2_ n3_ n4_ n5_ n6_;(try clear hb);(try clear hb2);(try clear hk);(try clear hi);obtain ⟨hcz31_0,hcz31_1,hcz31_2,hfz31_0,hfz31_1,hfz31_2⟩:=zc3 BK242.out;have hnb32:=NB230_231.out;have hnc32:=NB231_230.out;have hnb33:=NB230_240.out;have hnc33:=NB240_230.out;obtain ⟨hcz34_0,hcz34_1,hcz34_2,hfz34_0,hfz34_1,hfz34_2⟩:=zc3 BK230.out;have hnb35:=NB231_240.out;have hnc35:=NB240_231.out;obtain ⟨hcz36_0,hcz36_1,hcz36_2,hfz36_0,hfz36_1,hfz36_2⟩:=zc3 BK231.out))
         refine bodyPost_ret (results_ct rfl _ _ gb231 25 #[.slice none 0 0,.slice none 0 0,.int .i64 0] (0,0) _ rfl (by (with_reducible repeat (first|refine zbN ?_ _|refine zbD ?_|refine zbA ?_ _));refine blk_put (cs:=#[.slice none 0 0,.slice none 0 0,.int .i64 x232002_1]) ?_ 2 _ rfl;(with_reducible repeat (first|refine zbN ?_ _|refine zbD ?_|refine zbA ?_ _));refine blk_put (cs:=#[.slice none 0 0,.slice none 0 0,.int .i64 x232002_1]) ?_ 1 _ rfl;(with_reducible repeat (first|refine zbN ?_ _|refine zbD ?_|refine zbA ?_ _));refine blk_put (cs:=#[.slice none 0 0,.slice none 0 0,.int .i64 x232002_1]) ?_ 0 _ rfl;(with_reducible repeat (first|refine zbN ?_ _|refine zbD ?_|refine zbA ?_ _));exact BK231.out) Try.underlying25 rfl (by kernel_rfl)) rfl ?_
         exact ⟨_,_,ze_,zr_,zr_,zb_⟩
        ·rw [if_neg c24] at H
         have c24b0:decide ((l0_0.length:Int)≤((rd_T55 l1 x20_1).f1))=false:=decide_eq_false c24
         clear c24
         replace H:=Option.bind_eq_some_iff.mp H
         obtain ⟨⟨t244,t247,t250⟩,A370,H⟩:=H
         replace H:(mapjnl_Apply.l0 k1 l1 (l1.length:Int) (wrap64 (x20_1 + 1)) l0_0 l0_1 a0_2 t244 t247 t250)=some (r1,r2,r3,r4):=H
         have A37:=zm A370
         clear A370
         have H':=zm H
         clear H
         have p241:0≤(x20_1:Int):=za_
         have q241:x20_1 < (l1.length:Int):=za_
         obtain ⟨ad241,e241,hx241_0,hx241_1,hx241_2⟩:=at_T55 HR1.out x20_1 p241 q241
         cases e241
         replace hx241_0:=zhx HB hx241_0
         replace hx241_1:=zhx HB hx241_1
         replace hx241_2:=zhx HB hx241_2
         replace p241:=eq_true p241
         replace q241:=eq_true q241
         go_wp2_with (first|((with_reducible refine gate_dst (N:=9) rfl ?_);(try (refine gate_guard (by rfl) ?_;dsimp only));refine zbx 9 #[.int .i64 0,.int .i64 0,.int .i64 0] 55 ?_;intro gb242 hg w38 hbox hb;have n0_:=zm (Kd.R_below (by (with_reducible repeat (first|apply zrA|apply zrN|apply zrD));exact HO_241000.out) hb);have n1_:=zm (Kd.R_below (by (with_reducible repeat (first|apply zrA|apply zrN|apply zrD));exact HO_241001.out) hb);have n2_:=zkB BK230 hb;have n3_:=zkB BK231 hb;have n4_:=zkB BK240 hb;have n5_:=zkH HB hb;have n6_:=zm (hbox);have n7_:=zkG HB hg;have n8_:=zkG HB hg;have n9_:=zkN BK230 hg;have n10_:=zkM BK230 hg;have n11_:=zkN BK231 hg;have n12_:=zkM BK231 hg;have n13_:=zkN BK240 hg;have n14_:=zkM BK240 hg;clear HO_241000 HO_241001 BK230 BK231 BK240 HB;have HO_241000:=n0_;have HO_241001:=n1_;have BK230:=n2_;have BK231:=n3_;have BK240:=n4_;have HB:=n5_;have BK242:=n6_;have GW242:=n7_;have GE242:=n8_;have NB230_242:=n9_;have NB242_230:=n10_;have NB231_242:=n11_;have NB242_231:=n12_;have NB240_242:=n13_;have NB242_240:=n14_;clear n0_ n1_ n2_ n3_ n4_ n5_ n6_ n7_ n8_ n9_ n10_ n11_ n12_ n13_ n14_;clear hb hbox hg;have hnb39:=NB242_230.out;have hnc39:=NB230_242.out;have hnb40:=NB242_231.out;have hnc40:=NB231_242.out;have hnb41:=NB242_240.out;have hnc41:=NB240_242.out;obtain ⟨hcz42_0,hcz42_1,hcz42_2,hfz42_0,hfz42_1,hfz42_2⟩:=zc3 BK242.out)|((with_reducible refine gate_callee (f:=61) rfl ?_);refine goesL_ (some 25) rfl rfl Try.func61 (by kernel_rfl) rfl #[.agg #[.int .i64 ((rd_T55 l1 x20_1).f0),.int .i64 ((rd_T55 l1 x20_1).f1),.int .i64 ((rd_T55 l1 x20_1).f2)]] rfl (by (try simp only [List.map_toArray,List.map_cons,List.map_nil]);first|done|rfl|(simp only [List.length_drop,List.length_take];rfl)) ?_;(with_reducible refine (mapjnl_record.calls k1 ((rd_T55 l1 x20_1).f0) ((rd_T55 l1 x20_1).f1) ((rd_T55 l1 x20_1).f2) true _ A22.out).mono ?_);rintro e w43 ⟨rfl,hb⟩;refine ⟨_,rfl,?_⟩;have n0_:=zm (Kd.R_below (by (with_reducible repeat (first|apply zrA|apply zrN|apply zrD));exact (Kd.R_mono (Kd.R_far (p:=⟨gb242,2,none⟩) (Kd.R_far (p:=⟨gb242,1,none⟩) (Kd.R_far (p:=⟨gb242,0,none⟩) (Kd.R_types HO_241000.out BK242.out (by decide)) (fun _ hk=>hk.2) (.int .i64 ((rd_T55 l1 x20_1).f0))) (fun _ hk=>hk.2) (.int .i64 ((rd_T55 l1 x20_1).f1))) (fun _ hk=>hk.2) (.int .i64 ((rd_T55 l1 x20_1).f2))) (fun _ h_=>h_.1))) hb);have n1_:=zm (Kd.R_below (by (with_reducible repeat (first|apply zrA|apply zrN|apply zrD));exact (Kd.R_mono (Kd.R_far (p:=⟨gb242,2,none⟩) (Kd.R_far (p:=⟨gb242,1,none⟩) (Kd.R_far (p:=⟨gb242,0,none⟩) (Kd.R_types HO_241001.out BK242.out (by decide)) (fun _ hk=>hk.2) (.int .i64 ((rd_T55 l1 x20_1).f0))) (fun _ hk=>hk.2) (.int .i64 ((rd_T55 l1 x20_1).f1))) (fun _ hk=>hk.2) (.int .i64 ((rd_T55 l1 x20_1).f2))) (fun _ h_=>h_.1))) hb);have n2_:=zm (zbB (g:=gb230) (o:=.cells #[.slice A0_0 l0_0.length c0_0,.slice A0_1 l0_1.length c0_1,.int .i64 a0_2] 25 (0,0)) (by (with_reducible repeat (first|refine zbN ?_ _|refine zbD ?_|refine zbA ?_ _));refine blk_far ?_ NB230_242.out _;(with_reducible repeat (first|refine zbN ?_ _|refine zbD ?_|refine zbA ?_ _));refine blk_far ?_ NB230_242.out _;(with_reducible repeat (first|refine zbN ?_ _|refine zbD ?_|refine zbA ?_ _));refine blk_far ?_ NB230_242.out _;(with_reducible repeat (first|refine zbN ?_ _|refine zbD ?_|refine zbA ?_ _));exact BK230.out) hb);have n3_:=zm (zbB (g:=gb231) (o:=.cells #[.slice none 0 0,.slice none 0 0,.int .i64 x232002_1] 25 (0,0)) (by (with_reducible repeat (first|refine zbN ?_ _|refine zbD ?_|refine zbA ?_ _));refine blk_far ?_ NB231_242.out _;(with_reducible repeat (first|refine zbN ?_ _|refine zbD ?_|refine zbA ?_ _));refine blk_far ?_ NB231_242.out _;(with_reducible repeat (first|refine zbN ?_ _|refine zbD ?_|refine zbA ?_ _));refine blk_far ?_ NB231_242.out _;(with_reducible repeat (first|refine zbN ?_ _|refine zbD ?_|refine zbA ?_ _));exact BK231.out) hb);have n4_:=zm (zbB (g:=gb240) (o:=.cells #[u241000,u241001,.int .i64 x241002_1] 25 (0,0)) (by (with_reducible repeat (first|refine zbN ?_ _|refine zbD ?_|refine zbA ?_ _));refine blk_far ?_ NB240_242.out _;(with_reducible repeat (first|refine zbN ?_ _|refine zbD ?_|refine zbA ?_ _));refine blk_far ?_ NB240_242.out _;(with_reducible repeat (first|refine zbN ?_ _|refine zbD ?_|refine zbA ?_ _));refine blk_far ?_ NB240_242.out _;(with_reducible repeat (first|refine zbN ?_ _|refine zbD ?_|refine zbA ?_ _));exact BK240.out) hb);have n5_:=zm (zbB (g:=gb242) (o:=.cells #[.int .i64 ((rd_T55 l1 x20_1).f0),.int .i64 ((rd_T55 l1 x20_1).f1),.int .i64 ((rd_T55 l1 x20_1).f2)] 55 (0,0)) (by (with_reducible repeat (first|refine zbN ?_ _|refine zbD ?_|refine zbA ?_ _));refine blk_put (cs:=#[.int .i64 ((rd_T55 l1 x20_1).f0),.int .i64 ((rd_T55 l1 x20_1).f1),.int .i64 0]) ?_ 2 _ rfl;(with_reducible repeat (first|refine zbN ?_ _|refine zbD ?_|refine zbA ?_ _));refine blk_put (cs:=#[.int .i64 ((rd_T55 l1 x20_1).f0),.int .i64 0,.int .i64 0]) ?_ 1 _ rfl;(with_reducible repeat (first|refine zbN ?_ _|refine zbD ?_|refine zbA ?_ _));refine blk_put (cs:=#[.int .i64 0,.int .i64 0,.int .i64 0]) ?_ 0 _ rfl;(with_reducible repeat (first|refine zbN ?_ _|refine zbD ?_|refine zbA ?_ _));exact BK242.out) hb);have n6_:=zkH HB hb;clear HO_241000 HO_241001 BK230 BK231 BK240 BK242 HB;have HO_241000:=n0_;have HO_241001:=n1_;have BK230:=n2_;have BK231:=n3_;have BK240:=n4_;have BK242:=n5_;have HB:=n6_;clear n0_ n1_ n2_ n3_ n4_ n5_ n6_;(try clear hb);(try clear hb2);(try clear hk);(try clear hi);obtain ⟨hcz44_0,hcz44_1,hcz44_2,hfz44_0,hfz44_1,hfz44_2⟩:=zc3 BK242.out;have hnb45:=NB230_231.out;have hnc45:=NB231_230.out;have hnb46:=NB230_240.out;have hnc46:=NB240_230.out;obtain ⟨hcz47_0,hcz47_1,hcz47_2,hfz47_0,hfz47_1,hfz47_2⟩:=zc3 BK230.out;have hnb48:=NB240_231.out;have hnc48:=NB231_240.out;obtain ⟨hcz49_0,hcz49_1,hcz49_2,hfz49_0,hfz49_1,hfz49_2⟩:=zc3 BK240.out;obtain ⟨Ao50,co50,eo50⟩:=Kd.R_slice HO_241000.out;subst eo50;obtain ⟨Ao51,co51,eo51⟩:=Kd.R_slice HO_241001.out;subst eo51)|((with_reducible refine gate_callee (f:=62) rfl ?_);refine goesL_ (some 37) rfl rfl Try.func62 (by kernel_rfl) rfl #[.pointer (some ⟨gb240,0,none⟩),.agg #[.int .i64 ((rd_T55 l1 x20_1).f0),.int .i64 ((rd_T55 l1 x20_1).f1),.int .i64 ((rd_T55 l1 x20_1).f2)]] rfl (by (try simp only [List.map_toArray,List.map_cons,List.map_nil]);first|done|rfl|(simp only [List.length_drop,List.length_take];rfl)) ?_;(with_reducible refine (mapjnl_learn.calls gb240 (fun k_=>some k_=(.slice Ao50 x241000_1.length co50:Value).ownBlock) (.slice Ao50 x241000_1.length co50) x241000_1 (fun k_=>some k_=(.slice Ao51 x241001_1.length co51:Value).ownBlock) (.slice Ao51 x241001_1.length co51) x241001_1 x241002_1 ((rd_T55 l1 x20_1).f0) ((rd_T55 l1 x20_1).f1) ((rd_T55 l1 x20_1).f2) t244 t247 t250 w _ ?side1 ?side2 ?side3 ?side4 A37.out).mono ?_);(case side4=>exact zx_);(case side1=>repeat (first|(with_reducible first|exact HB.out|apply zlA|apply zlN|apply zlD|refine zlS ?_ GE230.out|refine zlS ?_ GE231.out|refine zlS ?_ GE240.out|refine zlS ?_ GE242.out)|exact HB.out));(case side2=>exact Kd.R_tight rfl HO_241000.out);(case side3=>exact Kd.R_tight rfl HO_241001.out);rintro e w_ ⟨v245,v248,w52,rfl,rfl,ho0,ho1,hb,hkp⟩;refine ⟨_,rfl,?_⟩;have n0_:=zm (blk_kept zx_ hkp (fun hs_=>Or.elim hs_ (fun e_=>(fun e_=>(Kd.R_ne HO_241000.out BK230.out (by decide)) e_) e_) (fun e_=>(fun e_=>(Kd.R_ne HO_241001.out BK230.out (by decide)) e_) e_)));have n1_:=zm (blk_kept zx_ hkp (fun hs_=>Or.elim hs_ (fun e_=>(fun e_=>(Kd.R_ne HO_241000.out BK231.out (by decide)) e_) e_) (fun e_=>(fun e_=>(Kd.R_ne HO_241001.out BK231.out (by decide)) e_) e_)));have n2_:=zm (blk_kept zx_ hkp (fun hs_=>Or.elim hs_ (fun e_=>(fun e_=>(Kd.R_ne HO_241000.out BK240.out (by decide)) e_) e_) (fun e_=>(fun e_=>(Kd.R_ne HO_241001.out BK240.out (by decide)) e_) e_)));have n3_:=zm (blk_kept zx_ hkp (fun hs_=>Or.elim hs_ (fun e_=>(fun e_=>(Kd.R_ne HO_241000.out BK242.out (by decide)) e_) e_) (fun e_=>(fun e_=>(Kd.R_ne HO_241001.out BK242.out (by decide)) e_) e_)));have n4_:=zm (Kd.R_mono (ok':=fun k_=>True) ho0 (fun k_ hk_=>trivial));have n5_:=zm (Kd.R_mono (ok':=fun k_=>True) ho1 (fun k_ hk_=>trivial));have n6_:=zm (hb);clear BK230 BK231 BK240 BK242 HB HO_241000 HO_241001;have BK230:=n0_;have BK231:=n1_;have BK240:=n2_;have BK242:=n3_;have HO246:=n4_;have HO249:=n5_;have HB:=n6_;clear n0_ n1_ n2_ n3_ n4_ n5_ n6_;(try clear hb);(try clear hkp);(try clear ho0);(try clear ho1);obtain ⟨Ao53,co53,eo53⟩:=Kd.R_slice HO246.out;subst eo53;obtain ⟨hcz54_0,hcz54_1,hcz54_2,hfz54_0,hfz54_1,hfz54_2⟩:=zc3 BK240.out;obtain ⟨Ao55,co55,eo55⟩:=Kd.R_slice HO249.out;subst eo55))
         go_roundg k1
         case measure=>have:=HK1.out;omega
         case rel=>exact ⟨(wrap64 (x20_1 + 1)),(x232002_1),(t244),(t247),(t250),(.slice Ao53 t244.length co53),(.slice Ao55 t247.length co55),zs_,H',⟨by have:=HK1.out;omega⟩,⟨by (with_reducible repeat (first|apply zrA|apply zrN|apply zrD));exact Kd.R_mono (Kd.R_far (p:=⟨gb240,2,none⟩) (Kd.R_far (p:=⟨gb240,1,none⟩) (Kd.R_far (p:=⟨gb240,0,none⟩) (Kd.R_types HO246.out BK240.out (by decide)) (fun _ hk=>hk.2) (.slice Ao53 t244.length co53)) (fun _ hk=>hk.2) (.slice Ao55 t247.length co55)) (fun _ hk=>hk.2) (.int .i64 t250)) (fun _ hk=>trivial)⟩,⟨by (with_reducible repeat (first|apply zrA|apply zrN|apply zrD));exact Kd.R_mono (Kd.R_far (p:=⟨gb240,2,none⟩) (Kd.R_far (p:=⟨gb240,1,none⟩) (Kd.R_far (p:=⟨gb240,0,none⟩) (Kd.R_types HO249.out BK240.out (by decide)) (fun _ hk=>hk.2) (.slice Ao53 t244.length co53)) (fun _ hk=>hk.2) (.slice Ao55 t247.length co55)) (fun _ hk=>hk.2) (.int .i64 t250)) (fun _ hk=>trivial)⟩,⟨by (with_reducible repeat (first|refine zbN ?_ _|refine zbD ?_|refine zbA ?_ _));refine blk_far ?_ NB230_240.out _;(with_reducible repeat (first|refine zbN ?_ _|refine zbD ?_|refine zbA ?_ _));refine blk_far ?_ NB230_240.out _;(with_reducible repeat (first|refine zbN ?_ _|refine zbD ?_|refine zbA ?_ _));refine blk_far ?_ NB230_240.out _;(with_reducible repeat (first|refine zbN ?_ _|refine zbD ?_|refine zbA ?_ _));exact BK230.out⟩,⟨by (with_reducible repeat (first|refine zbN ?_ _|refine zbD ?_|refine zbA ?_ _));refine blk_far ?_ NB231_240.out _;(with_reducible repeat (first|refine zbN ?_ _|refine zbD ?_|refine zbA ?_ _));refine blk_far ?_ NB231_240.out _;(with_reducible repeat (first|refine zbN ?_ _|refine zbD ?_|refine zbA ?_ _));refine blk_far ?_ NB231_240.out _;(with_reducible repeat (first|refine zbN ?_ _|refine zbD ?_|refine zbA ?_ _));exact BK231.out⟩,⟨by (with_reducible repeat (first|refine zbN ?_ _|refine zbD ?_|refine zbA ?_ _));refine blk_put (cs:=#[.slice Ao53 t244.length co53,.slice Ao55 t247.length co55,.int .i64 x241002_1]) ?_ 2 _ rfl;(with_reducible repeat (first|refine zbN ?_ _|refine zbD ?_|refine zbA ?_ _));refine blk_put (cs:=#[.slice Ao53 t244.length co53,.slice Ao51 x241001_1.length co51,.int .i64 x241002_1]) ?_ 1 _ rfl;(with_reducible repeat (first|refine zbN ?_ _|refine zbD ?_|refine zbA ?_ _));refine blk_put (cs:=#[.slice Ao50 x241000_1.length co50,.slice Ao51 x241001_1.length co51,.int .i64 x241002_1]) ?_ 0 _ rfl;(with_reducible repeat (first|refine zbN ?_ _|refine zbD ?_|refine zbA ?_ _));exact BK240.out⟩,⟨zb_⟩⟩
       ·replace c23:=Bool.eq_false_iff.mpr c23
        subst c23
        have H1:(some (([]:List Bool),([]:List Int),0,61))=some (r1,r2,r3,r4):=by rw [if_neg (show ¬ (false=true) by decide)] at H;exact H
        clear H
        have H:=H1
        clear H1
        simp only [Option.some.injEq,Prod.mk.injEq] at H
        obtain ⟨rfl,rfl,rfl,rfl⟩:=H
        have p241:0≤(x20_1:Int):=za_
        have q241:x20_1 < (l1.length:Int):=za_
        obtain ⟨ad241,e241,hx241_0,hx241_1,hx241_2⟩:=at_T55 HR1.out x20_1 p241 q241
        cases e241
        replace hx241_0:=zhx HB hx241_0
        replace hx241_1:=zhx HB hx241_1
        replace hx241_2:=zhx HB hx241_2
        replace p241:=eq_true p241
        replace q241:=eq_true q241
        go_wp2_with (first|((with_reducible refine gate_dst (N:=9) rfl ?_);(try (refine gate_guard (by rfl) ?_;dsimp only));refine zbx 9 #[.int .i64 0,.int .i64 0,.int .i64 0] 55 ?_;intro gb242 hg w56 hbox hb;have n0_:=zm (Kd.R_below (by (with_reducible repeat (first|apply zrA|apply zrN|apply zrD));exact HO_241000.out) hb);have n1_:=zm (Kd.R_below (by (with_reducible repeat (first|apply zrA|apply zrN|apply zrD));exact HO_241001.out) hb);have n2_:=zkB BK230 hb;have n3_:=zkB BK231 hb;have n4_:=zkB BK240 hb;have n5_:=zkH HB hb;have n6_:=zm (hbox);have n7_:=zkG HB hg;have n8_:=zkG HB hg;have n9_:=zkN BK230 hg;have n10_:=zkM BK230 hg;have n11_:=zkN BK231 hg;have n12_:=zkM BK231 hg;have n13_:=zkN BK240 hg;have n14_:=zkM BK240 hg;clear HO_241000 HO_241001 BK230 BK231 BK240 HB;have HO_241000:=n0_;have HO_241001:=n1_;have BK230:=n2_;have BK231:=n3_;have BK240:=n4_;have HB:=n5_;have BK242:=n6_;have GW242:=n7_;have GE242:=n8_;have NB230_242:=n9_;have NB242_230:=n10_;have NB231_242:=n11_;have NB242_231:=n12_;have NB240_242:=n13_;have NB242_240:=n14_;clear n0_ n1_ n2_ n3_ n4_ n5_ n6_ n7_ n8_ n9_ n10_ n11_ n12_ n13_ n14_;clear hb hbox hg;have hnb57:=NB242_230.out;have hnc57:=NB230_242.out;have hnb58:=NB242_231.out;have hnc58:=NB231_242.out;have hnb59:=NB242_240.out;have hnc59:=NB240_242.out;obtain ⟨hcz60_0,hcz60_1,hcz60_2,hfz60_0,hfz60_1,hfz60_2⟩:=zc3 BK242.out)|((with_reducible refine gate_callee (f:=61) rfl ?_);refine goesL_ (some 25) rfl rfl Try.func61 (by kernel_rfl) rfl #[.agg #[.int .i64 ((rd_T55 l1 x20_1).f0),.int .i64 ((rd_T55 l1 x20_1).f1),.int .i64 ((rd_T55 l1 x20_1).f2)]] rfl (by (try simp only [List.map_toArray,List.map_cons,List.map_nil]);first|done|rfl|(simp only [List.length_drop,List.length_take];rfl)) ?_;(with_reducible refine (mapjnl_record.calls k1 ((rd_T55 l1 x20_1).f0) ((rd_T55 l1 x20_1).f1) ((rd_T55 l1 x20_1).f2) false _ A22.out).mono ?_);rintro e w61 ⟨rfl,hb⟩;refine ⟨_,rfl,?_⟩;have n0_:=zm (Kd.R_below (by (with_reducible repeat (first|apply zrA|apply zrN|apply zrD));exact (Kd.R_mono (Kd.R_far (p:=⟨gb242,2,none⟩) (Kd.R_far (p:=⟨gb242,1,none⟩) (Kd.R_far (p:=⟨gb242,0,none⟩) (Kd.R_types HO_241000.out BK242.out (by decide)) (fun _ hk=>hk.2) (.int .i64 ((rd_T55 l1 x20_1).f0))) (fun _ hk=>hk.2) (.int .i64 ((rd_T55 l1 x20_1).f1))) (fun _ hk=>hk.2) (.int .i64 ((rd_T55 l1 x20_1).f2))) (fun _ h_=>h_.1))) hb);have n1_:=zm (Kd.R_below (by (with_reducible repeat (first|apply zrA|apply zrN|apply zrD));exact (Kd.R_mono (Kd.R_far (p:=⟨gb242,2,none⟩) (Kd.R_far (p:=⟨gb242,1,none⟩) (Kd.R_far (p:=⟨gb242,0,none⟩) (Kd.R_types HO_241001.out BK242.out (by decide)) (fun _ hk=>hk.2) (.int .i64 ((rd_T55 l1 x20_1).f0))) (fun _ hk=>hk.2) (.int .i64 ((rd_T55 l1 x20_1).f1))) (fun _ hk=>hk.2) (.int .i64 ((rd_T55 l1 x20_1).f2))) (fun _ h_=>h_.1))) hb);have n2_:=zm (zbB (g:=gb230) (o:=.cells #[.slice A0_0 l0_0.length c0_0,.slice A0_1 l0_1.length c0_1,.int .i64 a0_2] 25 (0,0)) (by (with_reducible repeat (first|refine zbN ?_ _|refine zbD ?_|refine zbA ?_ _));refine blk_far ?_ NB230_242.out _;(with_reducible repeat (first|refine zbN ?_ _|refine zbD ?_|refine zbA ?_ _));refine blk_far ?_ NB230_242.out _;(with_reducible repeat (first|refine zbN ?_ _|refine zbD ?_|refine zbA ?_ _));refine blk_far ?_ NB230_242.out _;(with_reducible repeat (first|refine zbN ?_ _|refine zbD ?_|refine zbA ?_ _));exact BK230.out) hb);have n3_:=zm (zbB (g:=gb231) (o:=.cells #[.slice none 0 0,.slice none 0 0,.int .i64 x232002_1] 25 (0,0)) (by (with_reducible repeat (first|refine zbN ?_ _|refine zbD ?_|refine zbA ?_ _));refine blk_far ?_ NB231_242.out _;(with_reducible repeat (first|refine zbN ?_ _|refine zbD ?_|refine zbA ?_ _));refine blk_far ?_ NB231_242.out _;(with_reducible repeat (first|refine zbN ?_ _|refine zbD ?_|refine zbA ?_ _));refine blk_far ?_ NB231_242.out _;(with_reducible repeat (first|refine zbN ?_ _|refine zbD ?_|refine zbA ?_ _));exact BK231.out) hb);have n4_:=zm (zbB (g:=gb240) (o:=.cells #[u241000,u241001,.int .i64 x241002_1] 25 (0,0)) (by (with_reducible repeat (first|refine zbN ?_ _|refine zbD ?_|refine zbA ?_ _));refine blk_far ?_ NB240_242.out _;(with_reducible repeat (first|refine zbN ?_ _|refine zbD ?_|refine zbA ?_ _));refine blk_far ?_ NB240_242.out _;(with_reducible repeat (first|refine zbN ?_ _|refine zbD ?_|refine zbA ?_ _));refine blk_far ?_ NB240_242.out _;(with_reducible repeat (first|refine zbN ?_ _|refine zbD ?_|refine zbA ?_ _));exact BK240.out) hb);have n5_:=zm (zbB (g:=gb242) (o:=.cells #[.int .i64 ((rd_T55 l1 x20_1).f0),.int .i64 ((rd_T55 l1 x20_1).f1),.int .i64 ((rd_T55 l1 x20_1).f2)] 55 (0,0)) (by (with_reducible repeat (first|refine zbN ?_ _|refine zbD ?_|refine zbA ?_ _));refine blk_put (cs:=#[.int .i64 ((rd_T55 l1 x20_1).f0),.int .i64 ((rd_T55 l1 x20_1).f1),.int .i64 0]) ?_ 2 _ rfl;(with_reducible repeat (first|refine zbN ?_ _|refine zbD ?_|refine zbA ?_ _));refine blk_put (cs:=#[.int .i64 ((rd_T55 l1 x20_1).f0),.int .i64 0,.int .i64 0]) ?_ 1 _ rfl;(with_reducible repeat (first|refine zbN ?_ _|refine zbD ?_|refine zbA ?_ _));refine blk_put (cs:=#[.int .i64 0,.int .i64 0,.int .i64 0]) ?_ 0 _ rfl;(with_reducible repeat (first|refine zbN ?_ _|refine zbD ?_|refine zbA ?_ _));exact BK242.out) hb);have n6_:=zkH HB hb;clear HO_241000 HO_241001 BK230 BK231 BK240 BK242 HB;have HO_241000:=n0_;have HO_241001:=n1_;have BK230:=n2_;have BK231:=n3_;have BK240:=n4_;have BK242:=n5_;have HB:=n6_;clear n0_ n1_ n2_ n3_ n4_ n5_ n6_;(try clear hb);(try clear hb2);(try clear hk);(try clear hi);have hnb62:=NB231_230.out;have hnc62:=NB230_231.out;have hnb63:=NB231_240.out;have hnc63:=NB240_231.out;obtain ⟨hcz64_0,hcz64_1,hcz64_2,hfz64_0,hfz64_1,hfz64_2⟩:=zc3 BK231.out))
        refine bodyPost_ret (results_ct rfl _ _ gb231 25 #[.slice none 0 0,.slice none 0 0,.int .i64 0] (0,0) _ rfl (by (with_reducible repeat (first|refine zbN ?_ _|refine zbD ?_|refine zbA ?_ _));refine blk_put (cs:=#[.slice none 0 0,.slice none 0 0,.int .i64 x232002_1]) ?_ 2 _ rfl;(with_reducible repeat (first|refine zbN ?_ _|refine zbD ?_|refine zbA ?_ _));refine blk_put (cs:=#[.slice none 0 0,.slice none 0 0,.int .i64 x232002_1]) ?_ 1 _ rfl;(with_reducible repeat (first|refine zbN ?_ _|refine zbD ?_|refine zbA ?_ _));refine blk_put (cs:=#[.slice none 0 0,.slice none 0 0,.int .i64 x232002_1]) ?_ 0 _ rfl;(with_reducible repeat (first|refine zbN ?_ _|refine zbD ?_|refine zbA ?_ _));exact BK231.out) Try.underlying25 rfl (by kernel_rfl)) rfl ?_
        exact ⟨_,_,ze_,zr_,zr_,zb_⟩
      ·rw [if_neg c21] at H
       exact absurd H (by simp)
     ·rw [if_neg c20] at H
      exact absurd H (by simp)
    ·rw [if_neg c19] at H
     have c19b0:decide (x20_1 < (l1.length:Int))=false:=decide_eq_false c19
     clear c19
     simp only [Option.some.injEq,Prod.mk.injEq] at H
     obtain ⟨rfl,rfl,rfl,rfl⟩:=H
     have hnb65:=NB240_230.out
     have hnc65:=NB230_240.out
     have hnb66:=NB240_231.out
     have hnc66:=NB231_240.out
     obtain ⟨hcz67_0,hcz67_1,hcz67_2,hfz67_0,hfz67_1,hfz67_2⟩:=zc3 BK240.out
     obtain ⟨Ao68,co68,eo68⟩:=Kd.R_slice HO_241000.out
     subst eo68
     have hnb69:=NB231_230.out
     have hnc69:=NB230_231.out
     obtain ⟨hcz70_0,hcz70_1,hcz70_2,hfz70_0,hfz70_1,hfz70_2⟩:=zc3 BK231.out
     obtain ⟨Ao71,co71,eo71⟩:=Kd.R_slice HO_241001.out
     subst eo71
     go_wp2
     refine bodyPost_ret (results_ct rfl _ _ gb231 25 #[.slice Ao68 x241000_1.length co68,.slice Ao71 x241001_1.length co71,.int .i64 x241002_1] (0,0) _ rfl (by (with_reducible repeat (first|refine zbN ?_ _|refine zbD ?_|refine zbA ?_ _));refine blk_put (cs:=#[.slice Ao68 x241000_1.length co68,.slice Ao71 x241001_1.length co71,.int .i64 x232002_1]) ?_ 2 _ rfl;(with_reducible repeat (first|refine zbN ?_ _|refine zbD ?_|refine zbA ?_ _));refine blk_put (cs:=#[.slice Ao68 x241000_1.length co68,.slice none 0 0,.int .i64 x232002_1]) ?_ 1 _ rfl;(with_reducible repeat (first|refine zbN ?_ _|refine zbD ?_|refine zbA ?_ _));refine blk_put (cs:=#[.slice none 0 0,.slice none 0 0,.int .i64 x232002_1]) ?_ 0 _ rfl;(with_reducible repeat (first|refine zbN ?_ _|refine zbD ?_|refine zbA ?_ _));exact BK231.out) Try.underlying25 rfl (by kernel_rfl)) rfl ?_
     exact ⟨_,_,ze_,by (with_reducible repeat (first|apply zrA|apply zrN|apply zrD));exact Kd.R_mono (Kd.R_far (p:=⟨gb231,2,none⟩) (Kd.R_far (p:=⟨gb231,1,none⟩) (Kd.R_far (p:=⟨gb231,0,none⟩) (Kd.R_types HO_241000.out BK231.out (by decide)) (fun _ hk=>hk.2) (.slice Ao68 x241000_1.length co68)) (fun _ hk=>hk.2) (.slice Ao71 x241001_1.length co71)) (fun _ hk=>hk.2) (.int .i64 x241002_1)) (fun _ hk=>trivial),by (with_reducible repeat (first|apply zrA|apply zrN|apply zrD));exact Kd.R_mono (Kd.R_far (p:=⟨gb231,2,none⟩) (Kd.R_far (p:=⟨gb231,1,none⟩) (Kd.R_far (p:=⟨gb231,0,none⟩) (Kd.R_types HO_241001.out BK231.out (by decide)) (fun _ hk=>hk.2) (.slice Ao68 x241000_1.length co68)) (fun _ hk=>hk.2) (.slice Ao71 x241001_1.length co71)) (fun _ hk=>hk.2) (.int .i64 x241002_1)) (fun _ hk=>trivial),zb_⟩
 ·rw [if_neg c4] at H
  have c4b0:(t232 == 0)=false:=beq_eq_false_iff_ne.mpr c4
  have c4b1:(t232 != 0)=true:=bne_iff_ne.mpr c4
  simp only [Option.some.injEq,Prod.mk.injEq] at H
  obtain ⟨rfl,rfl,rfl,rfl⟩:=H
  go_enter Try.func22,Try.ntmps22
  go_wp2_with (first|((with_reducible refine gate_dst (N:=2) rfl ?_);(try (refine gate_guard (by rfl) ?_;dsimp only));refine zbx 2 #[.slice A0_0 l0_0.length c0_0,.slice A0_1 l0_1.length c0_1,.int .i64 a0_2] 25 ?_;intro gb230 hg w72 hbox hb;have n0_:=zkH HB hb;have n1_:=zm (hbox);have n2_:=zkG HB hg;have n3_:=zkG HB hg;clear HB;have HB:=n0_;have BK230:=n1_;have GW230:=n2_;have GE230:=n3_;clear n0_ n1_ n2_ n3_;clear hb hbox hg)|((with_reducible refine gate_dst (N:=4) rfl ?_);(try (refine gate_guard (by rfl) ?_;dsimp only));refine zbx 4 #[.slice none 0 0,.slice none 0 0,.int .i64 0] 25 ?_;intro gb231 hg w73 hbox hb;have n0_:=zkB BK230 hb;have n1_:=zkH HB hb;have n2_:=zm (hbox);have n3_:=zkG HB hg;have n4_:=zkG HB hg;have n5_:=zkN BK230 hg;have n6_:=zkM BK230 hg;clear BK230 HB;have BK230:=n0_;have HB:=n1_;have BK231:=n2_;have GW231:=n3_;have GE231:=n4_;have NB230_231:=n5_;have NB231_230:=n6_;clear n0_ n1_ n2_ n3_ n4_ n5_ n6_;clear hb hbox hg;have hnb74:=NB230_231.out;have hnc74:=NB231_230.out;obtain ⟨hcz75_0,hcz75_1,hcz75_2,hfz75_0,hfz75_1,hfz75_2⟩:=zc3 BK230.out)|((with_reducible refine gate_callee (f:=17) rfl ?_);refine goesL_ (some 11) rfl rfl Try.func17 (by kernel_rfl) rfl #[.agg #[.slice A0_0 l0_0.length c0_0,.slice A0_1 l0_1.length c0_1,.int .i64 a0_2]] rfl (by (try simp only [List.map_toArray,List.map_cons,List.map_nil]);first|done|rfl|(simp only [List.length_drop,List.length_take];rfl)) ?_;(with_reducible refine (mapjnl_Check.calls k _ _ l0_0 _ _ l0_1 a0_2 t232 _ ?side1 ?side2 ?side3 ?side4 A3.out).mono ?_);(case side1=>exact zC HR0_0);(case side2=>exact HC0_0.out);(case side3=>exact zC HR0_1);(case side4=>exact HC0_1.out);rintro e w76 ⟨rfl,hb⟩;refine ⟨_,rfl,?_⟩;have n0_:=zkB BK230 hb;have n1_:=zkB BK231 hb;have n2_:=zkH HB hb;clear BK230 BK231 HB;have BK230:=n0_;have BK231:=n1_;have HB:=n2_;clear n0_ n1_ n2_;(try clear hb);(try clear hb2);(try clear hk);(try clear hi);obtain ⟨hcz77_0,hcz77_1,hcz77_2,hfz77_0,hfz77_1,hfz77_2⟩:=zc3 BK231.out))
  refine bodyPost_ret (results_ct rfl _ _ gb231 25 #[.slice none 0 0,.slice none 0 0,.int .i64 0] (0,0) _ rfl (by (with_reducible repeat (first|refine zbN ?_ _|refine zbD ?_|refine zbA ?_ _));refine blk_put (cs:=#[.slice none 0 0,.slice none 0 0,.int .i64 0]) ?_ 2 _ rfl;(with_reducible repeat (first|refine zbN ?_ _|refine zbD ?_|refine zbA ?_ _));refine blk_put (cs:=#[.slice none 0 0,.slice none 0 0,.int .i64 0]) ?_ 1 _ rfl;(with_reducible repeat (first|refine zbN ?_ _|refine zbD ?_|refine zbA ?_ _));refine blk_put (cs:=#[.slice none 0 0,.slice none 0 0,.int .i64 0]) ?_ 0 _ rfl;(with_reducible repeat (first|refine zbN ?_ _|refine zbD ?_|refine zbA ?_ _));exact BK231.out) Try.underlying25 rfl (by kernel_rfl)) rfl ?_
  exact ⟨_,_,ze_,zr_,zr_,zb_⟩
def mapjnl_Parts.f (a0:Int):Option (Int):=(mapjnl_blocks.f a0).bind fun t251=>(if t251=true then (some (wrap64 (Int.tdiv (wrap64 ((wrap64 (a0 + 64)) - 1)) 64))) else (some 0))
set_option maxHeartbeats 8000000 in
set_option maxRecDepth 100000 in
theorem mapjnl_Parts.calls (a0:Int) (r:Int) (w:World) (h:mapjnl_Parts.f a0=some r) :
  Calls Try.prog 33 #[.int .i64 a0] w fun e w'=>e=.returned (.int .i64 r)∧Drawn0 w w':=by
 have H:((mapjnl_blocks.f a0).bind fun t251=>(if t251=true then (some (wrap64 (Int.tdiv (wrap64 ((wrap64 (a0 + 64)) - 1)) 64))) else (some 0)))=some r:=h
 clear h
 replace H:=Option.bind_eq_some_iff.mp H
 obtain ⟨t251,A20,H⟩:=H
 replace H:(if t251=true then (some (wrap64 (Int.tdiv (wrap64 ((wrap64 (a0 + 64)) - 1)) 64))) else (some 0))=some r:=H
 have A2:=zm A20
 clear A20
 by_cases c3:t251=true
 ·subst c3
  have H1:(some (wrap64 (Int.tdiv (wrap64 ((wrap64 (a0 + 64)) - 1)) 64)))=some r:=by rw [if_pos rfl] at H;exact H
  clear H
  have H:=H1
  clear H1
  obtain rfl:=Option.some.inj H
  go_enter Try.func33,Try.ntmps33
  go_wp2_with (first|((with_reducible refine gate_callee (f:=49) rfl ?_);refine goesL_ (some 4) rfl rfl Try.func49 (by kernel_rfl) rfl #[.int .i64 a0] rfl (by (try simp only [List.map_toArray,List.map_cons,List.map_nil]);first|done|rfl|(simp only [List.length_drop,List.length_take];rfl)) ?_;(with_reducible refine (mapjnl_blocks.calls a0 true _ A2.out).mono ?_);rintro e w' ⟨rfl,⟨nd,rfl⟩⟩;refine ⟨_,rfl,?_⟩))
  go_ret
  exact ⟨by first|rfl|(simp;done)|(simp [*];done),by repeat (first|exact Drawn0.refl _|apply Drawn0.step)⟩
 ·replace c3:=Bool.eq_false_iff.mpr c3
  subst c3
  have H1:(some 0)=some r:=by rw [if_neg (show ¬ (false=true) by decide)] at H;exact H
  clear H
  have H:=H1
  clear H1
  obtain rfl:=Option.some.inj H
  go_enter Try.func33,Try.ntmps33
  go_wp2_with (first|((with_reducible refine gate_callee (f:=49) rfl ?_);refine goesL_ (some 4) rfl rfl Try.func49 (by kernel_rfl) rfl #[.int .i64 a0] rfl (by (try simp only [List.map_toArray,List.map_cons,List.map_nil]);first|done|rfl|(simp only [List.length_drop,List.length_take];rfl)) ?_;(with_reducible refine (mapjnl_blocks.calls a0 false _ A2.out).mono ?_);rintro e w' ⟨rfl,⟨nd,rfl⟩⟩;refine ⟨_,rfl,?_⟩))
  go_ret
  exact ⟨by first|rfl|(simp;done)|(simp [*];done),by repeat (first|exact Drawn0.refl _|apply Drawn0.step)⟩
end Go.Proofs.Ytkhbmgclklmimaa.Print
end
