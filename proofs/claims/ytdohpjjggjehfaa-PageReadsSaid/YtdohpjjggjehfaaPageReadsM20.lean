/- Texts of the proof of PageReads, part 20. -/
import Derived.Test.YtdohpjjggjehfaaPageReadsM15
import Derived.Test.YtdohpjjggjehfaaPageReadsMA
import Derived.Test.YtdohpjjggjehfaaProg
import Derived.Below
import Derived.Deep.Draws
import Derived.Deep.AppendLies
import Derived.Maps.AppendAt
import Derived.OwnWalk
import Derived.Laws.BytesArg
import Derived.Laws.MakeOwn
import Derived.Laws.OwnMore
import Derived.Deep.OwnRows
import Derived.Tactics
import Derived.Lib.ConvBytes
import Derived.Laws.Slices
import Derived.WalkKit
import Derived.KernelRfl
import Derived.RowKit3
import Derived.Deep.LoopGhost
import Derived.Deep.QuietTactic
import Derived.BigQuiet
import Derived.WideLaws
import Derived.Deep.DeepCutAuto
import Derived.Deep.CutBlock
import Derived.Deep.RegionHeld3
import Derived.Laws.Rows
import Derived.Lib.AppendStr
import Derived.ArgAppend
import Derived.Laws.IdiomCopy
import Derived.OrdersHeld
import Derived.Laws.BitsLemmas
import Derived.RowKit
import Derived.Lib.SliceRun
import Derived.Test.YtdohpjjggjehfaaPageReadsM16
import Derived.Test.YtdohpjjggjehfaaPageReadsM12
import Derived.Laws.CopyOwn
import Derived.Test.YtdohpjjggjehfaaPageReadsM0
import Derived.Deep.RegionLaw
import Derived.Test.YtdohpjjggjehfaaPageReadsM1
import Derived.Test.YtdohpjjggjehfaaPageReadsM14
import Derived.Test.YtdohpjjggjehfaaPageReadsM2
import Derived.Test.YtdohpjjggjehfaaPageReadsM3
import Derived.Test.YtdohpjjggjehfaaPageReadsM4
import Derived.Test.YtdohpjjggjehfaaPageReadsM5
import Derived.Test.YtdohpjjggjehfaaPageReadsM6
import Derived.Test.YtdohpjjggjehfaaPageReadsM7
import Derived.Test.YtdohpjjggjehfaaPageReadsM8
import Derived.Test.YtdohpjjggjehfaaPageReadsM17
import Derived.Test.YtdohpjjggjehfaaPageReadsM18
import Derived.Test.YtdohpjjggjehfaaPageReadsM19
import Derived.Test.YtdohpjjggjehfaaPageReadsM11
import Derived.Test.YtdohpjjggjehfaaPageReadsM9
import Derived.Test.YtdohpjjggjehfaaPageReadsM10
section
namespace Go.Proofs.Ytdohpjjggjehfaa.Print
open Go.RowKit Go.Proofs.YtdohpjjggjehfaaW.PrintWords Go.Proofs.YtdohpjjggjehfaaW.PrintLast Go.Proofs.YtdohpjjggjehfaaW.PrintMore
attribute [local go_sem] max2_int min2_int max_two min_two max_three min_three max_four min_four   -- for this text's walks alone
attribute [local go_sem ↓] Go.Proofs.Ytdohpjjggjehfaa.Sem.isSome_setCell
attribute [local go_sem] Go.Instr.field Go.asAgg
set_option linter.unusedVariables false
set_option linter.unusedSimpArgs false
def errW:Option Int → Value
 | none=>.nilIface
 | some c=>.iface 0 (.int .i64 c)
theorem errW_none:errW none=.nilIface:=rfl
theorem errW_some (c:Int):errW (some c)=.iface 0 (.int .i64 c):=rfl
theorem info5:(Try.prog.info? 5).map (fun i=>(i.zero,i.size,i.bytes))=some (some (.int .u8 0),1,1):=by kernel_rfl
theorem info58:(Try.prog.info? 58).map (fun i=>(i.zero,i.size,i.bytes))=some (some (.int .u64 0),1,8):=by kernel_rfl
-- the values' own types
def rd_L3 (xs:List (List Int)) (i:Int):(List Int):=xs.getD i.toNat ([]:List Int)
theorem at_L3 {w:World} {A:Option Addr} {n:Nat} {xs:List (List Int)} (h:Kd.C (Kd.slice 5 (Kd.int .u8)) w A n xs) (i:Int) (h0:0≤i) (h1:i < n):∃ ad A0 c0,A=some ad∧w.cell? (ad.add i.toNat)=some (.slice A0 (rd_L3 xs i).length c0)∧(rd_L3 xs i).length≤c0∧(Kd.int .u8).C w A0 (rd_L3 xs i).length (rd_L3 xs i):=by
 obtain ⟨ad,c,e,_,hK,hc0⟩:=Kd.C_get h ([]:List Int) i h0 h1
 have hc:∀ j u,c[j]?=some u → w.cell? (ad.add (i.toNat * 1 + j))=some u:=hc0
 obtain ⟨A0,c0,rfl,l0,g0⟩:=hK
 exact ⟨ad,A0,c0,e,by have hq:=hc 0 _ rfl;rwa [Nat.mul_one,Nat.add_zero] at hq,l0,g0⟩
end Go.Proofs.Ytdohpjjggjehfaa.Print
end
section
namespace Go.Proofs.Ytdohpjjggjehfaa.Print
open Go.RowKit Go.Proofs.YtdohpjjggjehfaaW.PrintWords Go.Proofs.YtdohpjjggjehfaaW.PrintLast Go.Proofs.YtdohpjjggjehfaaW.PrintMore
attribute [local go_sem] max2_int min2_int max_two min_two max_three min_three max_four min_four   -- for this text's walks alone
attribute [local go_sem ↓] Go.Proofs.Ytdohpjjggjehfaa.Sem.isSome_setCell
attribute [local go_sem] Go.Instr.field Go.asAgg
set_option linter.unusedVariables false
set_option linter.unusedSimpArgs false
def bytes_Equal.f (l0:List Int) (l1:List Int):Option (Bool):=some ((strOfNums l0).toList == (strOfNums l1).toList)
set_option maxHeartbeats 8000000 in
set_option maxRecDepth 100000 in
theorem bytes_Equal.calls (A0:Option Addr) (c0:Nat) (l0:List Int) (A1:Option Addr) (c1:Nat) (l1:List Int) (r:Bool) (w:World) (hr0:Kd.C (Kd.int .u8) w A0 l0.length l0) (hc0:l0.length≤c0) (hr1:Kd.C (Kd.int .u8) w A1 l1.length l1) (hc1:l1.length≤c1) (h:bytes_Equal.f l0 l1=some r) :
  Calls Try.prog 16 #[.slice A0 l0.length c0,.slice A1 l1.length c1] w fun e w'=>e=.returned (.bool r)∧Drawn0 w w':=by
 have HR0:=zm hr0
 have HC0:=zm hc0
 clear hr0 hc0
 have HR1:=zm hr1
 have HC1:=zm hc1
 clear hr1 hc1
 have H:(some ((strOfNums l0).toList == (strOfNums l1).toList))=some r:=h
 clear h
 obtain rfl:=Option.some.inj H
 have hcv3:=Kd.C_string (P:=Try.prog) (A:=A0) (c:=c0) Try.underlying24 Try.underlying5 Try.underlying9 HR0.out
 have hcv4:=Kd.C_string (P:=Try.prog) (A:=A1) (c:=c1) Try.underlying24 Try.underlying5 Try.underlying9 HR1.out
 go_enter Try.func16,Try.ntmps16
 go_wp2
 go_ret
 exact ⟨by first|rfl|(simp;done)|(simp [*];done),by repeat (first|exact Drawn0.refl _|apply Drawn0.step)⟩
def slices_Equal_byte_byte.l0:Nat → List Int → List Int → Int → Int → Option (Bool)
 | 0,_,_,_,_=>none
 | k + 1,x0,x1,x12,x13=>if x13 < x12 then (if 0≤x13 then (if x13 < (x0.length:Int) then (if x13 < (x1.length:Int) then (if (rd x0 x13)=(rd x1 x13) then (slices_Equal_byte_byte.l0 k x0 x1 x12 (wrap64 (x13 + 1))) else (some false)) else (none)) else (none)) else (none)) else (some true)
def slices_Equal_byte_byte.f (k:Nat) (l0:List Int) (l1:List Int):Option (Bool):=if (l0.length:Int)=(l1.length:Int) then (slices_Equal_byte_byte.l0 k l0 l1 (l0.length:Int) 0) else (some false)
set_option maxHeartbeats 8000000 in
set_option maxRecDepth 100000 in
theorem slices_Equal_byte_byte.calls (k:Nat) (A0:Option Addr) (c0:Nat) (l0:List Int) (A1:Option Addr) (c1:Nat) (l1:List Int) (r:Bool) (w:World) (hr0:Kd.C (Kd.int .u8) w A0 l0.length l0) (hc0:l0.length≤c0) (hr1:Kd.C (Kd.int .u8) w A1 l1.length l1) (hc1:l1.length≤c1) (h:slices_Equal_byte_byte.f k l0 l1=some r) :
  Calls Try.prog 57 #[.slice A0 l0.length c0,.slice A1 l1.length c1] w fun e w'=>e=.returned (.bool r)∧Drawn0 w w':=by
 have HR0:=zm hr0
 have HC0:=zm hc0
 clear hr0 hc0
 have HR1:=zm hr1
 have HC1:=zm hc1
 clear hr1 hc1
 have H:(if (l0.length:Int)=(l1.length:Int) then (slices_Equal_byte_byte.l0 k l0 l1 (l0.length:Int) 0) else (some false))=some r:=h
 clear h
 by_cases c3:(l0.length:Int)=(l1.length:Int)
 ·rw [if_pos c3] at H
  have c3b0:((l0.length:Int) == (l1.length:Int))=true:=beq_iff_eq.mpr c3
  have c3b1:((l0.length:Int) != (l1.length:Int))=false:=bne_eq_false_iff_eq.mpr c3
  have c3b2:(l0.length == l1.length)=true:=by first|simpa using c3|(simp at c3 ⊢;omega)
  clear c3
  have H':=zm H
  clear H
  go_enter Try.func57,Try.ntmps57
  go_wp2
  repeat (go_quiet (fail);try go_wp2)
  go_loopg [13] k (fun kq v13 w'=>∃ (x13_1:Int),v13=.int .i64 x13_1∧Aside0 (slices_Equal_byte_byte.l0 kq l0 l1 (l0.length:Int) x13_1=some r)∧Aside0 (kq≤k)∧Drawn0 w w')
  case atStart=>exact ⟨(0),zs_,H',⟨Nat.le_refl _⟩,by repeat (first|exact Drawn0.refl _|apply Drawn0.step)⟩
  case round =>
   clear H'
   try clear c1
   try clear p2
   try clear c3
   try clear c3b0
   try clear c3b1
   try clear c3b2
   obtain ⟨x13_1,rfl,HA,HK1,⟨m1,rfl⟩⟩:=hrel
   cases gk with
   | zero=>exact absurd HA.out (by simp [slices_Equal_byte_byte.l0])
   | succ k1 =>
    have H:=HA.out
    clear HA
    simp only [slices_Equal_byte_byte.l0] at H
    by_cases c4:x13_1 < (l0.length:Int)
    ·rw [if_pos c4] at H
     have c4b0:decide (x13_1 < (l0.length:Int))=true:=decide_eq_true c4
     clear c4
     by_cases c5:0≤x13_1
     ·rw [if_pos c5] at H
      have c5b0:decide (0≤x13_1)=true:=decide_eq_true c5
      clear c5
      by_cases c6:x13_1 < (l0.length:Int)
      ·rw [if_pos c6] at H
       have c6b0:decide (x13_1 < (l0.length:Int))=true:=decide_eq_true c6
       clear c6
       by_cases c7:x13_1 < (l1.length:Int)
       ·rw [if_pos c7] at H
        have c7b0:decide (x13_1 < (l1.length:Int))=true:=decide_eq_true c7
        clear c7
        by_cases c8:(rd l0 x13_1)=(rd l1 x13_1)
        ·rw [if_pos c8] at H
         have c8b0:((rd l0 x13_1) == (rd l1 x13_1))=true:=beq_iff_eq.mpr c8
         have c8b1:((rd l0 x13_1) != (rd l1 x13_1))=false:=bne_eq_false_iff_eq.mpr c8
         clear c8
         have H':=zm H
         clear H
         have p147:0≤(x13_1:Int):=za_
         have q147:x13_1 < (l0.length:Int):=za_
         obtain ⟨ad147,e147,hx147_0⟩:=Kd.at_int HR0.out x13_1 p147 q147
         cases e147
         replace p147:=eq_true p147
         replace q147:=eq_true q147
         have p148:0≤(x13_1:Int):=za_
         have q148:x13_1 < (l1.length:Int):=za_
         obtain ⟨ad148,e148,hx148_0⟩:=Kd.at_int HR1.out x13_1 p148 q148
         cases e148
         replace p148:=eq_true p148
         replace q148:=eq_true q148
         go_wp2
         repeat (go_quiet (fail);try go_wp2)
         go_roundg k1
         case measure=>have:=HK1.out;omega
         case rel=>exact ⟨(wrap64 (x13_1 + 1)),zs_,H',⟨by have:=HK1.out;omega⟩,by repeat (first|exact Drawn0.refl _|apply Drawn0.step)⟩
        ·rw [if_neg c8] at H
         have c8b0:((rd l0 x13_1) == (rd l1 x13_1))=false:=beq_eq_false_iff_ne.mpr c8
         have c8b1:((rd l0 x13_1) != (rd l1 x13_1))=true:=bne_iff_ne.mpr c8
         obtain rfl:=Option.some.inj H
         have p147:0≤(x13_1:Int):=za_
         have q147:x13_1 < (l0.length:Int):=za_
         obtain ⟨ad147,e147,hx147_0⟩:=Kd.at_int HR0.out x13_1 p147 q147
         cases e147
         replace p147:=eq_true p147
         replace q147:=eq_true q147
         have p148:0≤(x13_1:Int):=za_
         have q148:x13_1 < (l1.length:Int):=za_
         obtain ⟨ad148,e148,hx148_0⟩:=Kd.at_int HR1.out x13_1 p148 q148
         cases e148
         replace p148:=eq_true p148
         replace q148:=eq_true q148
         go_wp2
         repeat (go_quiet (fail);try go_wp2)
         go_ret
         exact ⟨by first|rfl|(simp;done)|(simp [*];done),by repeat (first|exact Drawn0.refl _|apply Drawn0.step)⟩
       ·rw [if_neg c7] at H
        exact absurd H (by simp)
      ·rw [if_neg c6] at H
       exact absurd H (by simp)
     ·rw [if_neg c5] at H
      exact absurd H (by simp)
    ·rw [if_neg c4] at H
     have c4b0:decide (x13_1 < (l0.length:Int))=false:=decide_eq_false c4
     clear c4
     obtain rfl:=Option.some.inj H
     go_wp2
     repeat (go_quiet (fail);try go_wp2)
     go_ret
     exact ⟨by first|rfl|(simp;done)|(simp [*];done),by repeat (first|exact Drawn0.refl _|apply Drawn0.step)⟩
 ·rw [if_neg c3] at H
  have c3b0:((l0.length:Int) == (l1.length:Int))=false:=beq_eq_false_iff_ne.mpr c3
  have c3b1:((l0.length:Int) != (l1.length:Int))=true:=bne_iff_ne.mpr c3
  have c3b2:(l0.length == l1.length)=false:=by first|simpa using c3|(simp at c3 ⊢;omega)
  obtain rfl:=Option.some.inj H
  go_enter Try.func57,Try.ntmps57
  go_wp2
  repeat (go_quiet (fail);try go_wp2)
  go_ret
  exact ⟨by first|rfl|(simp;done)|(simp [*];done),by repeat (first|exact Drawn0.refl _|apply Drawn0.step)⟩
end Go.Proofs.Ytdohpjjggjehfaa.Print
end
section
namespace Go.Proofs.Ytdohpjjggjehfaa.Print
open Go.RowKit Go.Proofs.YtdohpjjggjehfaaW.PrintWords Go.Proofs.YtdohpjjggjehfaaW.PrintLast Go.Proofs.YtdohpjjggjehfaaW.PrintMore
attribute [local go_sem] max2_int min2_int max_two min_two max_three min_three max_four min_four   -- for this text's walks alone
attribute [local go_sem ↓] Go.Proofs.Ytdohpjjggjehfaa.Sem.isSome_setCell
attribute [local go_sem] Go.Instr.field Go.asAgg
set_option linter.unusedVariables false
set_option linter.unusedSimpArgs false
mutual
def page_Check.j0:Nat → Bool → Int → Int → Int → Int → Option (Int)
 | 0,_,_,_,_,_=>none
 | k + 1,x3,x102000,x102001,x102002,x102003=>if x3=true then (some 30) else (if x102003 < x102002 then (page_Check.j1 k true x102000 x102001 x102002 x102003) else (if x102003 > 1152921504606846976 then (page_Check.j1 k true x102000 x102001 x102002 x102003) else (if x102000=1 then (page_Check.j1 k false x102000 x102001 x102002 x102003) else (page_Check.j1 k (x102003 != x102002) x102000 x102001 x102002 x102003))))
def page_Check.j1:Nat → Bool → Int → Int → Int → Int → Option (Int)
 | 0,_,_,_,_,_=>none
 | k + 1,x17,x102000,x102001,x102002,x102003=>if x17=true then (some 30) else (if x102001 < 0 then (some 30) else (if x102001 ≥ 1048576 then (some 30) else (if x102002 < 1 then (some 30) else (if x102002 > 1152921504606846976 then (some 30) else (some 0)))))
end
def page_Check.f (k:Nat) (a0_0:Int) (a0_1:Int) (a0_2:Int) (a0_3:Int):Option (Int):=if a0_0=1 then (page_Check.j0 k false a0_0 a0_1 a0_2 a0_3) else (if a0_0=2 then (page_Check.j0 k false a0_0 a0_1 a0_2 a0_3) else (page_Check.j0 k (a0_0 != 3) a0_0 a0_1 a0_2 a0_3))
set_option maxHeartbeats 8000000 in
set_option maxRecDepth 100000 in
theorem page_Check.calls (k:Nat) (a0_0:Int) (a0_1:Int) (a0_2:Int) (a0_3:Int) (r:Int) (w:World) (h:page_Check.f k a0_0 a0_1 a0_2 a0_3=some r) :
  Calls Try.prog 12 #[.agg #[.int .i64 a0_0,.int .i64 a0_1,.int .i64 a0_2,.int .i64 a0_3]] w fun e w'=>e=.returned (.int .i64 r)∧Below w.heap.size w w':=by
 have hu23:=Try.underlying23
 have HB:=zm (Below.refl w.heap.size w)
 have H:(if a0_0=1 then (page_Check.j0 k false a0_0 a0_1 a0_2 a0_3) else (if a0_0=2 then (page_Check.j0 k false a0_0 a0_1 a0_2 a0_3) else (page_Check.j0 k (a0_0 != 3) a0_0 a0_1 a0_2 a0_3)))=some r:=h
 clear h
 have HC2:=zm H
 clear H
 go_enter Try.func12,Try.ntmps12
 go_upto_region 1 with (first|((with_reducible refine gate_dst (N:=1) rfl ?_);refine zbx 1 #[.int .i64 a0_0,.int .i64 a0_1,.int .i64 a0_2,.int .i64 a0_3] 23 ?_;intro gb101 hg w3 hbox hb;have n0_:=zkH HB hb;have n1_:=zm (hbox);have n2_:=zkG HB hg;have n3_:=zkG HB hg;clear HB;have HB:=n0_;have BK101:=n1_;have GW101:=n2_;have GE101:=n3_;clear n0_ n1_ n2_ n3_;clear hb hbox hg))
 (try simp only [Act.put,List.setIfInBounds_toArray,List.set_cons_zero,List.set_cons_succ])
 go_cut [3] (fun v3 wc=>∃ (kq:Nat) (x3_1:Bool),v3=.bool x3_1∧Aside0 (page_Check.j0 kq x3_1 a0_0 a0_1 a0_2 a0_3=some r)∧Aside0 (kq≤k)∧Aside0 (wc.heap[gb101]?=some (.cells #[.int .i64 a0_0,.int .i64 a0_1,.int .i64 a0_2,.int .i64 a0_3] 23 (0,0)))∧Aside0 (Below w.heap.size w wc))
 case first =>
  have H:=HC2.out
  clear HC2
  by_cases c4:a0_0=1
  ·rw [if_pos c4] at H
   have c4b0:(a0_0 == 1)=true:=beq_iff_eq.mpr c4
   have c4b1:(a0_0 != 1)=false:=bne_eq_false_iff_eq.mpr c4
   clear c4
   (first|rw [c4b0]|(simp only [i64_w,i32_w];rw [c4b0])|skip)
   have H':=zm H
   clear H
   have hcz5_0:w3.cell? ⟨gb101,0,none⟩=some (.int .i64 a0_0):=(blk_cell BK101.out 0).trans rfl
   have hcz5_1:w3.cell? ⟨gb101,1,none⟩=some (.int .i64 a0_1):=(blk_cell BK101.out 1).trans rfl
   have hcz5_2:w3.cell? ⟨gb101,2,none⟩=some (.int .i64 a0_2):=(blk_cell BK101.out 2).trans rfl
   have hcz5_3:w3.cell? ⟨gb101,3,none⟩=some (.int .i64 a0_3):=(blk_cell BK101.out 3).trans rfl
   have hfz5_0:=blk_frozen BK101.out 0
   have hfz5_1:=blk_frozen BK101.out 1
   have hfz5_2:=blk_frozen BK101.out 2
   have hfz5_3:=blk_frozen BK101.out 3
   go_wp2
   go_meet
   case rel=>exact ⟨_,(false),zs_,H',⟨by first|omega|exact Nat.le_refl _⟩,⟨zx_⟩,⟨zb_⟩⟩
  ·rw [if_neg c4] at H
   have c4b0:(a0_0 == 1)=false:=beq_eq_false_iff_ne.mpr c4
   have c4b1:(a0_0 != 1)=true:=bne_iff_ne.mpr c4
   (first|rw [c4b0]|(simp only [i64_w,i32_w];rw [c4b0])|skip)
   by_cases c6:a0_0=2
   ·rw [if_pos c6] at H
    have c6b0:(a0_0 == 2)=true:=beq_iff_eq.mpr c6
    have c6b1:(a0_0 != 2)=false:=bne_eq_false_iff_eq.mpr c6
    clear c6
    have H':=zm H
    clear H
    have hcz7_0:w3.cell? ⟨gb101,0,none⟩=some (.int .i64 a0_0):=(blk_cell BK101.out 0).trans rfl
    have hcz7_1:w3.cell? ⟨gb101,1,none⟩=some (.int .i64 a0_1):=(blk_cell BK101.out 1).trans rfl
    have hcz7_2:w3.cell? ⟨gb101,2,none⟩=some (.int .i64 a0_2):=(blk_cell BK101.out 2).trans rfl
    have hcz7_3:w3.cell? ⟨gb101,3,none⟩=some (.int .i64 a0_3):=(blk_cell BK101.out 3).trans rfl
    have hfz7_0:=blk_frozen BK101.out 0
    have hfz7_1:=blk_frozen BK101.out 1
    have hfz7_2:=blk_frozen BK101.out 2
    have hfz7_3:=blk_frozen BK101.out 3
    go_wp2
    go_meet
    case rel=>exact ⟨_,(false),zs_,H',⟨by first|omega|exact Nat.le_refl _⟩,⟨zx_⟩,⟨zb_⟩⟩
   ·rw [if_neg c6] at H
    have c6b0:(a0_0 == 2)=false:=beq_eq_false_iff_ne.mpr c6
    have c6b1:(a0_0 != 2)=true:=bne_iff_ne.mpr c6
    have H':=zm H
    clear H
    have hcz8_0:w3.cell? ⟨gb101,0,none⟩=some (.int .i64 a0_0):=(blk_cell BK101.out 0).trans rfl
    have hcz8_1:w3.cell? ⟨gb101,1,none⟩=some (.int .i64 a0_1):=(blk_cell BK101.out 1).trans rfl
    have hcz8_2:w3.cell? ⟨gb101,2,none⟩=some (.int .i64 a0_2):=(blk_cell BK101.out 2).trans rfl
    have hcz8_3:w3.cell? ⟨gb101,3,none⟩=some (.int .i64 a0_3):=(blk_cell BK101.out 3).trans rfl
    have hfz8_0:=blk_frozen BK101.out 0
    have hfz8_1:=blk_frozen BK101.out 1
    have hfz8_2:=blk_frozen BK101.out 2
    have hfz8_3:=blk_frozen BK101.out 3
    go_wp2
    go_meet
    case rel=>exact ⟨_,((a0_0 != 3)),zs_,H',⟨by first|omega|exact Nat.le_refl _⟩,⟨zx_⟩,⟨zb_⟩⟩
 case rest =>
  clear HC2
  try clear c1
  try clear p2
  try clear c4
  try clear c4b0
  try clear c4b1
  try clear c6
  try clear c6b0
  try clear c6b1
  try clear hcz5_0
  try clear hcz5_1
  try clear hcz5_2
  try clear hcz5_3
  try clear hcz7_0
  try clear hcz7_1
  try clear hcz7_2
  try clear hcz7_3
  try clear hcz8_0
  try clear hcz8_1
  try clear hcz8_2
  try clear hcz8_3
  try clear hfz5_0
  try clear hfz5_1
  try clear hfz5_2
  try clear hfz5_3
  try clear hfz7_0
  try clear hfz7_1
  try clear hfz7_2
  try clear hfz7_3
  try clear hfz8_0
  try clear hfz8_1
  try clear hfz8_2
  try clear hfz8_3
  obtain ⟨kq,x3_1,rfl,HA,HJ1,BK101,HB⟩:=hcut
  cases kq with
  | zero=>exact absurd HA.out (by simp [page_Check.j0])
  | succ kj1 =>
   have H:=HA.out
   clear HA
   simp only [page_Check.j0] at H
   by_cases c9:x3_1=true
   ·subst c9
    have H1:(some 30)=some r:=by rw [if_pos rfl] at H;exact H
    clear H
    have H:=H1
    clear H1
    obtain rfl:=Option.some.inj H
    go_wp2
    go_ret
    exact ⟨ze_,zb_⟩
   ·replace c9:=Bool.eq_false_iff.mpr c9
    subst c9
    have H1:(if a0_3 < a0_2 then (page_Check.j1 kj1 true a0_0 a0_1 a0_2 a0_3) else (if a0_3 > 1152921504606846976 then (page_Check.j1 kj1 true a0_0 a0_1 a0_2 a0_3) else (if a0_0=1 then (page_Check.j1 kj1 false a0_0 a0_1 a0_2 a0_3) else (page_Check.j1 kj1 (a0_3 != a0_2) a0_0 a0_1 a0_2 a0_3))))=some r:=by rw [if_neg (show ¬ (false=true) by decide)] at H;exact H
    clear H
    have H:=H1
    clear H1
    have HC10:=zm H
    clear H
    go_upto_region 3 with (fail)
    go_cut [17] (fun v17 wc=>∃ (kq:Nat) (x17_9:Bool),v17=.bool x17_9∧Aside0 (page_Check.j1 kq x17_9 a0_0 a0_1 a0_2 a0_3=some r)∧Aside0 (kq≤kj1)∧Aside0 (wc.heap[gb101]?=some (.cells #[.int .i64 a0_0,.int .i64 a0_1,.int .i64 a0_2,.int .i64 a0_3] 23 (0,0)))∧Aside0 (Below w.heap.size w wc))
    case first =>
     have H:=HC10.out
     clear HC10
     by_cases c11:a0_3 < a0_2
     ·rw [if_pos c11] at H
      have c11b0:decide (a0_3 < a0_2)=true:=decide_eq_true c11
      clear c11
      (first|rw [c11b0]|(simp only [i64_w,i32_w];rw [c11b0])|skip)
      have H':=zm H
      clear H
      have hcz12_0:wc.cell? ⟨gb101,0,none⟩=some (.int .i64 a0_0):=(blk_cell BK101.out 0).trans rfl
      have hcz12_1:wc.cell? ⟨gb101,1,none⟩=some (.int .i64 a0_1):=(blk_cell BK101.out 1).trans rfl
      have hcz12_2:wc.cell? ⟨gb101,2,none⟩=some (.int .i64 a0_2):=(blk_cell BK101.out 2).trans rfl
      have hcz12_3:wc.cell? ⟨gb101,3,none⟩=some (.int .i64 a0_3):=(blk_cell BK101.out 3).trans rfl
      have hfz12_0:=blk_frozen BK101.out 0
      have hfz12_1:=blk_frozen BK101.out 1
      have hfz12_2:=blk_frozen BK101.out 2
      have hfz12_3:=blk_frozen BK101.out 3
      go_wp2
      go_meet
      case rel=>exact ⟨_,(true),zs_,H',⟨by have:=HJ1.out;first|omega|exact Nat.le_refl _⟩,⟨zx_⟩,⟨zb_⟩⟩
     ·rw [if_neg c11] at H
      have c11b0:decide (a0_3 < a0_2)=false:=decide_eq_false c11
      clear c11
      (first|rw [c11b0]|(simp only [i64_w,i32_w];rw [c11b0])|skip)
      by_cases c13:a0_3 > 1152921504606846976
      ·rw [if_pos c13] at H
       have c13b0:decide (1152921504606846976 < a0_3)=true:=decide_eq_true c13
       clear c13
       have H':=zm H
       clear H
       have hcz14_0:wc.cell? ⟨gb101,0,none⟩=some (.int .i64 a0_0):=(blk_cell BK101.out 0).trans rfl
       have hcz14_1:wc.cell? ⟨gb101,1,none⟩=some (.int .i64 a0_1):=(blk_cell BK101.out 1).trans rfl
       have hcz14_2:wc.cell? ⟨gb101,2,none⟩=some (.int .i64 a0_2):=(blk_cell BK101.out 2).trans rfl
       have hcz14_3:wc.cell? ⟨gb101,3,none⟩=some (.int .i64 a0_3):=(blk_cell BK101.out 3).trans rfl
       have hfz14_0:=blk_frozen BK101.out 0
       have hfz14_1:=blk_frozen BK101.out 1
       have hfz14_2:=blk_frozen BK101.out 2
       have hfz14_3:=blk_frozen BK101.out 3
       go_wp2
       go_meet
       case rel=>exact ⟨_,(true),zs_,H',⟨by have:=HJ1.out;first|omega|exact Nat.le_refl _⟩,⟨zx_⟩,⟨zb_⟩⟩
      ·rw [if_neg c13] at H
       have c13b0:decide (1152921504606846976 < a0_3)=false:=decide_eq_false c13
       clear c13
       by_cases c15:a0_0=1
       ·rw [if_pos c15] at H
        have c15b0:(a0_0 == 1)=true:=beq_iff_eq.mpr c15
        have c15b1:(a0_0 != 1)=false:=bne_eq_false_iff_eq.mpr c15
        clear c15
        have H':=zm H
        clear H
        have hcz16_0:wc.cell? ⟨gb101,0,none⟩=some (.int .i64 a0_0):=(blk_cell BK101.out 0).trans rfl
        have hcz16_1:wc.cell? ⟨gb101,1,none⟩=some (.int .i64 a0_1):=(blk_cell BK101.out 1).trans rfl
        have hcz16_2:wc.cell? ⟨gb101,2,none⟩=some (.int .i64 a0_2):=(blk_cell BK101.out 2).trans rfl
        have hcz16_3:wc.cell? ⟨gb101,3,none⟩=some (.int .i64 a0_3):=(blk_cell BK101.out 3).trans rfl
        have hfz16_0:=blk_frozen BK101.out 0
        have hfz16_1:=blk_frozen BK101.out 1
        have hfz16_2:=blk_frozen BK101.out 2
        have hfz16_3:=blk_frozen BK101.out 3
        go_wp2
        go_meet
        case rel=>exact ⟨_,(false),zs_,H',⟨by have:=HJ1.out;first|omega|exact Nat.le_refl _⟩,⟨zx_⟩,⟨zb_⟩⟩
       ·rw [if_neg c15] at H
        have c15b0:(a0_0 == 1)=false:=beq_eq_false_iff_ne.mpr c15
        have c15b1:(a0_0 != 1)=true:=bne_iff_ne.mpr c15
        have H':=zm H
        clear H
        have hcz17_0:wc.cell? ⟨gb101,0,none⟩=some (.int .i64 a0_0):=(blk_cell BK101.out 0).trans rfl
        have hcz17_1:wc.cell? ⟨gb101,1,none⟩=some (.int .i64 a0_1):=(blk_cell BK101.out 1).trans rfl
        have hcz17_2:wc.cell? ⟨gb101,2,none⟩=some (.int .i64 a0_2):=(blk_cell BK101.out 2).trans rfl
        have hcz17_3:wc.cell? ⟨gb101,3,none⟩=some (.int .i64 a0_3):=(blk_cell BK101.out 3).trans rfl
        have hfz17_0:=blk_frozen BK101.out 0
        have hfz17_1:=blk_frozen BK101.out 1
        have hfz17_2:=blk_frozen BK101.out 2
        have hfz17_3:=blk_frozen BK101.out 3
        go_wp2
        go_meet
        case rel=>exact ⟨_,((a0_3 != a0_2)),zs_,H',⟨by have:=HJ1.out;first|omega|exact Nat.le_refl _⟩,⟨zx_⟩,⟨zb_⟩⟩
    case rest =>
     clear HC10
     try clear c1
     try clear p2
     try clear c4
     try clear c4b0
     try clear c4b1
     try clear c6
     try clear c6b0
     try clear c6b1
     try clear c9
     try clear c11
     try clear c11b0
     try clear c12
     try clear c13
     try clear c13b0
     try clear c15
     try clear c15b0
     try clear c15b1
     try clear hcz12_0
     try clear hcz12_1
     try clear hcz12_2
     try clear hcz12_3
     try clear hcz14_0
     try clear hcz14_1
     try clear hcz14_2
     try clear hcz14_3
     try clear hcz16_0
     try clear hcz16_1
     try clear hcz16_2
     try clear hcz16_3
     try clear hcz17_0
     try clear hcz17_1
     try clear hcz17_2
     try clear hcz17_3
     try clear hcz5_0
     try clear hcz5_1
     try clear hcz5_2
     try clear hcz5_3
     try clear hcz7_0
     try clear hcz7_1
     try clear hcz7_2
     try clear hcz7_3
     try clear hcz8_0
     try clear hcz8_1
     try clear hcz8_2
     try clear hcz8_3
     try clear hfz12_0
     try clear hfz12_1
     try clear hfz12_2
     try clear hfz12_3
     try clear hfz14_0
     try clear hfz14_1
     try clear hfz14_2
     try clear hfz14_3
     try clear hfz16_0
     try clear hfz16_1
     try clear hfz16_2
     try clear hfz16_3
     try clear hfz17_0
     try clear hfz17_1
     try clear hfz17_2
     try clear hfz17_3
     try clear hfz5_0
     try clear hfz5_1
     try clear hfz5_2
     try clear hfz5_3
     try clear hfz7_0
     try clear hfz7_1
     try clear hfz7_2
     try clear hfz7_3
     try clear hfz8_0
     try clear hfz8_1
     try clear hfz8_2
     try clear hfz8_3
     try clear p2
     obtain ⟨kq,x17_9,rfl,HA,HJ9,BK101,HB⟩:=hcut
     cases kq with
     | zero=>exact absurd HA.out (by simp [page_Check.j1])
     | succ kj9 =>
      have H:=HA.out
      clear HA
      simp only [page_Check.j1] at H
      by_cases c18:x17_9=true
      ·subst c18
       have H1:(some 30)=some r:=by rw [if_pos rfl] at H;exact H
       clear H
       have H:=H1
       clear H1
       obtain rfl:=Option.some.inj H
       go_wp2
       go_ret
       exact ⟨ze_,zb_⟩
      ·replace c18:=Bool.eq_false_iff.mpr c18
       subst c18
       have H1:(if a0_1 < 0 then (some 30) else (if a0_1 ≥ 1048576 then (some 30) else (if a0_2 < 1 then (some 30) else (if a0_2 > 1152921504606846976 then (some 30) else (some 0)))))=some r:=by rw [if_neg (show ¬ (false=true) by decide)] at H;exact H
       clear H
       have H:=H1
       clear H1
       by_cases c19:a0_1 < 0
       ·rw [if_pos c19] at H
        have c19b0:decide (a0_1 < 0)=true:=decide_eq_true c19
        clear c19
        obtain rfl:=Option.some.inj H
        have hcz20_0:wc.cell? ⟨gb101,0,none⟩=some (.int .i64 a0_0):=(blk_cell BK101.out 0).trans rfl
        have hcz20_1:wc.cell? ⟨gb101,1,none⟩=some (.int .i64 a0_1):=(blk_cell BK101.out 1).trans rfl
        have hcz20_2:wc.cell? ⟨gb101,2,none⟩=some (.int .i64 a0_2):=(blk_cell BK101.out 2).trans rfl
        have hcz20_3:wc.cell? ⟨gb101,3,none⟩=some (.int .i64 a0_3):=(blk_cell BK101.out 3).trans rfl
        have hfz20_0:=blk_frozen BK101.out 0
        have hfz20_1:=blk_frozen BK101.out 1
        have hfz20_2:=blk_frozen BK101.out 2
        have hfz20_3:=blk_frozen BK101.out 3
        go_wp2
        go_ret
        exact ⟨ze_,zb_⟩
       ·rw [if_neg c19] at H
        have c19b0:decide (a0_1 < 0)=false:=decide_eq_false c19
        clear c19
        by_cases c21:a0_1 ≥ 1048576
        ·rw [if_pos c21] at H
         have c21b0:decide (1048576≤a0_1)=true:=decide_eq_true c21
         clear c21
         obtain rfl:=Option.some.inj H
         have hcz22_0:wc.cell? ⟨gb101,0,none⟩=some (.int .i64 a0_0):=(blk_cell BK101.out 0).trans rfl
         have hcz22_1:wc.cell? ⟨gb101,1,none⟩=some (.int .i64 a0_1):=(blk_cell BK101.out 1).trans rfl
         have hcz22_2:wc.cell? ⟨gb101,2,none⟩=some (.int .i64 a0_2):=(blk_cell BK101.out 2).trans rfl
         have hcz22_3:wc.cell? ⟨gb101,3,none⟩=some (.int .i64 a0_3):=(blk_cell BK101.out 3).trans rfl
         have hfz22_0:=blk_frozen BK101.out 0
         have hfz22_1:=blk_frozen BK101.out 1
         have hfz22_2:=blk_frozen BK101.out 2
         have hfz22_3:=blk_frozen BK101.out 3
         go_wp2
         go_ret
         exact ⟨ze_,zb_⟩
        ·rw [if_neg c21] at H
         have c21b0:decide (1048576≤a0_1)=false:=decide_eq_false c21
         clear c21
         by_cases c23:a0_2 < 1
         ·rw [if_pos c23] at H
          have c23b0:decide (a0_2 < 1)=true:=decide_eq_true c23
          clear c23
          obtain rfl:=Option.some.inj H
          have hcz24_0:wc.cell? ⟨gb101,0,none⟩=some (.int .i64 a0_0):=(blk_cell BK101.out 0).trans rfl
          have hcz24_1:wc.cell? ⟨gb101,1,none⟩=some (.int .i64 a0_1):=(blk_cell BK101.out 1).trans rfl
          have hcz24_2:wc.cell? ⟨gb101,2,none⟩=some (.int .i64 a0_2):=(blk_cell BK101.out 2).trans rfl
          have hcz24_3:wc.cell? ⟨gb101,3,none⟩=some (.int .i64 a0_3):=(blk_cell BK101.out 3).trans rfl
          have hfz24_0:=blk_frozen BK101.out 0
          have hfz24_1:=blk_frozen BK101.out 1
          have hfz24_2:=blk_frozen BK101.out 2
          have hfz24_3:=blk_frozen BK101.out 3
          go_wp2
          go_ret
          exact ⟨ze_,zb_⟩
         ·rw [if_neg c23] at H
          have c23b0:decide (a0_2 < 1)=false:=decide_eq_false c23
          clear c23
          by_cases c25:a0_2 > 1152921504606846976
          ·rw [if_pos c25] at H
           have c25b0:decide (1152921504606846976 < a0_2)=true:=decide_eq_true c25
           clear c25
           obtain rfl:=Option.some.inj H
           have hcz26_0:wc.cell? ⟨gb101,0,none⟩=some (.int .i64 a0_0):=(blk_cell BK101.out 0).trans rfl
           have hcz26_1:wc.cell? ⟨gb101,1,none⟩=some (.int .i64 a0_1):=(blk_cell BK101.out 1).trans rfl
           have hcz26_2:wc.cell? ⟨gb101,2,none⟩=some (.int .i64 a0_2):=(blk_cell BK101.out 2).trans rfl
           have hcz26_3:wc.cell? ⟨gb101,3,none⟩=some (.int .i64 a0_3):=(blk_cell BK101.out 3).trans rfl
           have hfz26_0:=blk_frozen BK101.out 0
           have hfz26_1:=blk_frozen BK101.out 1
           have hfz26_2:=blk_frozen BK101.out 2
           have hfz26_3:=blk_frozen BK101.out 3
           go_wp2
           go_ret
           exact ⟨ze_,zb_⟩
          ·rw [if_neg c25] at H
           have c25b0:decide (1152921504606846976 < a0_2)=false:=decide_eq_false c25
           clear c25
           obtain rfl:=Option.some.inj H
           have hcz27_0:wc.cell? ⟨gb101,0,none⟩=some (.int .i64 a0_0):=(blk_cell BK101.out 0).trans rfl
           have hcz27_1:wc.cell? ⟨gb101,1,none⟩=some (.int .i64 a0_1):=(blk_cell BK101.out 1).trans rfl
           have hcz27_2:wc.cell? ⟨gb101,2,none⟩=some (.int .i64 a0_2):=(blk_cell BK101.out 2).trans rfl
           have hcz27_3:wc.cell? ⟨gb101,3,none⟩=some (.int .i64 a0_3):=(blk_cell BK101.out 3).trans rfl
           have hfz27_0:=blk_frozen BK101.out 0
           have hfz27_1:=blk_frozen BK101.out 1
           have hfz27_2:=blk_frozen BK101.out 2
           have hfz27_3:=blk_frozen BK101.out 3
           go_wp2
           go_ret
           exact ⟨ze_,zb_⟩
end Go.Proofs.Ytdohpjjggjehfaa.Print
end
section
namespace Go.Proofs.Ytdohpjjggjehfaa.Print
open Go.RowKit Go.Proofs.YtdohpjjggjehfaaW.PrintWords Go.Proofs.YtdohpjjggjehfaaW.PrintLast Go.Proofs.YtdohpjjggjehfaaW.PrintMore
attribute [local go_sem] max2_int min2_int max_two min_two max_three min_three max_four min_four   -- for this text's walks alone
attribute [local go_sem ↓] Go.Proofs.Ytdohpjjggjehfaa.Sem.isSome_setCell
attribute [local go_sem] Go.Instr.field Go.asAgg
set_option linter.unusedVariables false
set_option linter.unusedSimpArgs false
def page_widths.f :Option (List Int):=some (([8,8,32,64,64]:List Int))
set_option maxHeartbeats 8000000 in
set_option maxRecDepth 100000 in
theorem page_widths.calls  (r:List Int) (w:World) (h:page_widths.f =some r) :
  Calls Try.prog 30 #[] w fun e w'=>∃ v0_:Value,e=.returned (v0_)∧Kd.R (Kd.int .i64) 3 w' w.heap.size (fun _=>True) v0_ r∧Below w.heap.size w w':=by
 have HB:=zm (Below.refl w.heap.size w)
 have H:(some (([8,8,32,64,64]:List Int)))=some r:=h
 clear h
 obtain ⟨y116,hy116⟩:∃ y_:List Int,y_=(([8,8,32,64,64]:List Int)):=⟨_,rfl⟩
 replace H:(some y116)=some r:=by first|(rw [hy116];with_reducible exact H)|(have H2_:=(Option.bind_some _ _).symm.trans H;rw [hy116];with_reducible exact H2_)|(have H2_:=(Option.bind_some _ _).symm.trans H;with_reducible exact H2_)|with_reducible exact H|(rw [hy116];exact H)|exact H
 have Ny116:=zm hy116
 clear hy116
 obtain rfl:=Option.some.inj H
 go_enter Try.func30,Try.ntmps30
 go_wp2_with (first|((with_reducible refine gate_dst (N:=1) rfl ?_);refine Kd.R_lit (Kd.int .i64) _ 3 ?hg (N:=1) ?hd (xs:=([8,8,32,64,64]:List Int)) (inner:=[.int .i64 8,.int .i64 8,.int .i64 32,.int .i64 64,.int .i64 64]) (ok:=fun _=>True) (okp:=fun _=>True) ?hr ?hp (fun _ hk=>hk) trivial (Below.refl _ _) (Nat.le_refl _) (by simp) ?_;(case hd=>rfl);(case hg=>rfl);(case hr=>first|(go_simp;done)|(go_simp;rfl));(case hp=>exact (Reps.one (show Kd.M (Kd.int .i64) _ _ _ 8 [.int .i64 8] from rfl) (Reps.one (show Kd.M (Kd.int .i64) _ _ _ 8 [.int .i64 8] from rfl) (Reps.one (show Kd.M (Kd.int .i64) _ _ _ 32 [.int .i64 32] from rfl) (Reps.one (show Kd.M (Kd.int .i64) _ _ _ 64 [.int .i64 64] from rfl) (Reps.one (show Kd.M (Kd.int .i64) _ _ _ 64 [.int .i64 64] from rfl) (Reps.none _ _)))))));intro v117 w1 ho2 hb hg_ hnew_;clear hg_ hnew_;(first|rw [← Ny116.out] at ho2|(simp only [Int.reduceToNat] at ho2;rw [← Ny116.out] at ho2));have n0_:=zm (Kd.R_lower ho2 (below_size (zb_)));have n1_:=zkH HB hb;clear HB;have HO118:=n0_;have HB:=n1_;clear n0_ n1_;clear hb ho2))
 go_ret
 exact ⟨_,ze_,by (with_reducible repeat (first|apply zrA|apply zrN|apply zrD));exact HO118.out,zb_⟩
def slices_Grow_byte_byte.f (l0:List Int) (a1:Int):Option (List Int):=if a1 < 0 then (none) else (if (wrap64 (a1)) > 0 then (if 0≤(wrap64 (a1)) then (if ([]:List Int).length + (wrap64 (a1):Int).toNat < 140737488355328 then ((some (([]:List Int) ++ List.replicate (wrap64 (a1):Int).toNat 0:List Int)).bind fun y119=>(if 0≤(y119.length:Int) then (some (y119.take (0:Int).toNat)) else (none))) else (none)) else (none)) else (some ([]:List Int)))
set_option maxHeartbeats 8000000 in
set_option maxRecDepth 100000 in
theorem slices_Grow_byte_byte.calls (A0:Option Addr) (c0:Nat) (l0:List Int) (a1:Int) (r:List Int) (w:World) (hr0:Kd.C (Kd.int .u8) w A0 l0.length l0) (hc0:l0.length≤c0) (h:slices_Grow_byte_byte.f l0 a1=some r) :
  Calls Try.prog 53 #[.slice none 0 0,.int .i64 a1] w fun e w'=>∃ v0_:Value,e=.returned (v0_)∧Kd.R (Kd.int .u8) 5 w' w.heap.size (fun _=>True) v0_ r∧Below w.heap.size w w':=by
 have HR0:=zm hr0
 have HC0:=zm hc0
 clear hr0 hc0
 have HB:=zm (Below.refl w.heap.size w)
 have H:(if a1 < 0 then (none) else (if (wrap64 (a1)) > 0 then (if 0≤(wrap64 (a1)) then (if ([]:List Int).length + (wrap64 (a1):Int).toNat < 140737488355328 then ((some (([]:List Int) ++ List.replicate (wrap64 (a1):Int).toNat 0:List Int)).bind fun y119=>(if 0≤(y119.length:Int) then (some (y119.take (0:Int).toNat)) else (none))) else (none)) else (none)) else (some ([]:List Int))))=some r:=h
 clear h
 by_cases c3:a1 < 0
 ·rw [if_pos c3] at H
  exact absurd H (by simp)
 ·rw [if_neg c3] at H
  have c3b0:decide (a1 < 0)=false:=decide_eq_false c3
  clear c3
  by_cases c4:(wrap64 (a1)) > 0
  ·rw [if_pos c4] at H
   have c4b0:decide (0 < (wrap64 (a1)))=true:=decide_eq_true c4
   clear c4
   obtain ⟨ji5,hji5⟩:∃ j_:Int,(wrap64 (a1))=j_:=⟨_,rfl⟩
   replace H:(if 0≤(ji5) then (if ([]:List Int).length + (ji5:Int).toNat < 140737488355328 then ((some (([]:List Int) ++ List.replicate (ji5:Int).toNat 0:List Int)).bind fun y119=>(if 0≤(y119.length:Int) then (some (y119.take (0:Int).toNat)) else (none))) else (none)) else (none))=some r:=by first|(rw [hji5] at H;exact H)|(simp only [hji5] at H ⊢;exact H)
   (try rw [hji5] at c4b0)
   have hji5w:(IntKind.i64.wrap (a1))=ji5:=(i64_w _).trans hji5
   by_cases c6:0≤(ji5)
   ·rw [if_pos c6] at H
    have c6b0:=eq_true c6
    have c6b1:decide (0≤(ji5))=true:=decide_eq_true c6
    clear c6
    by_cases c7:([]:List Int).length + (ji5:Int).toNat < 140737488355328
    ·rw [if_pos c7] at H
     have LMc7:=zm c7
     clear c7
     obtain ⟨y119,hy119⟩:∃ y_:List Int,y_=(([]:List Int) ++ List.replicate (ji5:Int).toNat 0):=⟨_,rfl⟩
     replace H:(if 0≤(y119.length:Int) then (some (y119.take (0:Int).toNat)) else (none))=some r:=by first|(rw [hy119];with_reducible exact H)|(have H2_:=(Option.bind_some _ _).symm.trans H;rw [hy119];with_reducible exact H2_)|(have H2_:=(Option.bind_some _ _).symm.trans H;with_reducible exact H2_)|with_reducible exact H|(rw [hy119];exact H)|exact H
     have Ny119:=zm hy119
     clear hy119
     by_cases c8:0≤(y119.length:Int)
     ·rw [if_pos c8] at H
      have c8b0:=eq_true c8
      have c8b1:decide (0≤(y119.length:Int))=true:=decide_eq_true c8
      clear c8
      obtain ⟨y122,hy122⟩:∃ y_:List Int,y_=(y119.take (0:Int).toNat):=⟨_,rfl⟩
      replace H:(some y122)=some r:=by first|(rw [hy122];with_reducible exact H)|(have H2_:=(Option.bind_some _ _).symm.trans H;rw [hy122];with_reducible exact H2_)|(have H2_:=(Option.bind_some _ _).symm.trans H;with_reducible exact H2_)|with_reducible exact H|(rw [hy122];exact H)|exact H
      have Ny122:=zm hy122
      clear hy122
      obtain rfl:=Option.some.inj H
      go_enter Try.func53,Try.ntmps53
      go_wp2_with (first|(at_builtin;refine Kd.R_append_zeros (Kd.int .u8) (w0:=w) w.heap.size rfl (.tmp 20) (.tmp 21) 24 3 5 (.int .u8 0) 1 rfl Try.underlying24 Try.underlying3 info5 rfl (by decide) (by omega) (.slice none 0 0) ([]:List Int) 0 (ji5:Int) (fun _=>True) rfl rfl rfl ?aF ?aO (za_) ?aB ?aS ?aL ?_;(case aB=>exact (zb_));(case aF=>exact (fun _ _=>trivial));(case aO=>exact ((Kd.R_nil _ _ _ _ (fun _=>True))));(case aS=>exact (below_size (zb_)));(case aL=>have:=LMc7.out;omega);intro v120 w9 ho hb hg hat;rw [← Ny119.out] at ho;have n0_:=zm (hb);have n1_:=zm (ho);clear HB;have HB:=n0_;have HO121:=n1_;clear n0_ n1_;clear ho hb hg hat;obtain ⟨Ao10,co10,eo10⟩:=Kd.R_slice HO121.out;subst eo10;have q11:(0:Int)≤((y119.length:Int):Int):=za_;obtain ⟨i011,hi011,_,hsz11,_⟩:=info_parts info5;have hcut11:=cut_to (P:=Try.prog) 24 5 .i64 Try.underlying24 hi011 Ao10 y119.length co10 0 (by omega) q11 (Kd.R_reads' HO121.out).2.1;have hr11:=Kd.R_take (m:=(0:Int).toNat) HO121.out (by omega);have hy11:y122.length=(0:Int).toNat:=(by rw [Ny122.out,List.length_take];omega);rw [← Ny122.out] at hr11;rw [← hy11] at hr11 hcut11;clear hy11 hi011 hsz11 HO121;have HO124:=zm hr11;clear hr11;replace q11:=eq_true q11))
      go_ret
      exact ⟨_,by first|rfl|(simp [errW_none,errW_some] <;> rfl)|(simp only [← hji5];first|rfl|(simp [errW_none,errW_some] <;> rfl))|(simp [*,errW_none,errW_some] <;> rfl),by (with_reducible repeat (first|apply zrA|apply zrN|apply zrD));exact HO124.out,zb_⟩
     ·rw [if_neg c8] at H
      exact absurd H (by simp)
    ·rw [if_neg c7] at H
     exact absurd H (by simp)
   ·rw [if_neg c6] at H
    exact absurd H (by simp)
  ·rw [if_neg c4] at H
   have c4b0:decide (0 < (wrap64 (a1)))=false:=decide_eq_false c4
   clear c4
   obtain rfl:=Option.some.inj H
   go_enter Try.func53,Try.ntmps53
   go_wp2
   go_ret
   exact ⟨_,ze_,zr_,zb_⟩
mutual
def slices_Concat_byte_byte.l0:Nat → List (List Int) → Int → List (List Int) → Int → Int → Option (List Int)
 | 0,_,_,_,_,_=>none
 | k + 1,x0,x3,x9,x10,x11=>if x11 < x10 then (if 0≤x11 then (if x11 < (x9.length:Int) then (if (wrap64 (x3 + ((rd_L3 x9 x11).length:Int))) < 0 then (none) else (slices_Concat_byte_byte.l0 k x0 (wrap64 (x3 + ((rd_L3 x9 x11).length:Int))) x9 x10 (wrap64 (x11 + 1)))) else (none)) else (none)) else ((slices_Grow_byte_byte.f ([]:List Int) x3).bind fun t126=>(slices_Concat_byte_byte.l1 k t126 x0 (x0.length:Int) 0))
def slices_Concat_byte_byte.l1:Nat → List Int → List (List Int) → Int → Int → Option (List Int)
 | 0,_,_,_,_=>none
 | k + 1,x6,x25,x26,x27=>if x27 < x26 then (if 0≤x27 then (if x27 < (x25.length:Int) then (if x6.length + (rd_L3 x25 x27).length < 140737488355328 then (slices_Concat_byte_byte.l1 k (x6 ++ (rd_L3 x25 x27)) x25 x26 (wrap64 (x27 + 1))) else (none)) else (none)) else (none)) else (some x6)
end
def slices_Concat_byte_byte.f (k:Nat) (l0:List (List Int)):Option (List Int):=slices_Concat_byte_byte.l0 k l0 0 l0 (l0.length:Int) 0
theorem slices_Concat_byte_byte.mono_l:∀ k,(∀ y0 y1 y2 y3 y4,LeO (slices_Concat_byte_byte.l0 k y0 y1 y2 y3 y4) (slices_Concat_byte_byte.l0 (k + 1) y0 y1 y2 y3 y4))∧(∀ y0 y1 y2 y3,LeO (slices_Concat_byte_byte.l1 k y0 y1 y2 y3) (slices_Concat_byte_byte.l1 (k + 1) y0 y1 y2 y3))
 | 0=>⟨fun _ _ _ _ _ r h=>by simp [slices_Concat_byte_byte.l0] at h,fun _ _ _ _ r h=>by simp [slices_Concat_byte_byte.l1] at h⟩
 | k + 1=>by
  obtain ⟨ih0,ih1⟩:=slices_Concat_byte_byte.mono_l k
  refine ⟨?_,?_⟩
  ·intro y0 y1 y2 y3 y4
   unfold slices_Concat_byte_byte.l0
   repeat' first
   | (with_reducible exact ih0 _ _ _ _ _)
   | (with_reducible exact ih1 _ _ _ _)
   | (with_reducible exact LeO.refl _)
   | (with_reducible exact LeO.none _)
   | (with_reducible refine LeO.ite ?_ ?_)
   | (with_reducible refine LeO.bind ?_ (fun _=>?_))
   | exact ih0 _ _ _ _ _
   | exact ih1 _ _ _ _
   | exact LeO.none _
   | refine LeO.ite ?_ ?_
   | refine LeO.bind ?_ (fun _=>?_)
  ·intro y0 y1 y2 y3
   unfold slices_Concat_byte_byte.l1
   repeat' first
   | (with_reducible exact ih0 _ _ _ _ _)
   | (with_reducible exact ih1 _ _ _ _)
   | (with_reducible exact LeO.refl _)
   | (with_reducible exact LeO.none _)
   | (with_reducible refine LeO.ite ?_ ?_)
   | (with_reducible refine LeO.bind ?_ (fun _=>?_))
   | exact ih0 _ _ _ _ _
   | exact ih1 _ _ _ _
   | exact LeO.none _
   | refine LeO.ite ?_ ?_
   | refine LeO.bind ?_ (fun _=>?_)
theorem slices_Concat_byte_byte.mono:∀ a0 k,LeO (slices_Concat_byte_byte.f k a0) (slices_Concat_byte_byte.f (k + 1) a0):=by
 intro a0 k
 obtain ⟨ih0,ih1⟩:=slices_Concat_byte_byte.mono_l k
 unfold slices_Concat_byte_byte.f
 repeat' first
   | (with_reducible exact ih0 _ _ _ _ _)
   | (with_reducible exact ih1 _ _ _ _)
   | (with_reducible exact LeO.refl _)
   | (with_reducible exact LeO.none _)
   | (with_reducible refine LeO.ite ?_ ?_)
   | (with_reducible refine LeO.bind ?_ (fun _=>?_))
   | exact ih0 _ _ _ _ _
   | exact ih1 _ _ _ _
   | exact LeO.none _
   | refine LeO.ite ?_ ?_
   | refine LeO.bind ?_ (fun _=>?_)
set_option maxHeartbeats 8000000 in
set_option maxRecDepth 100000 in
theorem slices_Concat_byte_byte.calls (k:Nat) (A0:Option Addr) (c0:Nat) (l0:List (List Int)) (r:List Int) (w:World) (hr0:Kd.C (Kd.slice 5 (Kd.int .u8)) w A0 l0.length l0) (hc0:l0.length≤c0) (h:slices_Concat_byte_byte.f k l0=some r) :
  Calls Try.prog 32 #[.slice A0 l0.length c0] w fun e w'=>∃ v0_:Value,e=.returned (v0_)∧Kd.R (Kd.int .u8) 5 w' w.heap.size (fun _=>True) v0_ r∧Below w.heap.size w w':=by
 have HR0:=zm hr0
 have HC0:=zm hc0
 clear hr0 hc0
 have HB:=zm (Below.refl w.heap.size w)
 have H:(slices_Concat_byte_byte.l0 k l0 0 l0 (l0.length:Int) 0)=some r:=h
 clear h
 have H':=zm H
 clear H
 go_enter Try.func32,Try.ntmps32
 go_wp2
 go_loopg [3,11] k (fun kq v3 v11 w'=>∃ (x3_1:Int) (x11_1:Int),v3=.int .i64 x3_1∧v11=.int .i64 x11_1∧Aside0 (slices_Concat_byte_byte.l0 kq l0 x3_1 l0 (l0.length:Int) x11_1=some r)∧Aside0 (kq≤k)∧Aside0 (Below w.heap.size w w'))
 case atStart=>exact ⟨(0),(0),zs_,zs_,H',⟨Nat.le_refl _⟩,⟨zb_⟩⟩
 case round =>
  clear H'
  obtain ⟨x3_1,x11_1,rfl,rfl,HA,HK1,HB⟩:=hrel
  cases gk with
  | zero=>exact absurd HA.out (by simp [slices_Concat_byte_byte.l0])
  | succ k1 =>
   have H:=HA.out
   clear HA
   simp only [slices_Concat_byte_byte.l0] at H
   by_cases c2:x11_1 < (l0.length:Int)
   ·rw [if_pos c2] at H
    have c2b0:decide (x11_1 < (l0.length:Int))=true:=decide_eq_true c2
    clear c2
    by_cases c3:0≤x11_1
    ·rw [if_pos c3] at H
     have c3b0:decide (0≤x11_1)=true:=decide_eq_true c3
     clear c3
     by_cases c4:x11_1 < (l0.length:Int)
     ·rw [if_pos c4] at H
      have c4b0:decide (x11_1 < (l0.length:Int))=true:=decide_eq_true c4
      clear c4
      by_cases c5:(wrap64 (x3_1 + ((rd_L3 l0 x11_1).length:Int))) < 0
      ·rw [if_pos c5] at H
       exact absurd H (by simp)
      ·rw [if_neg c5] at H
       have c5b0:decide ((wrap64 (x3_1 + ((rd_L3 l0 x11_1).length:Int))) < 0)=false:=decide_eq_false c5
       clear c5
       have H':=zm H
       clear H
       have p125:0≤(x11_1:Int):=za_
       have q125:x11_1 < (l0.length:Int):=za_
       obtain ⟨ad125,A125_0,c125_0,e125,hx125_0,hl125_0,hi125_0⟩:=at_L3 HR0.out x11_1 p125 q125
       cases e125
       replace hx125_0:=zhx HB hx125_0
       have HR125_0:=zm hi125_0
       have HC125_0:=zm hl125_0
       clear hi125_0 hl125_0
       replace p125:=eq_true p125
       replace q125:=eq_true q125
       go_wp2
       go_roundg k1
       case measure=>have:=HK1.out;omega
       case rel=>exact ⟨(wrap64 (x3_1 + ((rd_L3 l0 x11_1).length:Int))),(wrap64 (x11_1 + 1)),zs_,zs_,H',⟨by have:=HK1.out;omega⟩,⟨zb_⟩⟩
     ·rw [if_neg c4] at H
      exact absurd H (by simp)
    ·rw [if_neg c3] at H
     exact absurd H (by simp)
   ·rw [if_neg c2] at H
    have c2b0:decide (x11_1 < (l0.length:Int))=false:=decide_eq_false c2
    clear c2
    replace H:=Option.bind_eq_some_iff.mp H
    obtain ⟨t126,A60,H⟩:=H
    replace H:(slices_Concat_byte_byte.l1 k1 t126 l0 (l0.length:Int) 0)=some r:=H
    have A6:=zm A60
    clear A60
    have H':=zm H
    clear H
    go_wp2_with (first|((with_reducible refine gate_callee (f:=53) rfl ?_);refine goesL_ (some 24) rfl rfl Try.func53 (by kernel_rfl) rfl #[.slice none 0 0,.int .i64 x3_1] rfl (by (try simp only [List.map_toArray,List.map_cons,List.map_nil]);first|done|rfl|(simp only [List.length_drop,List.length_take];rfl)) ?_;(refine (slices_Grow_byte_byte.calls none 0 ([]:List Int) x3_1 t126 _ ?side1 ?side2 A6.out).mono ?_);(case side1=>exact Kd.C_nil _ _);(case side2=>exact Nat.le_refl _);rintro e w7 ⟨v127,rfl,ho0,hb⟩;refine ⟨_,rfl,?_⟩;have n0_:=zm (Kd.R_lower ho0 (below_size (zb_)));have n1_:=zkH HB hb;clear HB;have HO128:=n0_;have HB:=n1_;clear n0_ n1_;(try clear hb);(try clear hb2);(try clear hk);(try clear hi);(try clear ho0)))
    go_loopg [6,27] k1 (fun kq v6 v27 w'=>∃ (x6_2:List Int) (x27_2:Int),v27=.int .i64 x27_2∧Aside0 (slices_Concat_byte_byte.l1 kq x6_2 l0 (l0.length:Int) x27_2=some r)∧Aside0 (kq≤k1)∧Aside0 (Kd.R (Kd.int .u8) 5 w' w.heap.size (fun _=>True) v6 x6_2)∧Aside0 (Below w.heap.size w w'))
    case atStart=>exact ⟨(t126),(0),zs_,H',⟨Nat.le_refl _⟩,⟨by (with_reducible repeat (first|apply zrA|apply zrN|apply zrD));exact HO128.out⟩,⟨zb_⟩⟩
    case round =>
     clear H'
     try clear c1
     try clear p1
     try clear q1
     try clear hx1
     try clear c2
     try clear c2b0
     try clear p2
     try clear c3
     try clear c3b0
     try clear c4
     try clear c4b0
     try clear c5
     try clear c5b0
     try clear p6
     try clear hx125_0
     try clear p125
     try clear q125
     obtain ⟨x6_2,x27_2,rfl,HA,HK2,HO_6,HB⟩:=hrel
     cases gk with
     | zero=>exact absurd HA.out (by simp [slices_Concat_byte_byte.l1])
     | succ k2 =>
      have H:=HA.out
      clear HA
      simp only [slices_Concat_byte_byte.l1] at H
      by_cases c8:x27_2 < (l0.length:Int)
      ·rw [if_pos c8] at H
       have c8b0:decide (x27_2 < (l0.length:Int))=true:=decide_eq_true c8
       clear c8
       by_cases c9:0≤x27_2
       ·rw [if_pos c9] at H
        have c9b0:decide (0≤x27_2)=true:=decide_eq_true c9
        clear c9
        by_cases c10:x27_2 < (l0.length:Int)
        ·rw [if_pos c10] at H
         have c10b0:decide (x27_2 < (l0.length:Int))=true:=decide_eq_true c10
         clear c10
         by_cases c11:x6_2.length + (rd_L3 l0 x27_2).length < 140737488355328
         ·rw [if_pos c11] at H
          have LMc11:=zm c11
          clear c11
          obtain ⟨y130,hy130⟩:∃ y_:List Int,y_=(x6_2 ++ (rd_L3 l0 x27_2)):=⟨_,rfl⟩
          replace H:(slices_Concat_byte_byte.l1 k2 y130 l0 (l0.length:Int) (wrap64 (x27_2 + 1)))=some r:=by first|(rw [hy130];with_reducible exact H)|(have H2_:=(Option.bind_some _ _).symm.trans H;rw [hy130];with_reducible exact H2_)|(have H2_:=(Option.bind_some _ _).symm.trans H;with_reducible exact H2_)|with_reducible exact H|(rw [hy130];exact H)|exact H
          have Ny130:=zm hy130
          clear hy130
          have H':=zm H
          clear H
          have p129:0≤(x27_2:Int):=za_
          have q129:x27_2 < (l0.length:Int):=za_
          obtain ⟨ad129,A129_0,c129_0,e129,hx129_0,hl129_0,hi129_0⟩:=at_L3 HR0.out x27_2 p129 q129
          cases e129
          replace hx129_0:=zhx HB hx129_0
          have HR129_0:=zm hi129_0
          have HC129_0:=zm hl129_0
          clear hi129_0 hl129_0
          replace p129:=eq_true p129
          replace q129:=eq_true q129
          go_wp2_with (first|((with_reducible refine gate_builtin (b:=.append) (xs:=#[.tmp 31,.tmp 32]) rfl ?_);at_builtin;refine Kd.R_append_rows (Kd.int .u8) (w0:=w) w.heap.size rfl (.tmp 31) (.tmp 32) 24 5 (.int .u8 0) 1 rfl Try.underlying24 info5 rfl (by decide) (by omega) u6 x6_2 (rd_L3 l0 x27_2) _ _ _ (fun _=>True) (fun _=>False) rfl rfl ?aO ?aR (fun _ _ h=>h) (fun _ h=>h.elim) ?aF ?aB ?aS ?aL ?_;(case aR=>exact zC HR129_0);(case aB=>exact (zb_));(case aF=>exact (fun _ _=>trivial));(case aO=>exact (by (with_reducible repeat (first|apply zrA|apply zrN|apply zrD));exact HO_6.out));(case aS=>exact (below_size (zb_)));(case aL=>have:=LMc11.out;omega);intro v131 w12 ho hb hg hat;rw [← Ny130.out] at ho;have n0_:=zm (hb);have n1_:=zm (ho);clear HB HO_6;have HB:=n0_;have HO132:=n1_;clear n0_ n1_;clear ho hb hg hat))
          go_roundg k2
          case measure=>have:=HK1.out;have:=HK2.out;omega
          case rel=>exact ⟨(y130),(wrap64 (x27_2 + 1)),zs_,H',⟨by have:=HK1.out;have:=HK2.out;omega⟩,⟨by (with_reducible repeat (first|apply zrA|apply zrN|apply zrD));exact HO132.out⟩,⟨zb_⟩⟩
         ·rw [if_neg c11] at H
          exact absurd H (by simp)
        ·rw [if_neg c10] at H
         exact absurd H (by simp)
       ·rw [if_neg c9] at H
        exact absurd H (by simp)
      ·rw [if_neg c8] at H
       have c8b0:decide (x27_2 < (l0.length:Int))=false:=decide_eq_false c8
       clear c8
       obtain rfl:=Option.some.inj H
       go_wp2
       go_ret
       exact ⟨_,ze_,by (with_reducible repeat (first|apply zrA|apply zrN|apply zrD));exact HO_6.out,zb_⟩
end Go.Proofs.Ytdohpjjggjehfaa.Print
end
section
namespace Go.Proofs.Ytdohpjjggjehfaa.Print
open Go.RowKit Go.Proofs.YtdohpjjggjehfaaW.PrintWords Go.Proofs.YtdohpjjggjehfaaW.PrintLast Go.Proofs.YtdohpjjggjehfaaW.PrintMore
attribute [local go_sem] max2_int min2_int max_two min_two max_three min_three max_four min_four   -- for this text's walks alone
attribute [local go_sem ↓] Go.Proofs.Ytdohpjjggjehfaa.Sem.isSome_setCell
attribute [local go_sem] Go.Instr.field Go.asAgg
set_option linter.unusedVariables false
set_option linter.unusedSimpArgs false
mutual
def seal_Zeros.l0:Nat → Int → List Int → Int → Int → Option (Int)
 | 0,_,_,_,_=>none
 | k + 1,x3,x7,x8,x9=>if x9 < x8 then (if 0≤x9 then (if x9 < (x7.length:Int) then (seal_Zeros.l1 k x3 (rd x7 x9) x7 x8 x9 0) else (none)) else (none)) else (some x3)
def seal_Zeros.l1:Nat → Int → Int → List Int → Int → Int → Int → Option (Int)
 | 0,_,_,_,_,_,_=>none
 | k + 1,x3,x5,x7,x8,x9,x13=>if x13 < 8 then (if 0≤x13 then (if (Go.bits .and .u8 (shr .u8 x5 x13) 1)=0 then (seal_Zeros.l1 k (wrap64 (x3 + 1)) x5 x7 x8 x9 (wrap64 (x13 + 1))) else (seal_Zeros.l1 k x3 x5 x7 x8 x9 (wrap64 (x13 + 1)))) else (none)) else (seal_Zeros.l0 k x3 x7 x8 (wrap64 (x9 + 1)))
end
def seal_Zeros.f (k:Nat) (l0:List Int):Option (Int):=seal_Zeros.l0 k 0 l0 (l0.length:Int) 0
set_option maxHeartbeats 8000000 in
set_option maxRecDepth 100000 in
theorem seal_Zeros.calls (k:Nat) (A0:Option Addr) (c0:Nat) (l0:List Int) (r:Int) (w:World) (hr0:Kd.C (Kd.int .u8) w A0 l0.length l0) (hc0:l0.length≤c0) (h:seal_Zeros.f k l0=some r) :
  Calls Try.prog 56 #[.slice A0 l0.length c0] w fun e w'=>e=.returned (.int .i64 r)∧Drawn0 w w':=by
 have HR0:=zm hr0
 have HC0:=zm hc0
 clear hr0 hc0
 have H:(seal_Zeros.l0 k 0 l0 (l0.length:Int) 0)=some r:=h
 clear h
 have H':=zm H
 clear H
 go_enter Try.func56,Try.ntmps56
 go_wp2
 go_loopg [3,9] k (fun kq v3 v9 w'=>∃ (x3_1:Int) (x9_1:Int),v3=.int .i64 x3_1∧v9=.int .i64 x9_1∧Aside0 (seal_Zeros.l0 kq x3_1 l0 (l0.length:Int) x9_1=some r)∧Aside0 (kq≤k)∧Drawn0 w w')
 case atStart=>exact ⟨(0),(0),zs_,zs_,H',⟨Nat.le_refl _⟩,by repeat (first|exact Drawn0.refl _|apply Drawn0.step)⟩
 case round =>
  clear H'
  obtain ⟨x3_1,x9_1,rfl,rfl,HA,HK1,⟨m1,rfl⟩⟩:=hrel
  cases gk with
  | zero=>exact absurd HA.out (by simp [seal_Zeros.l0])
  | succ k1 =>
   have H:=HA.out
   clear HA
   simp only [seal_Zeros.l0] at H
   by_cases c2:x9_1 < (l0.length:Int)
   ·rw [if_pos c2] at H
    have c2b0:decide (x9_1 < (l0.length:Int))=true:=decide_eq_true c2
    clear c2
    by_cases c3:0≤x9_1
    ·rw [if_pos c3] at H
     have c3b0:decide (0≤x9_1)=true:=decide_eq_true c3
     clear c3
     by_cases c4:x9_1 < (l0.length:Int)
     ·rw [if_pos c4] at H
      have c4b0:decide (x9_1 < (l0.length:Int))=true:=decide_eq_true c4
      clear c4
      have H':=zm H
      clear H
      have p133:0≤(x9_1:Int):=za_
      have q133:x9_1 < (l0.length:Int):=za_
      obtain ⟨ad133,e133,hx133_0⟩:=Kd.at_int HR0.out x9_1 p133 q133
      cases e133
      replace p133:=eq_true p133
      replace q133:=eq_true q133
      go_wp2
      go_loopg [3,13] k1 (fun kq v3 v13 w'=>∃ (x3_2:Int) (x13_2:Int),v3=.int .i64 x3_2∧v13=.int .i64 x13_2∧Aside0 (seal_Zeros.l1 kq x3_2 (rd l0 x9_1) l0 (l0.length:Int) x9_1 x13_2=some r)∧Aside0 (kq≤k1)∧Drawn0 w w')
      case atStart=>exact ⟨(x3_1),(0),zs_,zs_,H',⟨Nat.le_refl _⟩,by repeat (first|exact Drawn0.refl _|apply Drawn0.step)⟩
      case round =>
       clear H'
       try clear p1
       try clear q1
       try clear hx1
       try clear c2
       try clear c2b0
       try clear p2
       try clear c3
       try clear c3b0
       try clear c4
       try clear c4b0
       try clear hx133_0
       try clear p133
       try clear q133
       obtain ⟨x3_2,x13_2,rfl,rfl,HA,HK2,⟨m2,rfl⟩⟩:=hrel
       cases gk with
       | zero=>exact absurd HA.out (by simp [seal_Zeros.l1])
       | succ k2 =>
        have H:=HA.out
        clear HA
        simp only [seal_Zeros.l1] at H
        by_cases c5:x13_2 < 8
        ·rw [if_pos c5] at H
         have c5b0:decide (x13_2 < 8)=true:=decide_eq_true c5
         clear c5
         by_cases c6:0≤x13_2
         ·rw [if_pos c6] at H
          have c6b0:=eq_true c6
          have c6b1:decide (0≤x13_2)=true:=decide_eq_true c6
          clear c6
          obtain ⟨ji7,hji7⟩:∃ j_:Int,(shr .u8 (rd l0 x9_1) x13_2)=j_:=⟨_,rfl⟩
          replace H:(if (Go.bits .and .u8 (ji7) 1)=0 then (seal_Zeros.l1 k2 (wrap64 (x3_2 + 1)) (rd l0 x9_1) l0 (l0.length:Int) x9_1 (wrap64 (x13_2 + 1))) else (seal_Zeros.l1 k2 x3_2 (rd l0 x9_1) l0 (l0.length:Int) x9_1 (wrap64 (x13_2 + 1))))=some r:=by first|(rw [hji7] at H;exact H)|(simp only [hji7] at H ⊢;exact H)
          have hji7_:((rd l0 x9_1) / 2 ^ min x13_2.toNat 8)=ji7:=hji7
          have hji7z:x13_2≤8 → ((rd l0 x9_1) / 2 ^ x13_2.toNat)=ji7:=shr_small hji7
          by_cases c8:(Go.bits .and .u8 (ji7) 1)=0
          ·rw [if_pos c8] at H
           have c8b0:((Go.bits .and .u8 (ji7) 1) == 0)=true:=beq_iff_eq.mpr c8
           have c8b1:((Go.bits .and .u8 (ji7) 1) != 0)=false:=bne_eq_false_iff_eq.mpr c8
           clear c8
           have H':=zm H
           clear H
           go_wp2
           go_roundg k2
           case measure=>have:=HK1.out;have:=HK2.out;omega
           case rel=>exact ⟨(wrap64 (x3_2 + 1)),(wrap64 (x13_2 + 1)),zs_,zs_,H',⟨by have:=HK1.out;have:=HK2.out;omega⟩,by repeat (first|exact Drawn0.refl _|apply Drawn0.step)⟩
          ·rw [if_neg c8] at H
           have c8b0:((Go.bits .and .u8 (ji7) 1) == 0)=false:=beq_eq_false_iff_ne.mpr c8
           have c8b1:((Go.bits .and .u8 (ji7) 1) != 0)=true:=bne_iff_ne.mpr c8
           have H':=zm H
           clear H
           go_wp2
           go_roundg k2
           case measure=>have:=HK1.out;have:=HK2.out;omega
           case rel=>exact ⟨(x3_2),(wrap64 (x13_2 + 1)),zs_,zs_,H',⟨by have:=HK1.out;have:=HK2.out;omega⟩,by repeat (first|exact Drawn0.refl _|apply Drawn0.step)⟩
         ·rw [if_neg c6] at H
          exact absurd H (by simp)
        ·rw [if_neg c5] at H
         have c5b0:decide (x13_2 < 8)=false:=decide_eq_false c5
         clear c5
         have H':=zm H
         clear H
         go_wp2
         go_roundg k2
         case measure=>have:=HK1.out;have:=HK2.out;omega
         case rel=>exact ⟨(x3_2),(wrap64 (x9_1 + 1)),zs_,zs_,H',⟨by have:=HK1.out;have:=HK2.out;omega⟩,by repeat (first|exact Drawn0.refl _|apply Drawn0.step)⟩
     ·rw [if_neg c4] at H
      exact absurd H (by simp)
    ·rw [if_neg c3] at H
     exact absurd H (by simp)
   ·rw [if_neg c2] at H
    have c2b0:decide (x9_1 < (l0.length:Int))=false:=decide_eq_false c2
    clear c2
    obtain rfl:=Option.some.inj H
    go_wp2
    go_ret
    exact ⟨by first|rfl|(simp;done)|(simp [*];done),by repeat (first|exact Drawn0.refl _|apply Drawn0.step)⟩
def seal_sum.f (k:Nat) (l0:List Int):Option (List Int):=(seal_Zeros.f k l0).bind fun t134=>(some (([(t134 / 16777216) % 256,(t134 / 65536) % 256,(t134 / 256) % 256,(t134) % 256]:List Int)))
set_option maxHeartbeats 8000000 in
set_option maxRecDepth 100000 in
theorem seal_sum.calls (k:Nat) (A0:Option Addr) (c0:Nat) (l0:List Int) (r:List Int) (w:World) (hr0:Kd.C (Kd.int .u8) w A0 l0.length l0) (hc0:l0.length≤c0) (h:seal_sum.f k l0=some r) :
  Calls Try.prog 52 #[.slice A0 l0.length c0] w fun e w'=>∃ v0_:Value,e=.returned (v0_)∧Kd.R (Kd.int .u8) 5 w' w.heap.size (fun _=>True) v0_ r∧Below w.heap.size w w':=by
 have HR0:=zm hr0
 have HC0:=zm hc0
 clear hr0 hc0
 have HB:=zm (Below.refl w.heap.size w)
 have H:((seal_Zeros.f k l0).bind fun t134=>(some (([(t134 / 16777216) % 256,(t134 / 65536) % 256,(t134 / 256) % 256,(t134) % 256]:List Int))))=some r:=h
 clear h
 replace H:=Option.bind_eq_some_iff.mp H
 obtain ⟨t134,A20,H⟩:=H
 replace H:(some (([(t134 / 16777216) % 256,(t134 / 65536) % 256,(t134 / 256) % 256,(t134) % 256]:List Int)))=some r:=H
 have A2:=zm A20
 clear A20
 obtain ⟨y135,hy135⟩:∃ y_:List Int,y_=(([(t134 / 16777216) % 256,(t134 / 65536) % 256,(t134 / 256) % 256,(t134) % 256]:List Int)):=⟨_,rfl⟩
 replace H:(some y135)=some r:=by first|(rw [hy135];with_reducible exact H)|(have H2_:=(Option.bind_some _ _).symm.trans H;rw [hy135];with_reducible exact H2_)|(have H2_:=(Option.bind_some _ _).symm.trans H;with_reducible exact H2_)|with_reducible exact H|(rw [hy135];exact H)|exact H
 have Ny135:=zm hy135
 clear hy135
 obtain rfl:=Option.some.inj H
 go_enter Try.func52,Try.ntmps52
 go_wp2_with (first|((with_reducible refine gate_callee (f:=56) rfl ?_);refine goesL_ (some 5) rfl rfl Try.func56 (by kernel_rfl) rfl #[.slice A0 l0.length c0] rfl (by (try simp only [List.map_toArray,List.map_cons,List.map_nil]);first|done|rfl|(simp only [List.length_drop,List.length_take];rfl)) ?_;(with_reducible refine (seal_Zeros.calls k _ _ l0 t134 _ ?side1 ?side2 A2.out).mono ?_);(case side1=>repeat (first|exact HR0.out|(with_reducible refine Kd.C_alloc ?_ _)|(with_reducible refine Kd.C_drewN ?_ _)|(with_reducible refine Kd.C_drew ?_)));(case side2=>exact HC0.out);rintro e w' ⟨rfl,⟨nd,rfl⟩⟩;refine ⟨_,rfl,?_⟩)|((with_reducible refine gate_dst (N:=17) rfl ?_);refine Kd.R_lit (Kd.int .u8) _ 5 ?hg (N:=17) ?hd (xs:=([(t134 / 16777216) % 256,(t134 / 65536) % 256,(t134 / 256) % 256,(t134) % 256]:List Int)) (inner:=[.int .u8 ((t134 / 16777216) % 256),.int .u8 ((t134 / 65536) % 256),.int .u8 ((t134 / 256) % 256),.int .u8 ((t134) % 256)]) (ok:=fun _=>True) (okp:=fun _=>True) ?hr ?hp (fun _ hk=>hk) trivial (Below.refl _ _) (Nat.le_refl _) (by simp) ?_;(case hd=>rfl);(case hg=>rfl);(case hr=>first|(go_simp;done)|(go_simp;rfl));(case hp=>exact (Reps.one (show Kd.M (Kd.int .u8) _ _ _ ((t134 / 16777216) % 256) [.int .u8 ((t134 / 16777216) % 256)] from rfl) (Reps.one (show Kd.M (Kd.int .u8) _ _ _ ((t134 / 65536) % 256) [.int .u8 ((t134 / 65536) % 256)] from rfl) (Reps.one (show Kd.M (Kd.int .u8) _ _ _ ((t134 / 256) % 256) [.int .u8 ((t134 / 256) % 256)] from rfl) (Reps.one (show Kd.M (Kd.int .u8) _ _ _ ((t134) % 256) [.int .u8 ((t134) % 256)] from rfl) (Reps.none _ _))))));intro v136 w3 ho4 hb hg_ hnew_;clear hg_ hnew_;(first|rw [← Ny135.out] at ho4|(simp only [Int.reduceToNat] at ho4;rw [← Ny135.out] at ho4));have n0_:=zm (Kd.R_lower ho4 (below_size (zb_)));have n1_:=zkH HB hb;clear HB;have HO137:=n0_;have HB:=n1_;clear n0_ n1_;clear hb ho4))
 go_ret
 exact ⟨_,ze_,by (with_reducible repeat (first|apply zrA|apply zrN|apply zrD));exact HO137.out,zb_⟩
def seal_Seal.f (k:Nat) (l0:List Int):Option (List Int × Int):=if (l0.length:Int) > 1048576 then (some (([]:List Int),3)) else ((seal_sum.f k l0).bind fun t138=>((slices_Concat_byte_byte.f k (([l0,t138]:List (List Int)))).bind fun t144=>(some (t144,0))))
set_option maxHeartbeats 8000000 in
set_option maxRecDepth 100000 in
theorem seal_Seal.calls (k:Nat) (P0_:Nat → Prop) (A0:Option Addr) (c0:Nat) (l0:List Int) (r1:List Int) (r2:Int) (w:World) (hs0:Kd.V (Kd.int .u8) 5 w w.heap.size (fun k_=>P0_ k_) (.slice A0 l0.length c0) l0) (h:seal_Seal.f k l0=some (r1,r2)) :
  Calls Try.prog 31 #[.slice A0 l0.length c0] w fun e w'=>∃ v0_:Value,e=.returned (.tuple #[v0_,.int .i64 r2])∧Kd.R (Kd.int .u8) 5 w' w.heap.size (fun k_=>(w.heap.size≤k_)) v0_ r1∧Below w.heap.size w w':=by
 have HO0:=zm (show Kd.V (Kd.int .u8) 5 w w.heap.size (fun k_=>(P0_ k_∨w.heap.size≤k_)) (.slice A0 l0.length c0) l0 from Kd.V_mono hs0 (fun k_ hk=>.inl hk))
 have HB:=zm (Below.refl w.heap.size w)
 have H:(if (l0.length:Int) > 1048576 then (some (([]:List Int),3)) else ((seal_sum.f k l0).bind fun t138=>((slices_Concat_byte_byte.f k (([l0,t138]:List (List Int)))).bind fun t144=>(some (t144,0)))))=some (r1,r2):=h
 clear h
 by_cases c2:(l0.length:Int) > 1048576
 ·rw [if_pos c2] at H
  have c2b0:decide (1048576 < (l0.length:Int))=true:=decide_eq_true c2
  have c2b1:decide (1048576 < l0.length)=true:=decide_eq_true (by omega)
  clear c2
  simp only [Option.some.injEq,Prod.mk.injEq] at H
  obtain ⟨rfl,rfl⟩:=H
  go_enter Try.func31,Try.ntmps31
  go_wp2
  go_ret2
  exact ⟨_,ze_,zr_,zb_⟩
 ·rw [if_neg c2] at H
  have c2b0:decide (1048576 < (l0.length:Int))=false:=decide_eq_false c2
  have c2b1:decide (1048576 < l0.length)=false:=decide_eq_false (by omega)
  clear c2
  replace H:=Option.bind_eq_some_iff.mp H
  obtain ⟨t138,A30,H⟩:=H
  replace H:((slices_Concat_byte_byte.f k (([l0,t138]:List (List Int)))).bind fun t144=>(some (t144,0)))=some (r1,r2):=H
  have A3:=zm A30
  clear A30
  obtain ⟨y141,hy141⟩:∃ y_:List (List Int),y_=(([l0,t138]:List (List Int))):=⟨_,rfl⟩
  replace H:((slices_Concat_byte_byte.f k y141).bind fun t144=>(some (t144,0)))=some (r1,r2):=by first|(rw [hy141];with_reducible exact H)|(have H2_:=(Option.bind_some _ _).symm.trans H;rw [hy141];with_reducible exact H2_)|(have H2_:=(Option.bind_some _ _).symm.trans H;with_reducible exact H2_)|with_reducible exact H|(rw [hy141];exact H)|exact H
  have Ny141:=zm hy141
  clear hy141
  replace H:=Option.bind_eq_some_iff.mp H
  obtain ⟨t144,A40,H⟩:=H
  replace H:(some (t144,0))=some (r1,r2):=H
  have A4:=zm A40
  clear A40
  simp only [Option.some.injEq,Prod.mk.injEq] at H
  obtain ⟨rfl,rfl⟩:=H
  go_enter Try.func31,Try.ntmps31
  go_wp2_with (first|((with_reducible refine gate_callee (f:=52) rfl ?_);refine goesL_ (some 9) rfl rfl Try.func52 (by kernel_rfl) rfl #[.slice A0 l0.length c0] rfl (by (try simp only [List.map_toArray,List.map_cons,List.map_nil]);first|done|rfl|(simp only [List.length_drop,List.length_take];rfl)) ?_;(with_reducible refine (seal_sum.calls k _ _ l0 t138 _ ?side1 ?side2 A3.out).mono ?_);(case side1=>repeat (first|exact (Kd.V_reads' HO0.out).2.2|(with_reducible refine Kd.C_alloc ?_ _)|(with_reducible refine Kd.C_drewN ?_ _)|(with_reducible refine Kd.C_drew ?_)));(case side2=>exact (Kd.V_reads' HO0.out).2.1);rintro e w5 ⟨v139,rfl,ho0,hb⟩;refine ⟨_,rfl,?_⟩;have n0_:=zm (Kd.V_elder' (by (with_reducible repeat (first|apply Kd.V_alloc|apply Kd.V_drewN|apply Kd.V_drew));exact HO0.out) (Kd.R_base ho0) hb);have n1_:=zm (Kd.R_lower (Kd.R_newM (M:=fun k_=>(w.heap.size≤k_)) ho0 (below_size (zb_)) (fun k_ h_=>h_)) (below_size (zb_)));have n2_:=zkH HB hb;clear HO0 HB;have HO0:=n0_;have HO140:=n1_;have HB:=n2_;clear n0_ n1_ n2_;(try clear hb);(try clear hb2);(try clear hk);(try clear hi);(try clear ho0);obtain ⟨Ao6,co6,eo6⟩:=Kd.R_slice HO140.out;subst eo6)|((with_reducible refine gate_dst (N:=10) rfl ?_);refine Kd.N_lit (Kd.slice 5 (Kd.int .u8)) _ 24 ?hg (N':=10) ?hd (xs:=([l0,t138]:List (List Int))) (inner:=[.slice A0 l0.length c0,.slice Ao6 t138.length co6]) (ok:=(fun k_=>(P0_ k_∨w.heap.size≤k_))) (okp:=(fun k_=>(P0_ k_∨w.heap.size≤k_))) ?hr ?hp (fun _ hk=>hk) ((show ∀ k_,w5.heap.size≤k_ → (fun k_=>(P0_ k_∨w.heap.size≤k_)) k_ from fun k_ hk=>(.inr (Nat.le_trans (below_size (zb_)) hk))) _ (Nat.le_refl _)) (Below.refl _ _) (Nat.le_refl _) (by simp) ?_;(case hd=>rfl);(case hg=>rfl);(case hr=>first|(go_simp;done)|(go_simp;rfl));(case hp=>exact (Reps.one (show Kd.FK (Kd.slice 5 (Kd.int .u8)) _ _ l0 [.slice A0 l0.length c0] from (Kd.FK_slice_mk (Kd.V_reads' (Kd.V_mono (ok':=(fun k_=>(P0_ k_∨w.heap.size≤k_))) (HO0.out) (fun k_ hk=>hk.1))).2.1 (Kd.V_F (Kd.V_mono (ok':=(fun k_=>(P0_ k_∨w.heap.size≤k_))) (HO0.out) (fun k_ hk=>hk.1))))) (Reps.one (show Kd.FK (Kd.slice 5 (Kd.int .u8)) _ _ t138 [.slice Ao6 t138.length co6] from (Kd.FK_slice_mk (Kd.R_reads' (Kd.R_mono (ok':=(fun k_=>(P0_ k_∨w.heap.size≤k_))) (HO140.out) (fun k_ hk=>(.inr (hk.1))))).2.1 (Kd.R_F (Kd.R_mono (ok':=(fun k_=>(P0_ k_∨w.heap.size≤k_))) (HO140.out) (fun k_ hk=>(.inr (hk.1))))))) (Reps.none _ _))));intro v142 w7 ho8 hb hg_ hnew_;clear hg_ hnew_;(first|rw [← Ny141.out] at ho8|(simp only [Int.reduceToNat] at ho8;rw [← Ny141.out] at ho8));have n0_:=zm (Kd.V_elder' (by (with_reducible repeat (first|apply Kd.V_alloc|apply Kd.V_drewN|apply Kd.V_drew));exact HO0.out) (Kd.N_base ho8) hb);have n1_:=zm (Kd.N_lower ho8 (below_size (zb_)));have n2_:=zkH HB hb;clear HO0 HB HO140;have HO0:=n0_;have HO143:=n1_;have HB:=n2_;clear n0_ n1_ n2_;clear hb ho8;obtain ⟨Ao9,co9,eo9⟩:=Kd.N_slice HO143.out;subst eo9)|((with_reducible refine gate_callee (f:=32) rfl ?_);refine goesL_ (some 11) rfl rfl Try.func32 (by kernel_rfl) rfl #[.slice Ao9 y141.length co9] rfl (by (try simp only [List.map_toArray,List.map_cons,List.map_nil]);first|done|rfl|(simp only [List.length_drop,List.length_take];rfl)) ?_;(with_reducible refine (slices_Concat_byte_byte.calls k _ _ y141 t144 _ ?side1 ?side2 A4.out).mono ?_);(case side1=>repeat (first|exact (Kd.N_reads' HO143.out).2.2|(with_reducible refine Kd.C_alloc ?_ _)|(with_reducible refine Kd.C_drewN ?_ _)|(with_reducible refine Kd.C_drew ?_)));(case side2=>exact (Kd.N_reads' HO143.out).2.1);rintro e w10 ⟨v145,rfl,ho0,hb⟩;refine ⟨_,rfl,?_⟩;have n0_:=zm (Kd.V_elder' (by (with_reducible repeat (first|apply Kd.V_alloc|apply Kd.V_drewN|apply Kd.V_drew));exact HO0.out) (Kd.R_base ho0) hb);have n1_:=zm (Kd.N_elder' (by (with_reducible repeat (first|apply Kd.N_alloc|apply Kd.N_drewN|apply Kd.N_drew));exact HO143.out) (Kd.R_base ho0) hb);have n2_:=zm (Kd.R_lower (Kd.R_newM (M:=fun k_=>(w.heap.size≤k_)) ho0 (below_size (zb_)) (fun k_ h_=>h_)) (below_size (zb_)));have n3_:=zkH HB hb;clear HO0 HO143 HB;have HO0:=n0_;have HO143:=n1_;have HO146:=n2_;have HB:=n3_;clear n0_ n1_ n2_ n3_;(try clear hb);(try clear hb2);(try clear hk);(try clear hi);(try clear ho0)))
  go_ret2
  exact ⟨_,ze_,by (with_reducible repeat (first|apply zrA|apply zrN|apply zrD));exact Kd.R_mono HO146.out (fun _ hk=>hk.1),zb_⟩
end Go.Proofs.Ytdohpjjggjehfaa.Print
end
section
namespace Go.Proofs.Ytdohpjjggjehfaa.Print
open Go.RowKit Go.Proofs.YtdohpjjggjehfaaW.PrintWords Go.Proofs.YtdohpjjggjehfaaW.PrintLast Go.Proofs.YtdohpjjggjehfaaW.PrintMore
attribute [local go_sem] max2_int min2_int max_two min_two max_three min_three max_four min_four   -- for this text's walks alone
attribute [local go_sem ↓] Go.Proofs.Ytdohpjjggjehfaa.Sem.isSome_setCell
attribute [local go_sem] Go.Instr.field Go.asAgg
set_option linter.unusedVariables false
set_option linter.unusedSimpArgs false
def seal_State.j0:Nat → List Int → Int → Bool → Option (Int)
 | 0,_,_,_=>none
 | k + 1,x0,x3,x7=>if x7=true then (some 10) else (if x3 < 0 then (some 11) else (if x3 > 1048576 then (some 11) else (if 0≤x3 then (if x3≤(x0.length:Int) then ((seal_sum.f k (x0.take (x3:Int).toNat)).bind fun t152=>((slices_Equal_byte_byte.f k (x0.drop (x3:Int).toNat) t152).bind fun t155=>(if t155=true then (some 0) else (some 11)))) else (none)) else (none))))
def seal_State.f (k:Nat) (l0:List Int):Option (Int):=if (l0.length:Int) > 0 then ((seal_Zeros.f k l0).bind fun t149=>(seal_State.j0 k l0 (wrap64 ((l0.length:Int) - 4)) (t149 == 0))) else (seal_State.j0 k l0 (wrap64 ((l0.length:Int) - 4)) false)
def seal_State.T4:Bool × List (List Nat × List Nat):=(true,[([],[]),([0],[0]),([1],[1]),([2],[2]),([3,2],[2,3]),([2,4],[2,4]),([5,2],[5]),([6],[6]),([6],[6]),([7,8,6],[6,7,8]),([6],[6]),([6],[6]),([10,11,6],[6,10,11]),([12,6,6],[6,12]),([9,13,13,6],[6,9,13]),([14,6],[6,14]),([6,15],[6,15]),([16,14],[16])])
def seal_State.B4:List Nat:=[0,1,3,7,15,31,63,127,127,511,127,127,3199,7295,16383,32767,65535,131071]
theorem seal_State.tab4:rtab .any (opsOf Try.f36 4)=seal_State.T4:=by kernel_rfl
theorem seal_State.bits4:waitsOk seal_State.T4.2 seal_State.B4=true:=by kernel_rfl
set_option maxHeartbeats 8000000 in
set_option maxRecDepth 100000 in
theorem seal_State.calls (k:Nat) (A0:Option Addr) (c0:Nat) (l0:List Int) (r:Int) (w:World) (hr0:Kd.C (Kd.int .u8) w A0 l0.length l0) (hc0:l0.length≤c0) (h:seal_State.f k l0=some r) :
  Calls Try.prog 36 #[.slice A0 l0.length c0] w fun e w'=>e=.returned (.int .i64 r)∧Below w.heap.size w w':=by
 have HR0:=zm hr0
 have HC0:=zm hc0
 clear hr0 hc0
 have HB:=zm (Below.refl w.heap.size w)
 have H:(if (l0.length:Int) > 0 then ((seal_Zeros.f k l0).bind fun t149=>(seal_State.j0 k l0 (wrap64 ((l0.length:Int) - 4)) (t149 == 0))) else (seal_State.j0 k l0 (wrap64 ((l0.length:Int) - 4)) false))=some r:=h
 clear h
 have HC2:=zm H
 clear H
 go_enter Try.func36,Try.ntmps36
 go_upto_region 2 with (fail)
 go_cut [7] (fun v7 wc=>∃ (kq:Nat) (x7_1:Bool),v7=.bool x7_1∧Aside0 (seal_State.j0 kq l0 (wrap64 ((l0.length:Int) - 4)) x7_1=some r)∧Aside0 (kq≤k)∧Aside0 (Below w.heap.size w wc))
 case first =>
  have H:=HC2.out
  clear HC2
  by_cases c3:(l0.length:Int) > 0
  ·rw [if_pos c3] at H
   have c3b0:decide (0 < (l0.length:Int))=true:=decide_eq_true c3
   have c3b1:decide (0 < l0.length)=true:=decide_eq_true (by omega)
   clear c3
   (first|rw [c3b0]|(simp only [i64_w,i32_w];rw [c3b0])|skip)
   replace H:=Option.bind_eq_some_iff.mp H
   obtain ⟨t149,A40,H⟩:=H
   replace H:(seal_State.j0 k l0 (wrap64 ((l0.length:Int) - 4)) (t149 == 0))=some r:=H
   have A4:=zm A40
   clear A40
   have H':=zm H
   clear H
   go_wp2_with (first|(go_at_call 56;(with_reducible refine (seal_Zeros.calls k _ _ l0 t149 _ ?side1 ?side2 A4.out).mono ?_);(case side1=>exact zC HR0);(case side2=>exact HC0.out);rintro e w' ⟨rfl,⟨nd,rfl⟩⟩))
   go_meet
   case rel=>exact ⟨_,((t149 == 0)),zs_,H',⟨by first|omega|exact Nat.le_refl _⟩,⟨zb_⟩⟩
  ·rw [if_neg c3] at H
   have c3b0:decide (0 < (l0.length:Int))=false:=decide_eq_false c3
   have c3b1:decide (0 < l0.length)=false:=decide_eq_false (by omega)
   clear c3
   (first|rw [c3b0]|(simp only [i64_w,i32_w];rw [c3b0])|skip)
   have H':=zm H
   clear H
   go_wp2
   go_meet
   case rel=>exact ⟨_,(false),zs_,H',⟨by first|omega|exact Nat.le_refl _⟩,⟨zb_⟩⟩
 case rest =>
  clear HC2
  try clear p2
  try clear c3
  try clear c3b0
  try clear c3b1
  obtain ⟨kq,x7_1,rfl,HA,HJ1,HB⟩:=hcut
  cases kq with
  | zero=>exact absurd HA.out (by simp [seal_State.j0])
  | succ kj1 =>
   have H:=HA.out
   clear HA
   simp only [seal_State.j0] at H
   by_cases c5:x7_1=true
   ·subst c5
    have H1:(some 10)=some r:=by rw [if_pos rfl] at H;exact H
    clear H
    have H:=H1
    clear H1
    obtain rfl:=Option.some.inj H
    go_wp2
    go_ret
    exact ⟨ze_,zb_⟩
   ·replace c5:=Bool.eq_false_iff.mpr c5
    subst c5
    have H1:(if (wrap64 ((l0.length:Int) - 4)) < 0 then (some 11) else (if (wrap64 ((l0.length:Int) - 4)) > 1048576 then (some 11) else (if 0≤(wrap64 ((l0.length:Int) - 4)) then (if (wrap64 ((l0.length:Int) - 4))≤(l0.length:Int) then ((seal_sum.f kj1 (l0.take ((wrap64 ((l0.length:Int) - 4)):Int).toNat)).bind fun t152=>((slices_Equal_byte_byte.f kj1 (l0.drop ((wrap64 ((l0.length:Int) - 4)):Int).toNat) t152).bind fun t155=>(if t155=true then (some 0) else (some 11)))) else (none)) else (none))))=some r:=by rw [if_neg (show ¬ (false=true) by decide)] at H;exact H
    clear H
    have H:=H1
    clear H1
    by_cases c6:(wrap64 ((l0.length:Int) - 4)) < 0
    ·rw [if_pos c6] at H
     have c6b0:decide ((wrap64 ((l0.length:Int) - 4)) < 0)=true:=decide_eq_true c6
     clear c6
     obtain rfl:=Option.some.inj H
     try go_wp2
     have n0_:=zm (zlD HB.out)
     clear HB
     have HB:=n0_
     clear n0_
     refine start_ (n:=18) (S:=fun w'=>True) (ds:=[]) (Array.replicate 18 false) (by kernel_rfl) rfl rfl trivial (fun hHeld=>?_);refine with_tabW seal_State.tab4 seal_State.bits4 (fun HT_ HW_=>?_)
     generalize wc.drew=w7 at HB hHeld ⊢
     refine zpu 0 ?_
     refine zpu 1 ?_
     refine zpu 2 ?_
     refine zpn 3 ?_
     refine zpn 4 ?_
     refine zpu 5 ?_
     refine zpu 6 ?_
     refine zpn 7 ?_
     refine zpn 8 ?_
     refine zpn 9 ?_
     refine zpn 10 ?_
     refine zpn 11 ?_
     refine zpn 12 ?_
     refine zpn 13 ?_
     refine zpn 14 ?_
     refine zpn 15 ?_
     refine zpu 16 ?_
     refine zpu 17 ?_
     refine zdo ?_
     try go_wp2
     go_ret
     exact ⟨ze_,zb_⟩
    ·rw [if_neg c6] at H
     have c6b0:decide ((wrap64 ((l0.length:Int) - 4)) < 0)=false:=decide_eq_false c6
     clear c6
     by_cases c8:(wrap64 ((l0.length:Int) - 4)) > 1048576
     ·rw [if_pos c8] at H
      have c8b0:decide (1048576 < (wrap64 ((l0.length:Int) - 4)))=true:=decide_eq_true c8
      clear c8
      obtain rfl:=Option.some.inj H
      try go_wp2
      have n0_:=zm (zlD HB.out)
      clear HB
      have HB:=n0_
      clear n0_
      refine start_ (n:=18) (S:=fun w'=>True) (ds:=[]) (Array.replicate 18 false) (by kernel_rfl) rfl rfl trivial (fun hHeld=>?_);refine with_tabW seal_State.tab4 seal_State.bits4 (fun HT_ HW_=>?_)
      generalize wc.drew=w9 at HB hHeld ⊢
      refine zpu 0 ?_
      refine zpu 1 ?_
      refine zpu 2 ?_
      refine zpu 3 ?_
      refine zpu 4 ?_
      refine zpu 5 ?_
      refine zpu 6 ?_
      refine zpn 7 ?_
      refine zpn 8 ?_
      refine zpn 9 ?_
      refine zpn 10 ?_
      refine zpn 11 ?_
      refine zpn 12 ?_
      refine zpn 13 ?_
      refine zpn 14 ?_
      refine zpn 15 ?_
      refine zpu 16 ?_
      refine zpu 17 ?_
      refine zdo ?_
      try go_wp2
      go_ret
      exact ⟨ze_,zb_⟩
     ·rw [if_neg c8] at H
      have c8b0:decide (1048576 < (wrap64 ((l0.length:Int) - 4)))=false:=decide_eq_false c8
      clear c8
      obtain ⟨ji10,hji10⟩:∃ j_:Int,(wrap64 ((l0.length:Int) - 4))=j_:=⟨_,rfl⟩
      replace H:(if 0≤(ji10) then (if (ji10)≤(l0.length:Int) then ((seal_sum.f kj1 (l0.take ((ji10):Int).toNat)).bind fun t152=>((slices_Equal_byte_byte.f kj1 (l0.drop ((ji10):Int).toNat) t152).bind fun t155=>(if t155=true then (some 0) else (some 11)))) else (none)) else (none))=some r:=by first|(rw [hji10] at H;exact H)|(simp only [hji10] at H ⊢;exact H)
      (try rw [hji10] at c6b0)
      (try rw [hji10] at c8b0)
      have hji10w:(IntKind.i64.wrap ((l0.length:Int) - 4))=ji10:=(i64_w _).trans hji10
      by_cases c11:0≤(ji10)
      ·rw [if_pos c11] at H
       have c11b0:=eq_true c11
       have c11b1:decide (0≤(ji10))=true:=decide_eq_true c11
       clear c11
       by_cases c12:(ji10)≤(l0.length:Int)
       ·rw [if_pos c12] at H
        have c12b0:=eq_true c12
        have c12b1:decide ((ji10)≤(l0.length:Int))=true:=decide_eq_true c12
        clear c12
        have c13b0:=eq_true (za_:0≤(ji10))
        have c14b0:=eq_true (za_:(ji10)≤(l0.length:Int))
        replace H:=Option.bind_eq_some_iff.mp H
        obtain ⟨t152,A150,H⟩:=H
        replace H:((slices_Equal_byte_byte.f kj1 (l0.drop ((ji10):Int).toNat) t152).bind fun t155=>(if t155=true then (some 0) else (some 11)))=some r:=H
        have A15:=zm A150
        clear A150
        replace H:=Option.bind_eq_some_iff.mp H
        obtain ⟨t155,A160,H⟩:=H
        replace H:(if t155=true then (some 0) else (some 11))=some r:=H
        have A16:=zm A160
        clear A160
        by_cases c17:t155=true
        ·subst c17
         have H1:(some 0)=some r:=by rw [if_pos rfl] at H;exact H
         clear H
         have H:=H1
         clear H1
         obtain rfl:=Option.some.inj H
         try go_wp2
         have n0_:=zm (zlD HB.out)
         clear HB
         have HB:=n0_
         clear n0_
         obtain ⟨i019,hi019,_,hsz19,_⟩:=info_parts info5
         obtain ⟨A19,hcut19,hA19,hC19⟩:=print_drop_of (P:=Try.prog) (Value.int .u8) 0 24 5 .i64 Try.underlying24 hi019 hsz19 A0 c0 l0 (ji10) (za_) (za_) HC0.out
         have HR150:=zm (Kd.C_of_reads (h1:=fun _=>rfl) (hA19 _ (Kd.reads_of_C HR0.out)))
         have HC150:=zm hC19
         clear hA19 hC19 hi019 hsz19
         obtain ⟨i020,hi020,_,hsz20,_⟩:=info_parts info5
         obtain ⟨hcut20,hA20,hC20⟩:=print_take_of (P:=Try.prog) (Value.int .u8) 0 24 5 .i64 Try.underlying24 hi020 hsz20 A0 c0 l0 (ji10) (za_) (za_) HC0.out
         have HR151:=zm (Kd.C_of_reads (h1:=fun _=>rfl) (hA20 _ (Kd.reads_of_C HR0.out)))
         have HC151:=zm hC20
         clear hA20 hC20 hi020 hsz20
         refine start_ (n:=18) (S:=fun w'=>True) (ds:=[]) (Array.replicate 18 false) (by kernel_rfl) rfl rfl trivial (fun hHeld=>?_);refine with_tabW seal_State.tab4 seal_State.bits4 (fun HT_ HW_=>?_)
         generalize wc.drew=w18 at HB HR150 HR151 hHeld ⊢
         refine zpu 0 ?_
         refine zpu 1 ?_
         refine zpu 2 ?_
         refine zpu 3 ?_
         refine zpu 4 ?_
         refine zpu 5 ?_
         refine zpu 6 ?_
         refine zpu 7 ?_
         refine zpu 8 ?_
         refine zpu 9 ?_
         refine zpu 10 ?_
         refine zpu 11 ?_
         refine zpu 12 ?_
         refine zon 13 (some 30) (fun K hK=>?_)
         refine goes_ Try.func52 (by kernel_rfl) rfl #[.slice A0 (l0.take ((ji10):Int).toNat).length c0] (by rfl) rfl rfl (by (try simp only [List.map_toArray,List.map_cons,List.map_nil]);first|done|(rw [show (l0.take ((ji10):Int).toNat).length=(ji10).toNat from (by rw [List.length_take];have h_:((ji10):Int)≤(l0.length:Int):=za_;omega)] <;> rfl)|(simp only [hji10];rfl)|rfl|(simp only [List.length_drop,List.length_take];rfl)) ?_
         with_reducible refine (seal_sum.calls kj1 _ _ (l0.take ((ji10):Int).toNat) t152 _ ?side1 ?side2 A15.out).mono ?_
         (case side1=>exact zC HR151)
         (case side2=>exact HC151.out)
         rintro e w21 ⟨v153,rfl,ho0,hb⟩
         refine ⟨_,rfl,?_⟩
         have n0_:=zm (Kd.R_lower ho0 (below_size (zb_)))
         have n1_:=zkH HB hb
         clear HB
         have HO154:=n0_
         have HB:=n1_
         clear n0_ n1_
         (try clear hb)
         (try clear hb2)
         (try clear hk)
         (try clear hi)
         (try clear ho0)
         obtain ⟨Ao22,co22,eo22⟩:=Kd.R_slice HO154.out
         (first|subst eo22|(injection eo22 with f1_ f2_ f3_;have f4_:=f1_.symm;have f5_:=f3_.symm;clear f1_ f2_ f3_;subst f4_;subst f5_))
         refine hK.out _ _ trivial (fun hHeld=>?_)
         clear hK K
         refine znm (some 30) ?_
         refine zon 14 (some 31) (fun K hK=>?_)
         refine goes_ Try.func57 (by kernel_rfl) rfl #[.slice A19 (l0.drop ((ji10):Int).toNat).length (c0 - (ji10).toNat),.slice Ao22 t152.length co22] (by rfl) rfl rfl (by (try simp only [List.map_toArray,List.map_cons,List.map_nil]);first|done|(rw [show (l0.drop ((ji10):Int).toNat).length=(l0.length - (ji10).toNat) from List.length_drop] <;> rfl)|(simp only [hji10];rfl)|rfl|(simp only [List.length_drop,List.length_take];rfl)) ?_
         with_reducible refine (slices_Equal_byte_byte.calls kj1 _ _ (l0.drop ((ji10):Int).toNat) _ _ t152 true _ ?side1 ?side2 ?side3 ?side4 A16.out).mono ?_
         (case side1=>exact zC HR150)
         (case side2=>exact HC150.out)
         (case side3=>repeat (first|exact (Kd.R_reads' HO154.out).2.2|(with_reducible refine Kd.C_alloc ?_ _)|(with_reducible refine Kd.C_drewN ?_ _)|(with_reducible refine Kd.C_drew ?_)))
         (case side4=>exact (Kd.R_reads' HO154.out).2.1)
         rintro e w' ⟨rfl,⟨nd,rfl⟩⟩
         refine ⟨_,rfl,?_⟩
         refine hK.out _ _ trivial (fun hHeld=>?_)
         clear hK K
         refine znm (some 31) ?_
         refine zpu 15 ?_
         refine zpu 16 ?_
         refine zpu 17 ?_
         refine zdo ?_
         try go_wp2
         go_ret
         exact ⟨by first|rfl|(simp [errW_none,errW_some] <;> rfl)|(simp only [← hji10];first|rfl|(simp [errW_none,errW_some] <;> rfl))|(simp [*,errW_none,errW_some] <;> rfl),zb_⟩
        ·replace c17:=Bool.eq_false_iff.mpr c17
         subst c17
         have H1:(some 11)=some r:=by rw [if_neg (show ¬ (false=true) by decide)] at H;exact H
         clear H
         have H:=H1
         clear H1
         obtain rfl:=Option.some.inj H
         try go_wp2
         have n0_:=zm (zlD HB.out)
         clear HB
         have HB:=n0_
         clear n0_
         obtain ⟨i024,hi024,_,hsz24,_⟩:=info_parts info5
         obtain ⟨A24,hcut24,hA24,hC24⟩:=print_drop_of (P:=Try.prog) (Value.int .u8) 0 24 5 .i64 Try.underlying24 hi024 hsz24 A0 c0 l0 (ji10) (za_) (za_) HC0.out
         have HR150:=zm (Kd.C_of_reads (h1:=fun _=>rfl) (hA24 _ (Kd.reads_of_C HR0.out)))
         have HC150:=zm hC24
         clear hA24 hC24 hi024 hsz24
         obtain ⟨i025,hi025,_,hsz25,_⟩:=info_parts info5
         obtain ⟨hcut25,hA25,hC25⟩:=print_take_of (P:=Try.prog) (Value.int .u8) 0 24 5 .i64 Try.underlying24 hi025 hsz25 A0 c0 l0 (ji10) (za_) (za_) HC0.out
         have HR151:=zm (Kd.C_of_reads (h1:=fun _=>rfl) (hA25 _ (Kd.reads_of_C HR0.out)))
         have HC151:=zm hC25
         clear hA25 hC25 hi025 hsz25
         refine start_ (n:=18) (S:=fun w'=>True) (ds:=[]) (Array.replicate 18 false) (by kernel_rfl) rfl rfl trivial (fun hHeld=>?_);refine with_tabW seal_State.tab4 seal_State.bits4 (fun HT_ HW_=>?_)
         generalize wc.drew=w23 at HB HR150 HR151 hHeld ⊢
         refine zpu 0 ?_
         refine zpu 1 ?_
         refine zpu 2 ?_
         refine zpu 3 ?_
         refine zpu 4 ?_
         refine zpu 5 ?_
         refine zpu 6 ?_
         refine zpu 7 ?_
         refine zpu 8 ?_
         refine zpu 9 ?_
         refine zpu 10 ?_
         refine zpu 11 ?_
         refine zpu 12 ?_
         refine zon 13 (some 30) (fun K hK=>?_)
         refine goes_ Try.func52 (by kernel_rfl) rfl #[.slice A0 (l0.take ((ji10):Int).toNat).length c0] (by rfl) rfl rfl (by (try simp only [List.map_toArray,List.map_cons,List.map_nil]);first|done|(rw [show (l0.take ((ji10):Int).toNat).length=(ji10).toNat from (by rw [List.length_take];have h_:((ji10):Int)≤(l0.length:Int):=za_;omega)] <;> rfl)|(simp only [hji10];rfl)|rfl|(simp only [List.length_drop,List.length_take];rfl)) ?_
         with_reducible refine (seal_sum.calls kj1 _ _ (l0.take ((ji10):Int).toNat) t152 _ ?side1 ?side2 A15.out).mono ?_
         (case side1=>exact zC HR151)
         (case side2=>exact HC151.out)
         rintro e w26 ⟨v153,rfl,ho0,hb⟩
         refine ⟨_,rfl,?_⟩
         have n0_:=zm (Kd.R_lower ho0 (below_size (zb_)))
         have n1_:=zkH HB hb
         clear HB
         have HO154:=n0_
         have HB:=n1_
         clear n0_ n1_
         (try clear hb)
         (try clear hb2)
         (try clear hk)
         (try clear hi)
         (try clear ho0)
         obtain ⟨Ao27,co27,eo27⟩:=Kd.R_slice HO154.out
         (first|subst eo27|(injection eo27 with f1_ f2_ f3_;have f4_:=f1_.symm;have f5_:=f3_.symm;clear f1_ f2_ f3_;subst f4_;subst f5_))
         refine hK.out _ _ trivial (fun hHeld=>?_)
         clear hK K
         refine znm (some 30) ?_
         refine zon 14 (some 31) (fun K hK=>?_)
         refine goes_ Try.func57 (by kernel_rfl) rfl #[.slice A24 (l0.drop ((ji10):Int).toNat).length (c0 - (ji10).toNat),.slice Ao27 t152.length co27] (by rfl) rfl rfl (by (try simp only [List.map_toArray,List.map_cons,List.map_nil]);first|done|(rw [show (l0.drop ((ji10):Int).toNat).length=(l0.length - (ji10).toNat) from List.length_drop] <;> rfl)|(simp only [hji10];rfl)|rfl|(simp only [List.length_drop,List.length_take];rfl)) ?_
         with_reducible refine (slices_Equal_byte_byte.calls kj1 _ _ (l0.drop ((ji10):Int).toNat) _ _ t152 false _ ?side1 ?side2 ?side3 ?side4 A16.out).mono ?_
         (case side1=>exact zC HR150)
         (case side2=>exact HC150.out)
         (case side3=>repeat (first|exact (Kd.R_reads' HO154.out).2.2|(with_reducible refine Kd.C_alloc ?_ _)|(with_reducible refine Kd.C_drewN ?_ _)|(with_reducible refine Kd.C_drew ?_)))
         (case side4=>exact (Kd.R_reads' HO154.out).2.1)
         rintro e w' ⟨rfl,⟨nd,rfl⟩⟩
         refine ⟨_,rfl,?_⟩
         refine hK.out _ _ trivial (fun hHeld=>?_)
         clear hK K
         refine znm (some 31) ?_
         refine zpu 15 ?_
         refine zpu 16 ?_
         refine zpu 17 ?_
         refine zdo ?_
         try go_wp2
         go_ret
         exact ⟨by first|rfl|(simp [errW_none,errW_some] <;> rfl)|(simp only [← hji10];first|rfl|(simp [errW_none,errW_some] <;> rfl))|(simp [*,errW_none,errW_some] <;> rfl),zb_⟩
       ·rw [if_neg c12] at H
        exact absurd H (by simp)
      ·rw [if_neg c11] at H
       exact absurd H (by simp)
end Go.Proofs.Ytdohpjjggjehfaa.Print
end
section
namespace Go.Proofs.Ytdohpjjggjehfaa.Print
open Go.RowKit Go.Proofs.YtdohpjjggjehfaaW.PrintWords Go.Proofs.YtdohpjjggjehfaaW.PrintLast Go.Proofs.YtdohpjjggjehfaaW.PrintMore
attribute [local go_sem] max2_int min2_int max_two min_two max_three min_three max_four min_four   -- for this text's walks alone
attribute [local go_sem ↓] Go.Proofs.Ytdohpjjggjehfaa.Sem.isSome_setCell
attribute [local go_sem] Go.Instr.field Go.asAgg
set_option linter.unusedVariables false
set_option linter.unusedSimpArgs false
def seal_total.l0:Nat → Int → List Int → Int → Int → Option (Int × Int)
 | 0,_,_,_,_=>none
 | k + 1,x4,x10,x11,x12=>if x12 < x11 then (if 0≤x12 then (if x12 < (x10.length:Int) then (if (rd x10 x12) < 1 then (some (0,1)) else (if (rd x10 x12) > 64 then (some (0,1)) else (seal_total.l0 k (wrap64 (x4 + (rd x10 x12))) x10 x11 (wrap64 (x12 + 1))))) else (none)) else (none)) else (some (x4,0))
def seal_total.f (k:Nat) (l0:List Int):Option (Int × Int):=if (l0.length:Int) > 64 then (some (0,1)) else (seal_total.l0 k 0 l0 (l0.length:Int) 0)
theorem seal_total.mono_l:∀ k,(∀ y0 y1 y2 y3,LeO (seal_total.l0 k y0 y1 y2 y3) (seal_total.l0 (k + 1) y0 y1 y2 y3))
 | 0=>fun _ _ _ _ r h=>by simp [seal_total.l0] at h
 | k + 1=>by
  have ih0:=seal_total.mono_l k
  ·intro y0 y1 y2 y3
   unfold seal_total.l0
   repeat' first
   | (with_reducible exact ih0 _ _ _ _)
   | (with_reducible exact LeO.refl _)
   | (with_reducible exact LeO.none _)
   | (with_reducible refine LeO.ite ?_ ?_)
   | (with_reducible refine LeO.bind ?_ (fun _=>?_))
   | exact ih0 _ _ _ _
   | exact LeO.none _
   | refine LeO.ite ?_ ?_
   | refine LeO.bind ?_ (fun _=>?_)
theorem seal_total.mono:∀ a0 k,LeO (seal_total.f k a0) (seal_total.f (k + 1) a0):=by
 intro a0 k
 have ih0:=seal_total.mono_l k
 unfold seal_total.f
 repeat' first
   | (with_reducible exact ih0 _ _ _ _)
   | (with_reducible exact LeO.refl _)
   | (with_reducible exact LeO.none _)
   | (with_reducible refine LeO.ite ?_ ?_)
   | (with_reducible refine LeO.bind ?_ (fun _=>?_))
   | exact ih0 _ _ _ _
   | exact LeO.none _
   | refine LeO.ite ?_ ?_
   | refine LeO.bind ?_ (fun _=>?_)
set_option maxHeartbeats 8000000 in
set_option maxRecDepth 100000 in
theorem seal_total.calls (k:Nat) (A0:Option Addr) (c0:Nat) (l0:List Int) (r1:Int) (r2:Int) (w:World) (hr0:Kd.C (Kd.int .i64) w A0 l0.length l0) (hc0:l0.length≤c0) (h:seal_total.f k l0=some (r1,r2)) :
  Calls Try.prog 58 #[.slice A0 l0.length c0] w fun e w'=>e=.returned (.tuple #[.int .i64 r1,.int .i64 r2])∧Drawn0 w w':=by
 have HR0:=zm hr0
 have HC0:=zm hc0
 clear hr0 hc0
 have H:(if (l0.length:Int) > 64 then (some (0,1)) else (seal_total.l0 k 0 l0 (l0.length:Int) 0))=some (r1,r2):=h
 clear h
 by_cases c2:(l0.length:Int) > 64
 ·rw [if_pos c2] at H
  have c2b0:decide (64 < (l0.length:Int))=true:=decide_eq_true c2
  have c2b1:decide (64 < l0.length)=true:=decide_eq_true (by omega)
  clear c2
  simp only [Option.some.injEq,Prod.mk.injEq] at H
  obtain ⟨rfl,rfl⟩:=H
  go_enter Try.func58,Try.ntmps58
  go_wp2
  go_ret2
  exact ⟨by first|rfl|(simp;done)|(simp [*];done),by repeat (first|exact Drawn0.refl _|apply Drawn0.step)⟩
 ·rw [if_neg c2] at H
  have c2b0:decide (64 < (l0.length:Int))=false:=decide_eq_false c2
  have c2b1:decide (64 < l0.length)=false:=decide_eq_false (by omega)
  clear c2
  have H':=zm H
  clear H
  go_enter Try.func58,Try.ntmps58
  go_wp2
  go_loopg [4,12] k (fun kq v4 v12 w'=>∃ (x4_1:Int) (x12_1:Int),v4=.int .i64 x4_1∧v12=.int .i64 x12_1∧Aside0 (seal_total.l0 kq x4_1 l0 (l0.length:Int) x12_1=some (r1,r2))∧Aside0 (kq≤k)∧Drawn0 w w')
  case atStart=>exact ⟨(0),(0),zs_,zs_,H',⟨Nat.le_refl _⟩,by repeat (first|exact Drawn0.refl _|apply Drawn0.step)⟩
  case round =>
   clear H'
   try clear c2
   try clear c2b0
   try clear c2b1
   try clear p2
   obtain ⟨x4_1,x12_1,rfl,rfl,HA,HK1,⟨m1,rfl⟩⟩:=hrel
   cases gk with
   | zero=>exact absurd HA.out (by simp [seal_total.l0])
   | succ k1 =>
    have H:=HA.out
    clear HA
    simp only [seal_total.l0] at H
    by_cases c3:x12_1 < (l0.length:Int)
    ·rw [if_pos c3] at H
     have c3b0:decide (x12_1 < (l0.length:Int))=true:=decide_eq_true c3
     clear c3
     by_cases c4:0≤x12_1
     ·rw [if_pos c4] at H
      have c4b0:decide (0≤x12_1)=true:=decide_eq_true c4
      clear c4
      by_cases c5:x12_1 < (l0.length:Int)
      ·rw [if_pos c5] at H
       have c5b0:decide (x12_1 < (l0.length:Int))=true:=decide_eq_true c5
       clear c5
       by_cases c6:(rd l0 x12_1) < 1
       ·rw [if_pos c6] at H
        have c6b0:decide ((rd l0 x12_1) < 1)=true:=decide_eq_true c6
        clear c6
        simp only [Option.some.injEq,Prod.mk.injEq] at H
        obtain ⟨rfl,rfl⟩:=H
        have p102:0≤(x12_1:Int):=za_
        have q102:x12_1 < (l0.length:Int):=za_
        obtain ⟨ad102,e102,hx102_0⟩:=Kd.at_int HR0.out x12_1 p102 q102
        cases e102
        replace p102:=eq_true p102
        replace q102:=eq_true q102
        go_wp2
        go_ret2
        exact ⟨by first|rfl|(simp;done)|(simp [*];done),by repeat (first|exact Drawn0.refl _|apply Drawn0.step)⟩
       ·rw [if_neg c6] at H
        have c6b0:decide ((rd l0 x12_1) < 1)=false:=decide_eq_false c6
        clear c6
        by_cases c7:(rd l0 x12_1) > 64
        ·rw [if_pos c7] at H
         have c7b0:decide (64 < (rd l0 x12_1))=true:=decide_eq_true c7
         clear c7
         simp only [Option.some.injEq,Prod.mk.injEq] at H
         obtain ⟨rfl,rfl⟩:=H
         have p102:0≤(x12_1:Int):=za_
         have q102:x12_1 < (l0.length:Int):=za_
         obtain ⟨ad102,e102,hx102_0⟩:=Kd.at_int HR0.out x12_1 p102 q102
         cases e102
         replace p102:=eq_true p102
         replace q102:=eq_true q102
         go_wp2
         go_ret2
         exact ⟨by first|rfl|(simp;done)|(simp [*];done),by repeat (first|exact Drawn0.refl _|apply Drawn0.step)⟩
        ·rw [if_neg c7] at H
         have c7b0:decide (64 < (rd l0 x12_1))=false:=decide_eq_false c7
         clear c7
         have H':=zm H
         clear H
         have p102:0≤(x12_1:Int):=za_
         have q102:x12_1 < (l0.length:Int):=za_
         obtain ⟨ad102,e102,hx102_0⟩:=Kd.at_int HR0.out x12_1 p102 q102
         cases e102
         replace p102:=eq_true p102
         replace q102:=eq_true q102
         go_wp2
         go_roundg k1
         case measure=>have:=HK1.out;omega
         case rel=>exact ⟨(wrap64 (x4_1 + (rd l0 x12_1))),(wrap64 (x12_1 + 1)),zs_,zs_,H',⟨by have:=HK1.out;omega⟩,by repeat (first|exact Drawn0.refl _|apply Drawn0.step)⟩
      ·rw [if_neg c5] at H
       exact absurd H (by simp)
     ·rw [if_neg c4] at H
      exact absurd H (by simp)
    ·rw [if_neg c3] at H
     have c3b0:decide (x12_1 < (l0.length:Int))=false:=decide_eq_false c3
     clear c3
     simp only [Option.some.injEq,Prod.mk.injEq] at H
     obtain ⟨rfl,rfl⟩:=H
     go_wp2
     go_ret2
     exact ⟨by first|rfl|(simp;done)|(simp [*];done),by repeat (first|exact Drawn0.refl _|apply Drawn0.step)⟩
def seal_Width.f (k:Nat) (l0:List Int):Option (Int × Int):=(seal_total.f k l0).bind fun bt103=>(some (wrap64 (Int.tdiv (wrap64 (bt103.1 + 7)) 8),bt103.2))
theorem seal_Width.mono:∀ a0 k,LeO (seal_Width.f k a0) (seal_Width.f (k + 1) a0):=by
 intro a0 k
 unfold seal_Width.f
 repeat' first
   | (with_reducible exact seal_total.mono _ _)
   | (with_reducible exact LeO.refl _)
   | (with_reducible exact LeO.none _)
   | (with_reducible refine LeO.ite ?_ ?_)
   | (with_reducible refine LeO.bind ?_ (fun _=>?_))
   | exact seal_total.mono _ _
   | exact LeO.none _
   | refine LeO.ite ?_ ?_
   | refine LeO.bind ?_ (fun _=>?_)
set_option maxHeartbeats 8000000 in
set_option maxRecDepth 100000 in
theorem seal_Width.calls (k:Nat) (A0:Option Addr) (c0:Nat) (l0:List Int) (r1:Int) (r2:Int) (w:World) (hr0:Kd.C (Kd.int .i64) w A0 l0.length l0) (hc0:l0.length≤c0) (h:seal_Width.f k l0=some (r1,r2)) :
  Calls Try.prog 50 #[.slice A0 l0.length c0] w fun e w'=>e=.returned (.tuple #[.int .i64 r1,.int .i64 r2])∧Drawn0 w w':=by
 have HR0:=zm hr0
 have HC0:=zm hc0
 clear hr0 hc0
 have H:((seal_total.f k l0).bind fun bt103=>(some (wrap64 (Int.tdiv (wrap64 (bt103.1 + 7)) 8),bt103.2)))=some (r1,r2):=h
 clear h
 replace H:=Option.bind_eq_some_iff.mp H
 obtain ⟨⟨t103,t104⟩,A20,H⟩:=H
 replace H:(some (wrap64 (Int.tdiv (wrap64 (t103 + 7)) 8),t104))=some (r1,r2):=H
 have A2:=zm A20
 clear A20
 simp only [Option.some.injEq,Prod.mk.injEq] at H
 obtain ⟨rfl,rfl⟩:=H
 go_enter Try.func50,Try.ntmps50
 go_wp2_with (first|((with_reducible refine gate_callee (f:=58) rfl ?_);refine goesL_ (some 8) rfl rfl Try.func58 (by kernel_rfl) rfl #[.slice A0 l0.length c0] rfl (by (try simp only [List.map_toArray,List.map_cons,List.map_nil]);first|done|rfl|(simp only [List.length_drop,List.length_take];rfl)) ?_;(with_reducible refine (seal_total.calls k _ _ l0 t103 t104 _ ?side1 ?side2 A2.out).mono ?_);(case side1=>repeat (first|exact HR0.out|(with_reducible refine Kd.C_alloc ?_ _)|(with_reducible refine Kd.C_drewN ?_ _)|(with_reducible refine Kd.C_drew ?_)));(case side2=>exact HC0.out);rintro e w' ⟨rfl,⟨nd,rfl⟩⟩;refine ⟨_,rfl,?_⟩))
 go_ret2
 exact ⟨by first|rfl|(simp;done)|(simp [*];done),by repeat (first|exact Drawn0.refl _|apply Drawn0.step)⟩
def bits_Len64.j0:Nat → Int → Int → Option (Int)
 | 0,_,_=>none
 | k + 1,x0,x2=>if x0 ≥ 65536 then (if (x0 / 65536) ≥ 256 then (if 0≤(((x0 / 65536) / 256) % 256) then (if (((x0 / 65536) / 256) % 256) < 256 then (some (wrap64 ((wrap64 ((wrap64 (x2 + 16)) + 8)) + (wrap64 (bt (⟨#[0,1,2,2,3,3,3,3,4,4,4,4,4,4,4,4,5,5,5,5,5,5,5,5,5,5,5,5,5,5,5,5,6,6,6,6,6,6,6,6,6,6,6,6,6,6,6,6,6,6,6,6,6,6,6,6,6,6,6,6,6,6,6,6,7,7,7,7,7,7,7,7,7,7,7,7,7,7,7,7,7,7,7,7,7,7,7,7,7,7,7,7,7,7,7,7,7,7,7,7,7,7,7,7,7,7,7,7,7,7,7,7,7,7,7,7,7,7,7,7,7,7,7,7,7,7,7,7,8,8,8,8,8,8,8,8,8,8,8,8,8,8,8,8,8,8,8,8,8,8,8,8,8,8,8,8,8,8,8,8,8,8,8,8,8,8,8,8,8,8,8,8,8,8,8,8,8,8,8,8,8,8,8,8,8,8,8,8,8,8,8,8,8,8,8,8,8,8,8,8,8,8,8,8,8,8,8,8,8,8,8,8,8,8,8,8,8,8,8,8,8,8,8,8,8,8,8,8,8,8,8,8,8,8,8,8,8,8,8,8,8,8,8,8,8,8,8,8,8,8,8,8,8,8,8,8]⟩:ByteArray) (((x0 / 65536) / 256) % 256)))))) else (none)) else (none)) else (if 0≤((x0 / 65536) % 256) then (if ((x0 / 65536) % 256) < 256 then (some (wrap64 ((wrap64 (x2 + 16)) + (wrap64 (bt (⟨#[0,1,2,2,3,3,3,3,4,4,4,4,4,4,4,4,5,5,5,5,5,5,5,5,5,5,5,5,5,5,5,5,6,6,6,6,6,6,6,6,6,6,6,6,6,6,6,6,6,6,6,6,6,6,6,6,6,6,6,6,6,6,6,6,7,7,7,7,7,7,7,7,7,7,7,7,7,7,7,7,7,7,7,7,7,7,7,7,7,7,7,7,7,7,7,7,7,7,7,7,7,7,7,7,7,7,7,7,7,7,7,7,7,7,7,7,7,7,7,7,7,7,7,7,7,7,7,7,8,8,8,8,8,8,8,8,8,8,8,8,8,8,8,8,8,8,8,8,8,8,8,8,8,8,8,8,8,8,8,8,8,8,8,8,8,8,8,8,8,8,8,8,8,8,8,8,8,8,8,8,8,8,8,8,8,8,8,8,8,8,8,8,8,8,8,8,8,8,8,8,8,8,8,8,8,8,8,8,8,8,8,8,8,8,8,8,8,8,8,8,8,8,8,8,8,8,8,8,8,8,8,8,8,8,8,8,8,8,8,8,8,8,8,8,8,8,8,8,8,8,8,8,8,8,8,8]⟩:ByteArray) ((x0 / 65536) % 256)))))) else (none)) else (none))) else (if x0 ≥ 256 then (if 0≤((x0 / 256) % 256) then (if ((x0 / 256) % 256) < 256 then (some (wrap64 ((wrap64 (x2 + 8)) + (wrap64 (bt (⟨#[0,1,2,2,3,3,3,3,4,4,4,4,4,4,4,4,5,5,5,5,5,5,5,5,5,5,5,5,5,5,5,5,6,6,6,6,6,6,6,6,6,6,6,6,6,6,6,6,6,6,6,6,6,6,6,6,6,6,6,6,6,6,6,6,7,7,7,7,7,7,7,7,7,7,7,7,7,7,7,7,7,7,7,7,7,7,7,7,7,7,7,7,7,7,7,7,7,7,7,7,7,7,7,7,7,7,7,7,7,7,7,7,7,7,7,7,7,7,7,7,7,7,7,7,7,7,7,7,8,8,8,8,8,8,8,8,8,8,8,8,8,8,8,8,8,8,8,8,8,8,8,8,8,8,8,8,8,8,8,8,8,8,8,8,8,8,8,8,8,8,8,8,8,8,8,8,8,8,8,8,8,8,8,8,8,8,8,8,8,8,8,8,8,8,8,8,8,8,8,8,8,8,8,8,8,8,8,8,8,8,8,8,8,8,8,8,8,8,8,8,8,8,8,8,8,8,8,8,8,8,8,8,8,8,8,8,8,8,8,8,8,8,8,8,8,8,8,8,8,8,8,8,8,8,8,8]⟩:ByteArray) ((x0 / 256) % 256)))))) else (none)) else (none)) else (if 0≤((x0) % 256) then (if ((x0) % 256) < 256 then (some (wrap64 (x2 + (wrap64 (bt (⟨#[0,1,2,2,3,3,3,3,4,4,4,4,4,4,4,4,5,5,5,5,5,5,5,5,5,5,5,5,5,5,5,5,6,6,6,6,6,6,6,6,6,6,6,6,6,6,6,6,6,6,6,6,6,6,6,6,6,6,6,6,6,6,6,6,7,7,7,7,7,7,7,7,7,7,7,7,7,7,7,7,7,7,7,7,7,7,7,7,7,7,7,7,7,7,7,7,7,7,7,7,7,7,7,7,7,7,7,7,7,7,7,7,7,7,7,7,7,7,7,7,7,7,7,7,7,7,7,7,8,8,8,8,8,8,8,8,8,8,8,8,8,8,8,8,8,8,8,8,8,8,8,8,8,8,8,8,8,8,8,8,8,8,8,8,8,8,8,8,8,8,8,8,8,8,8,8,8,8,8,8,8,8,8,8,8,8,8,8,8,8,8,8,8,8,8,8,8,8,8,8,8,8,8,8,8,8,8,8,8,8,8,8,8,8,8,8,8,8,8,8,8,8,8,8,8,8,8,8,8,8,8,8,8,8,8,8,8,8,8,8,8,8,8,8,8,8,8,8,8,8,8,8,8,8,8,8]⟩:ByteArray) ((x0) % 256)))))) else (none)) else (none)))
def bits_Len64.f (k:Nat) (a0:Int):Option (Int):=if a0 ≥ 4294967296 then (bits_Len64.j0 k (a0 / 4294967296) 32) else (bits_Len64.j0 k a0 0)
theorem bits_Len64.mono_l:∀ k,(∀ y0 y1,LeO (bits_Len64.j0 k y0 y1) (bits_Len64.j0 (k + 1) y0 y1))
 | 0=>fun _ _ r h=>by simp [bits_Len64.j0] at h
 | k + 1=>by
  have ih0:=bits_Len64.mono_l k
  ·intro y0 y1
   unfold bits_Len64.j0
   repeat' first
   | (with_reducible exact ih0 _ _)
   | (with_reducible exact LeO.refl _)
   | (with_reducible exact LeO.none _)
   | (with_reducible refine LeO.ite ?_ ?_)
   | (with_reducible refine LeO.bind ?_ (fun _=>?_))
   | exact ih0 _ _
   | exact LeO.none _
   | refine LeO.ite ?_ ?_
   | refine LeO.bind ?_ (fun _=>?_)
theorem bits_Len64.mono:∀ a0 k,LeO (bits_Len64.f k a0) (bits_Len64.f (k + 1) a0):=by
 intro a0 k
 have ih0:=bits_Len64.mono_l k
 unfold bits_Len64.f
 repeat' first
   | (with_reducible exact ih0 _ _)
   | (with_reducible exact LeO.refl _)
   | (with_reducible exact LeO.none _)
   | (with_reducible refine LeO.ite ?_ ?_)
   | (with_reducible refine LeO.bind ?_ (fun _=>?_))
   | exact ih0 _ _
   | exact LeO.none _
   | refine LeO.ite ?_ ?_
   | refine LeO.bind ?_ (fun _=>?_)
set_option maxHeartbeats 8000000 in
set_option maxRecDepth 100000 in
theorem bits_Len64.calls (k:Nat) (a0:Int) (r:Int) (w:World) (h:bits_Len64.f k a0=some r) :
  Calls Try.prog 51 #[.int .u64 a0] w fun e w'=>e=.returned (.int .i64 r)∧Drawn0 w w':=by
 have H:(if a0 ≥ 4294967296 then (bits_Len64.j0 k (a0 / 4294967296) 32) else (bits_Len64.j0 k a0 0))=some r:=h
 clear h
 have HC2:=zm H
 clear H
 go_enter Try.func51,Try.ntmps51
 go_upto_if 4 with (fail)
 go_cut [0,2] (fun v0 v2 wc=>∃ (kq:Nat) (x0_1:Int) (x2_1:Int),v0=.int .u64 x0_1∧v2=.int .i64 x2_1∧Aside0 (bits_Len64.j0 kq x0_1 x2_1=some r)∧Aside0 (kq≤k)∧Drawn0 w wc)
 case first =>
  have H:=HC2.out
  clear HC2
  by_cases c3:a0 ≥ 4294967296
  ·rw [if_pos c3] at H
   have c3b0:decide (4294967296≤a0)=true:=decide_eq_true c3
   clear c3
   (first|rw [c3b0]|(simp only [i64_w,i32_w];rw [c3b0])|skip)
   have H':=zm H
   clear H
   go_wp2
   go_meet
   case rel=>exact ⟨_,(a0 / 4294967296),(32),zs_,zs_,H',⟨by first|omega|exact Nat.le_refl _⟩,by repeat (first|exact Drawn0.refl _|apply Drawn0.step)⟩
  ·rw [if_neg c3] at H
   have c3b0:decide (4294967296≤a0)=false:=decide_eq_false c3
   clear c3
   (first|rw [c3b0]|(simp only [i64_w,i32_w];rw [c3b0])|skip)
   have H':=zm H
   clear H
   go_wp2
   go_meet
   case rel=>exact ⟨_,(a0),(0),zs_,zs_,H',⟨by first|omega|exact Nat.le_refl _⟩,by repeat (first|exact Drawn0.refl _|apply Drawn0.step)⟩
 case rest =>
  clear HC2
  try clear p2
  try clear c3
  try clear c3b0
  obtain ⟨kq,x0_1,x2_1,rfl,rfl,HA,HJ1,⟨mc1,rfl⟩⟩:=hcut
  cases kq with
  | zero=>exact absurd HA.out (by simp [bits_Len64.j0])
  | succ kj1 =>
   have H:=HA.out
   clear HA
   simp only [bits_Len64.j0] at H
   by_cases c4:x0_1 ≥ 65536
   ·rw [if_pos c4] at H
    have c4b0:decide (65536≤x0_1)=true:=decide_eq_true c4
    clear c4
    by_cases c5:(x0_1 / 65536) ≥ 256
    ·rw [if_pos c5] at H
     have c5b0:decide (256≤(x0_1 / 65536))=true:=decide_eq_true c5
     clear c5
     obtain ⟨ji6,hji6⟩:∃ j_:Int,(((x0_1 / 65536) / 256) % 256)=j_:=⟨_,rfl⟩
     replace H:(if 0≤(ji6) then (if (ji6) < 256 then (some (wrap64 ((wrap64 ((wrap64 (x2_1 + 16)) + 8)) + (wrap64 (bt (⟨#[0,1,2,2,3,3,3,3,4,4,4,4,4,4,4,4,5,5,5,5,5,5,5,5,5,5,5,5,5,5,5,5,6,6,6,6,6,6,6,6,6,6,6,6,6,6,6,6,6,6,6,6,6,6,6,6,6,6,6,6,6,6,6,6,7,7,7,7,7,7,7,7,7,7,7,7,7,7,7,7,7,7,7,7,7,7,7,7,7,7,7,7,7,7,7,7,7,7,7,7,7,7,7,7,7,7,7,7,7,7,7,7,7,7,7,7,7,7,7,7,7,7,7,7,7,7,7,7,8,8,8,8,8,8,8,8,8,8,8,8,8,8,8,8,8,8,8,8,8,8,8,8,8,8,8,8,8,8,8,8,8,8,8,8,8,8,8,8,8,8,8,8,8,8,8,8,8,8,8,8,8,8,8,8,8,8,8,8,8,8,8,8,8,8,8,8,8,8,8,8,8,8,8,8,8,8,8,8,8,8,8,8,8,8,8,8,8,8,8,8,8,8,8,8,8,8,8,8,8,8,8,8,8,8,8,8,8,8,8,8,8,8,8,8,8,8,8,8,8,8,8,8,8,8,8,8]⟩:ByteArray) (ji6)))))) else (none)) else (none))=some r:=by first|(rw [hji6] at H;exact H)|(simp only [hji6] at H ⊢;exact H)
     by_cases c7:0≤(ji6)
     ·rw [if_pos c7] at H
      have c7b0:decide (0≤(ji6))=true:=decide_eq_true c7
      clear c7
      by_cases c8:(ji6) < 256
      ·rw [if_pos c8] at H
       have c8b0:decide ((ji6) < 256)=true:=decide_eq_true c8
       clear c8
       obtain rfl:=Option.some.inj H
       have p9:0≤((ji6):Int):=za_
       have q9:(ji6) < (256:Int):=za_
       have hx9:=bt_at (⟨#[0,1,2,2,3,3,3,3,4,4,4,4,4,4,4,4,5,5,5,5,5,5,5,5,5,5,5,5,5,5,5,5,6,6,6,6,6,6,6,6,6,6,6,6,6,6,6,6,6,6,6,6,6,6,6,6,6,6,6,6,6,6,6,6,7,7,7,7,7,7,7,7,7,7,7,7,7,7,7,7,7,7,7,7,7,7,7,7,7,7,7,7,7,7,7,7,7,7,7,7,7,7,7,7,7,7,7,7,7,7,7,7,7,7,7,7,7,7,7,7,7,7,7,7,7,7,7,7,8,8,8,8,8,8,8,8,8,8,8,8,8,8,8,8,8,8,8,8,8,8,8,8,8,8,8,8,8,8,8,8,8,8,8,8,8,8,8,8,8,8,8,8,8,8,8,8,8,8,8,8,8,8,8,8,8,8,8,8,8,8,8,8,8,8,8,8,8,8,8,8,8,8,8,8,8,8,8,8,8,8,8,8,8,8,8,8,8,8,8,8,8,8,8,8,8,8,8,8,8,8,8,8,8,8,8,8,8,8,8,8,8,8,8,8,8,8,8,8,8,8,8,8,8,8,8,8]⟩:ByteArray) (ji6)
       replace p9:=eq_true p9
       replace q9:=eq_true q9
       go_wp2
       go_ret
       exact ⟨by first|rfl|(simp;done)|(simp only [← hji6] <;> (first|rfl|simp))|(simp [*];done),by repeat (first|exact Drawn0.refl _|apply Drawn0.step)⟩
      ·rw [if_neg c8] at H
       exact absurd H (by simp)
     ·rw [if_neg c7] at H
      exact absurd H (by simp)
    ·rw [if_neg c5] at H
     have c5b0:decide (256≤(x0_1 / 65536))=false:=decide_eq_false c5
     clear c5
     obtain ⟨ji10,hji10⟩:∃ j_:Int,((x0_1 / 65536) % 256)=j_:=⟨_,rfl⟩
     replace H:(if 0≤(ji10) then (if (ji10) < 256 then (some (wrap64 ((wrap64 (x2_1 + 16)) + (wrap64 (bt (⟨#[0,1,2,2,3,3,3,3,4,4,4,4,4,4,4,4,5,5,5,5,5,5,5,5,5,5,5,5,5,5,5,5,6,6,6,6,6,6,6,6,6,6,6,6,6,6,6,6,6,6,6,6,6,6,6,6,6,6,6,6,6,6,6,6,7,7,7,7,7,7,7,7,7,7,7,7,7,7,7,7,7,7,7,7,7,7,7,7,7,7,7,7,7,7,7,7,7,7,7,7,7,7,7,7,7,7,7,7,7,7,7,7,7,7,7,7,7,7,7,7,7,7,7,7,7,7,7,7,8,8,8,8,8,8,8,8,8,8,8,8,8,8,8,8,8,8,8,8,8,8,8,8,8,8,8,8,8,8,8,8,8,8,8,8,8,8,8,8,8,8,8,8,8,8,8,8,8,8,8,8,8,8,8,8,8,8,8,8,8,8,8,8,8,8,8,8,8,8,8,8,8,8,8,8,8,8,8,8,8,8,8,8,8,8,8,8,8,8,8,8,8,8,8,8,8,8,8,8,8,8,8,8,8,8,8,8,8,8,8,8,8,8,8,8,8,8,8,8,8,8,8,8,8,8,8,8]⟩:ByteArray) (ji10)))))) else (none)) else (none))=some r:=by first|(rw [hji10] at H;exact H)|(simp only [hji10] at H ⊢;exact H)
     by_cases c11:0≤(ji10)
     ·rw [if_pos c11] at H
      have c11b0:decide (0≤(ji10))=true:=decide_eq_true c11
      clear c11
      by_cases c12:(ji10) < 256
      ·rw [if_pos c12] at H
       have c12b0:decide ((ji10) < 256)=true:=decide_eq_true c12
       clear c12
       obtain rfl:=Option.some.inj H
       have p13:0≤((ji10):Int):=za_
       have q13:(ji10) < (256:Int):=za_
       have hx13:=bt_at (⟨#[0,1,2,2,3,3,3,3,4,4,4,4,4,4,4,4,5,5,5,5,5,5,5,5,5,5,5,5,5,5,5,5,6,6,6,6,6,6,6,6,6,6,6,6,6,6,6,6,6,6,6,6,6,6,6,6,6,6,6,6,6,6,6,6,7,7,7,7,7,7,7,7,7,7,7,7,7,7,7,7,7,7,7,7,7,7,7,7,7,7,7,7,7,7,7,7,7,7,7,7,7,7,7,7,7,7,7,7,7,7,7,7,7,7,7,7,7,7,7,7,7,7,7,7,7,7,7,7,8,8,8,8,8,8,8,8,8,8,8,8,8,8,8,8,8,8,8,8,8,8,8,8,8,8,8,8,8,8,8,8,8,8,8,8,8,8,8,8,8,8,8,8,8,8,8,8,8,8,8,8,8,8,8,8,8,8,8,8,8,8,8,8,8,8,8,8,8,8,8,8,8,8,8,8,8,8,8,8,8,8,8,8,8,8,8,8,8,8,8,8,8,8,8,8,8,8,8,8,8,8,8,8,8,8,8,8,8,8,8,8,8,8,8,8,8,8,8,8,8,8,8,8,8,8,8,8]⟩:ByteArray) (ji10)
       replace p13:=eq_true p13
       replace q13:=eq_true q13
       go_wp2
       go_ret
       exact ⟨by first|rfl|(simp;done)|(simp only [← hji10] <;> (first|rfl|simp))|(simp [*];done),by repeat (first|exact Drawn0.refl _|apply Drawn0.step)⟩
      ·rw [if_neg c12] at H
       exact absurd H (by simp)
     ·rw [if_neg c11] at H
      exact absurd H (by simp)
   ·rw [if_neg c4] at H
    have c4b0:decide (65536≤x0_1)=false:=decide_eq_false c4
    clear c4
    by_cases c14:x0_1 ≥ 256
    ·rw [if_pos c14] at H
     have c14b0:decide (256≤x0_1)=true:=decide_eq_true c14
     clear c14
     obtain ⟨ji15,hji15⟩:∃ j_:Int,((x0_1 / 256) % 256)=j_:=⟨_,rfl⟩
     replace H:(if 0≤(ji15) then (if (ji15) < 256 then (some (wrap64 ((wrap64 (x2_1 + 8)) + (wrap64 (bt (⟨#[0,1,2,2,3,3,3,3,4,4,4,4,4,4,4,4,5,5,5,5,5,5,5,5,5,5,5,5,5,5,5,5,6,6,6,6,6,6,6,6,6,6,6,6,6,6,6,6,6,6,6,6,6,6,6,6,6,6,6,6,6,6,6,6,7,7,7,7,7,7,7,7,7,7,7,7,7,7,7,7,7,7,7,7,7,7,7,7,7,7,7,7,7,7,7,7,7,7,7,7,7,7,7,7,7,7,7,7,7,7,7,7,7,7,7,7,7,7,7,7,7,7,7,7,7,7,7,7,8,8,8,8,8,8,8,8,8,8,8,8,8,8,8,8,8,8,8,8,8,8,8,8,8,8,8,8,8,8,8,8,8,8,8,8,8,8,8,8,8,8,8,8,8,8,8,8,8,8,8,8,8,8,8,8,8,8,8,8,8,8,8,8,8,8,8,8,8,8,8,8,8,8,8,8,8,8,8,8,8,8,8,8,8,8,8,8,8,8,8,8,8,8,8,8,8,8,8,8,8,8,8,8,8,8,8,8,8,8,8,8,8,8,8,8,8,8,8,8,8,8,8,8,8,8,8,8]⟩:ByteArray) (ji15)))))) else (none)) else (none))=some r:=by first|(rw [hji15] at H;exact H)|(simp only [hji15] at H ⊢;exact H)
     by_cases c16:0≤(ji15)
     ·rw [if_pos c16] at H
      have c16b0:decide (0≤(ji15))=true:=decide_eq_true c16
      clear c16
      by_cases c17:(ji15) < 256
      ·rw [if_pos c17] at H
       have c17b0:decide ((ji15) < 256)=true:=decide_eq_true c17
       clear c17
       obtain rfl:=Option.some.inj H
       have p18:0≤((ji15):Int):=za_
       have q18:(ji15) < (256:Int):=za_
       have hx18:=bt_at (⟨#[0,1,2,2,3,3,3,3,4,4,4,4,4,4,4,4,5,5,5,5,5,5,5,5,5,5,5,5,5,5,5,5,6,6,6,6,6,6,6,6,6,6,6,6,6,6,6,6,6,6,6,6,6,6,6,6,6,6,6,6,6,6,6,6,7,7,7,7,7,7,7,7,7,7,7,7,7,7,7,7,7,7,7,7,7,7,7,7,7,7,7,7,7,7,7,7,7,7,7,7,7,7,7,7,7,7,7,7,7,7,7,7,7,7,7,7,7,7,7,7,7,7,7,7,7,7,7,7,8,8,8,8,8,8,8,8,8,8,8,8,8,8,8,8,8,8,8,8,8,8,8,8,8,8,8,8,8,8,8,8,8,8,8,8,8,8,8,8,8,8,8,8,8,8,8,8,8,8,8,8,8,8,8,8,8,8,8,8,8,8,8,8,8,8,8,8,8,8,8,8,8,8,8,8,8,8,8,8,8,8,8,8,8,8,8,8,8,8,8,8,8,8,8,8,8,8,8,8,8,8,8,8,8,8,8,8,8,8,8,8,8,8,8,8,8,8,8,8,8,8,8,8,8,8,8,8]⟩:ByteArray) (ji15)
       replace p18:=eq_true p18
       replace q18:=eq_true q18
       go_wp2
       go_ret
       exact ⟨by first|rfl|(simp;done)|(simp only [← hji15] <;> (first|rfl|simp))|(simp [*];done),by repeat (first|exact Drawn0.refl _|apply Drawn0.step)⟩
      ·rw [if_neg c17] at H
       exact absurd H (by simp)
     ·rw [if_neg c16] at H
      exact absurd H (by simp)
    ·rw [if_neg c14] at H
     have c14b0:decide (256≤x0_1)=false:=decide_eq_false c14
     clear c14
     obtain ⟨ji19,hji19⟩:∃ j_:Int,((x0_1) % 256)=j_:=⟨_,rfl⟩
     replace H:(if 0≤(ji19) then (if (ji19) < 256 then (some (wrap64 (x2_1 + (wrap64 (bt (⟨#[0,1,2,2,3,3,3,3,4,4,4,4,4,4,4,4,5,5,5,5,5,5,5,5,5,5,5,5,5,5,5,5,6,6,6,6,6,6,6,6,6,6,6,6,6,6,6,6,6,6,6,6,6,6,6,6,6,6,6,6,6,6,6,6,7,7,7,7,7,7,7,7,7,7,7,7,7,7,7,7,7,7,7,7,7,7,7,7,7,7,7,7,7,7,7,7,7,7,7,7,7,7,7,7,7,7,7,7,7,7,7,7,7,7,7,7,7,7,7,7,7,7,7,7,7,7,7,7,8,8,8,8,8,8,8,8,8,8,8,8,8,8,8,8,8,8,8,8,8,8,8,8,8,8,8,8,8,8,8,8,8,8,8,8,8,8,8,8,8,8,8,8,8,8,8,8,8,8,8,8,8,8,8,8,8,8,8,8,8,8,8,8,8,8,8,8,8,8,8,8,8,8,8,8,8,8,8,8,8,8,8,8,8,8,8,8,8,8,8,8,8,8,8,8,8,8,8,8,8,8,8,8,8,8,8,8,8,8,8,8,8,8,8,8,8,8,8,8,8,8,8,8,8,8,8,8]⟩:ByteArray) (ji19)))))) else (none)) else (none))=some r:=by first|(rw [hji19] at H;exact H)|(simp only [hji19] at H ⊢;exact H)
     by_cases c20:0≤(ji19)
     ·rw [if_pos c20] at H
      have c20b0:decide (0≤(ji19))=true:=decide_eq_true c20
      clear c20
      by_cases c21:(ji19) < 256
      ·rw [if_pos c21] at H
       have c21b0:decide ((ji19) < 256)=true:=decide_eq_true c21
       clear c21
       obtain rfl:=Option.some.inj H
       have p22:0≤((ji19):Int):=za_
       have q22:(ji19) < (256:Int):=za_
       have hx22:=bt_at (⟨#[0,1,2,2,3,3,3,3,4,4,4,4,4,4,4,4,5,5,5,5,5,5,5,5,5,5,5,5,5,5,5,5,6,6,6,6,6,6,6,6,6,6,6,6,6,6,6,6,6,6,6,6,6,6,6,6,6,6,6,6,6,6,6,6,7,7,7,7,7,7,7,7,7,7,7,7,7,7,7,7,7,7,7,7,7,7,7,7,7,7,7,7,7,7,7,7,7,7,7,7,7,7,7,7,7,7,7,7,7,7,7,7,7,7,7,7,7,7,7,7,7,7,7,7,7,7,7,7,8,8,8,8,8,8,8,8,8,8,8,8,8,8,8,8,8,8,8,8,8,8,8,8,8,8,8,8,8,8,8,8,8,8,8,8,8,8,8,8,8,8,8,8,8,8,8,8,8,8,8,8,8,8,8,8,8,8,8,8,8,8,8,8,8,8,8,8,8,8,8,8,8,8,8,8,8,8,8,8,8,8,8,8,8,8,8,8,8,8,8,8,8,8,8,8,8,8,8,8,8,8,8,8,8,8,8,8,8,8,8,8,8,8,8,8,8,8,8,8,8,8,8,8,8,8,8,8]⟩:ByteArray) (ji19)
       replace p22:=eq_true p22
       replace q22:=eq_true q22
       go_wp2
       go_ret
       exact ⟨by first|rfl|(simp;done)|(simp only [← hji19] <;> (first|rfl|simp))|(simp [*];done),by repeat (first|exact Drawn0.refl _|apply Drawn0.step)⟩
      ·rw [if_neg c21] at H
       exact absurd H (by simp)
     ·rw [if_neg c20] at H
      exact absurd H (by simp)
end Go.Proofs.Ytdohpjjggjehfaa.Print
end
section
namespace Go.Proofs.Ytdohpjjggjehfaa.Print
open Go.RowKit Go.Proofs.YtdohpjjggjehfaaW.PrintWords Go.Proofs.YtdohpjjggjehfaaW.PrintLast Go.Proofs.YtdohpjjggjehfaaW.PrintMore
attribute [local go_sem] max2_int min2_int max_two min_two max_three min_three max_four min_four   -- for this text's walks alone
attribute [local go_sem ↓] Go.Proofs.Ytdohpjjggjehfaa.Sem.isSome_setCell
attribute [local go_sem] Go.Instr.field Go.asAgg
set_option linter.unusedVariables false
set_option linter.unusedSimpArgs false
def seal_Unpack_1.f (a0:Int) (l1:List Int):Option (Int):=if 0≤(wrap64 (Int.tdiv a0 8)) then (if (wrap64 (Int.tdiv a0 8)) < (l1.length:Int) then (if 0≤(wrap64 (7 - (Int.tmod a0 8))) then (some (IntKind.u64.wrap (Go.bits .and .u8 (shr .u8 (rd l1 (wrap64 (Int.tdiv a0 8))) (wrap64 (7 - (Int.tmod a0 8)))) 1))) else (none)) else (none)) else (none)
set_option maxHeartbeats 8000000 in
set_option maxRecDepth 100000 in
theorem seal_Unpack_1.calls (g1:Nat) (a0:Int) (A1:Option Addr) (c1:Nat) (l1:List Int) (r:Int) (w:World) (hb1:w.heap[g1]?=some (.cells #[.slice A1 l1.length c1] 24 (0,0))) (hr1:Kd.C (Kd.int .u8) w A1 l1.length l1) (hc1:l1.length≤c1) (h:seal_Unpack_1.f a0 l1=some r) :
  Calls Try.prog 59 #[.int .i64 a0,.pointer (some ⟨g1,0,none⟩)] w fun e w'=>e=.returned (.int .u64 r)∧Drawn0 w w':=by
 have hcz1_0:w.cell? ⟨g1,0,none⟩=some (.slice A1 l1.length c1):=(blk_cell hb1 0).trans rfl
 clear hb1
 have HR1:=zm hr1
 have HC1:=zm hc1
 clear hr1 hc1
 have H:(if 0≤(wrap64 (Int.tdiv a0 8)) then (if (wrap64 (Int.tdiv a0 8)) < (l1.length:Int) then (if 0≤(wrap64 (7 - (Int.tmod a0 8))) then (some (IntKind.u64.wrap (Go.bits .and .u8 (shr .u8 (rd l1 (wrap64 (Int.tdiv a0 8))) (wrap64 (7 - (Int.tmod a0 8)))) 1))) else (none)) else (none)) else (none))=some r:=h
 clear h
 obtain ⟨ji3,hji3⟩:∃ j_:Int,(wrap64 (Int.tdiv a0 8))=j_:=⟨_,rfl⟩
 replace H:(if 0≤(ji3) then (if (ji3) < (l1.length:Int) then (if 0≤(wrap64 (7 - (Int.tmod a0 8))) then (some (IntKind.u64.wrap (Go.bits .and .u8 (shr .u8 (rd l1 (ji3)) (wrap64 (7 - (Int.tmod a0 8)))) 1))) else (none)) else (none)) else (none))=some r:=by first|(rw [hji3] at H;exact H)|(simp only [hji3] at H ⊢;exact H)
 have hji3w:(IntKind.i64.wrap (Int.tdiv a0 8))=ji3:=(i64_w _).trans hji3
 by_cases c4:0≤(ji3)
 ·rw [if_pos c4] at H
  have c4b0:decide (0≤(ji3))=true:=decide_eq_true c4
  clear c4
  by_cases c5:(ji3) < (l1.length:Int)
  ·rw [if_pos c5] at H
   have c5b0:decide ((ji3) < (l1.length:Int))=true:=decide_eq_true c5
   clear c5
   obtain ⟨ji6,hji6⟩:∃ j_:Int,(wrap64 (7 - (Int.tmod a0 8)))=j_:=⟨_,rfl⟩
   replace H:(if 0≤(ji6) then (some (IntKind.u64.wrap (Go.bits .and .u8 (shr .u8 (rd l1 (ji3)) (ji6)) 1))) else (none))=some r:=by first|(rw [hji6] at H;exact H)|(simp only [hji6] at H ⊢;exact H)
   have hji6w:(IntKind.i64.wrap (7 - (Int.tmod a0 8)))=ji6:=(i64_w _).trans hji6
   by_cases c7:0≤(ji6)
   ·rw [if_pos c7] at H
    have c7b0:=eq_true c7
    have c7b1:decide (0≤(ji6))=true:=decide_eq_true c7
    clear c7
    obtain ⟨ji8,hji8⟩:∃ j_:Int,(shr .u8 (rd l1 (ji3)) (ji6))=j_:=⟨_,rfl⟩
    replace H:(some (IntKind.u64.wrap (Go.bits .and .u8 (ji8) 1)))=some r:=by first|(rw [hji8] at H;exact H)|(simp only [hji8] at H ⊢;exact H)
    have hji8_:((rd l1 (ji3)) / 2 ^ min (ji6).toNat 8)=ji8:=hji8
    have hji8z:(ji6)≤8 → ((rd l1 (ji3)) / 2 ^ (ji6).toNat)=ji8:=shr_small hji8
    obtain rfl:=Option.some.inj H
    have p156:0≤((ji3):Int):=za_
    have q156:(ji3) < (l1.length:Int):=za_
    obtain ⟨ad156,e156,hx156_0⟩:=Kd.at_int HR1.out (ji3) p156 q156
    cases e156
    replace p156:=eq_true p156
    replace q156:=eq_true q156
    go_enter Try.func59,Try.ntmps59
    go_wp2
    go_ret
    exact ⟨by first|rfl|(simp;done)|(simp only [← hji3,← hji6,← hji8] <;> (first|rfl|simp))|(simp [*];done),by repeat (first|exact Drawn0.refl _|apply Drawn0.step)⟩
   ·rw [if_neg c7] at H
    exact absurd H (by simp)
  ·rw [if_neg c5] at H
   exact absurd H (by simp)
 ·rw [if_neg c4] at H
  exact absurd H (by simp)
end Go.Proofs.Ytdohpjjggjehfaa.Print
end
section
namespace Go.Proofs.Ytdohpjjggjehfaa.Print
open Go.RowKit Go.Proofs.YtdohpjjggjehfaaW.PrintWords Go.Proofs.YtdohpjjggjehfaaW.PrintLast Go.Proofs.YtdohpjjggjehfaaW.PrintMore
attribute [local go_sem] max2_int min2_int max_two min_two max_three min_three max_four min_four   -- for this text's walks alone
attribute [local go_sem ↓] Go.Proofs.Ytdohpjjggjehfaa.Sem.isSome_setCell
attribute [local go_sem] Go.Instr.field Go.asAgg
set_option linter.unusedVariables false
set_option linter.unusedSimpArgs false
mutual
def seal_Unpack.l0:Nat → List Int → Int → List Int → Option (List Int × Int)
 | 0,_,_,_=>none
 | k + 1,x0,x9,x158000=>if x9 < (wrap64 (8 * (x158000.length:Int))) then ((seal_Unpack_1.f x9 x158000).bind fun t160=>(if t160=0 then (seal_Unpack.l0 k x0 (wrap64 (x9 + 1)) x158000) else (some (([]:List Int),1)))) else (seal_Unpack.l1 k ([]:List Int) 0 x0 (x0.length:Int) 0 x158000)
def seal_Unpack.l1:Nat → List Int → Int → List Int → Int → Int → List Int → Option (List Int × Int)
 | 0,_,_,_,_,_,_=>none
 | k + 1,x10,x11,x42,x43,x44,x158000=>if x44 < x43 then (if 0≤x44 then (if x44 < (x42.length:Int) then (seal_Unpack.l2 k x10 x11 0 x42 x43 x44 (rd x42 x44) 0 x158000) else (none)) else (none)) else (some (x10,0))
def seal_Unpack.l2:Nat → List Int → Int → Int → List Int → Int → Int → Int → Int → List Int → Option (List Int × Int)
 | 0,_,_,_,_,_,_,_,_,_=>none
 | k + 1,x10,x11,x14,x42,x43,x44,x48,x49,x158000=>if x49 < x48 then ((seal_Unpack_1.f x11 x158000).bind fun t162=>(seal_Unpack.l2 k x10 (wrap64 (x11 + 1)) (Go.bits .or .u64 (IntKind.u64.wrap (x14 * 2)) t162) x42 x43 x44 x48 (wrap64 (x49 + 1)) x158000)) else (if x10.length < 17592186044416 then (seal_Unpack.l1 k (x10 ++ [x14]) x11 x42 x43 (wrap64 (x44 + 1)) x158000) else (none))
end
def seal_Unpack.f (k:Nat) (l0:List Int) (l1:List Int):Option (List Int × Int):=(seal_total.f k l0).bind fun bt158=>(if bt158.2=0 then (if (l1.length:Int)=(wrap64 (Int.tdiv (wrap64 (bt158.1 + 7)) 8)) then (seal_Unpack.l0 k l0 bt158.1 l1) else (some (([]:List Int),3))) else (some (([]:List Int),bt158.2)))
set_option maxHeartbeats 8000000 in
set_option maxRecDepth 100000 in
theorem seal_Unpack.calls (k:Nat) (A0:Option Addr) (c0:Nat) (l0:List Int) (A1:Option Addr) (c1:Nat) (l1:List Int) (r1:List Int) (r2:Int) (w:World) (hr0:Kd.C (Kd.int .i64) w A0 l0.length l0) (hc0:l0.length≤c0) (hr1:Kd.C (Kd.int .u8) w A1 l1.length l1) (hc1:l1.length≤c1) (h:seal_Unpack.f k l0 l1=some (r1,r2)) :
  Calls Try.prog 37 #[.slice A0 l0.length c0,.slice A1 l1.length c1] w fun e w'=>∃ v0_:Value,e=.returned (.tuple #[v0_,.int .i64 r2])∧Kd.R (Kd.int .u64) 58 w' w.heap.size (fun _=>True) v0_ r1∧Below w.heap.size w w':=by
 have HR0:=zm hr0
 have HC0:=zm hc0
 clear hr0 hc0
 have HR1:=zm hr1
 have HC1:=zm hc1
 clear hr1 hc1
 have HB:=zm (Below.refl w.heap.size w)
 have H:((seal_total.f k l0).bind fun bt158=>(if bt158.2=0 then (if (l1.length:Int)=(wrap64 (Int.tdiv (wrap64 (bt158.1 + 7)) 8)) then (seal_Unpack.l0 k l0 bt158.1 l1) else (some (([]:List Int),3))) else (some (([]:List Int),bt158.2))))=some (r1,r2):=h
 clear h
 replace H:=Option.bind_eq_some_iff.mp H
 obtain ⟨⟨t158,t159⟩,A30,H⟩:=H
 replace H:(if t159=0 then (if (l1.length:Int)=(wrap64 (Int.tdiv (wrap64 (t158 + 7)) 8)) then (seal_Unpack.l0 k l0 t158 l1) else (some (([]:List Int),3))) else (some (([]:List Int),t159)))=some (r1,r2):=H
 have A3:=zm A30
 clear A30
 by_cases c4:t159=0
 ·rw [if_pos c4] at H
  have c4b0:(t159 == 0)=true:=beq_iff_eq.mpr c4
  have c4b1:(t159 != 0)=false:=bne_eq_false_iff_eq.mpr c4
  clear c4
  by_cases c5:(l1.length:Int)=(wrap64 (Int.tdiv (wrap64 (t158 + 7)) 8))
  ·rw [if_pos c5] at H
   have c5b0:((l1.length:Int) == (wrap64 (Int.tdiv (wrap64 (t158 + 7)) 8)))=true:=beq_iff_eq.mpr c5
   have c5b1:((l1.length:Int) != (wrap64 (Int.tdiv (wrap64 (t158 + 7)) 8)))=false:=bne_eq_false_iff_eq.mpr c5
   clear c5
   have H':=zm H
   clear H
   go_enter Try.func37,Try.ntmps37
   go_wp2_with (first|((with_reducible refine gate_dst (N:=3) rfl ?_);refine zbx 3 #[.slice A1 l1.length c1] 24 ?_;intro gb157 hg w6 hbox hb;have n0_:=zkH HB hb;have n1_:=zm (hbox);have n2_:=zkG HB hg;have n3_:=zkG HB hg;clear HB;have HB:=n0_;have BK157:=n1_;have GW157:=n2_;have GE157:=n3_;clear n0_ n1_ n2_ n3_;clear hb hbox hg)|((with_reducible refine gate_callee (f:=58) rfl ?_);refine goesL_ (some 17) rfl rfl Try.func58 (by kernel_rfl) rfl #[.slice A0 l0.length c0] rfl (by (try simp only [List.map_toArray,List.map_cons,List.map_nil]);first|done|rfl|(simp only [List.length_drop,List.length_take];rfl)) ?_;(with_reducible refine (seal_total.calls k _ _ l0 t158 t159 _ ?side1 ?side2 A3.out).mono ?_);(case side1=>exact zC HR0);(case side2=>exact HC0.out);rintro e w' ⟨rfl,⟨nd,rfl⟩⟩;refine ⟨_,rfl,?_⟩;obtain ⟨hcz7_0,hfz7_0⟩:=zc1 BK157.out))
   go_loopg [9] k (fun kq v9 w'=>∃ (x9_1:Int),v9=.int .i64 x9_1∧Aside0 (seal_Unpack.l0 kq l0 x9_1 l1=some (r1,r2))∧Aside0 (kq≤k)∧Aside0 (w'.heap[gb157]?=some (.cells #[(.slice A1 l1.length c1)] 24 (0,0)))∧Aside0 (Below w.heap.size w w'))
   case atStart=>exact ⟨(t158),zs_,H',⟨Nat.le_refl _⟩,⟨zx_⟩,⟨zb_⟩⟩
   case round =>
    clear H'
    try clear c1
    try clear p2
    try clear c3
    try clear c4
    try clear c4b0
    try clear c4b1
    try clear c5
    try clear c5b0
    try clear c5b1
    try clear p6
    try clear hcz7_0
    try clear hfz7_0
    obtain ⟨x9_1,rfl,HA,HK1,BK157,HB⟩:=hrel
    cases gk with
    | zero=>exact absurd HA.out (by simp [seal_Unpack.l0])
    | succ k1 =>
     have H:=HA.out
     clear HA
     simp only [seal_Unpack.l0] at H
     by_cases c8:x9_1 < (wrap64 (8 * (l1.length:Int)))
     ·rw [if_pos c8] at H
      have c8b0:decide (x9_1 < (wrap64 (8 * (l1.length:Int))))=true:=decide_eq_true c8
      clear c8
      replace H:=Option.bind_eq_some_iff.mp H
      obtain ⟨t160,A90,H⟩:=H
      replace H:(if t160=0 then (seal_Unpack.l0 k1 l0 (wrap64 (x9_1 + 1)) l1) else (some (([]:List Int),1)))=some (r1,r2):=H
      have A9:=zm A90
      clear A90
      by_cases c10:t160=0
      ·rw [if_pos c10] at H
       have c10b0:(t160 == 0)=true:=beq_iff_eq.mpr c10
       have c10b1:(t160 != 0)=false:=bne_eq_false_iff_eq.mpr c10
       clear c10
       have H':=zm H
       clear H
       obtain ⟨hcz11_0,hfz11_0⟩:=zc1 BK157.out
       go_wp2_with (first|(go_at_call 59;(with_reducible refine (seal_Unpack_1.calls gb157 x9_1 _ _ l1 t160 _ zx_ ?side1 ?side2 A9.out).mono ?_);(case side1=>exact zC HR1);(case side2=>exact HC1.out);rintro e w' ⟨rfl,⟨nd,rfl⟩⟩))
       go_roundg k1
       case measure=>have:=HK1.out;omega
       case rel=>exact ⟨(wrap64 (x9_1 + 1)),zs_,H',⟨by have:=HK1.out;omega⟩,⟨zx_⟩,⟨zb_⟩⟩
      ·rw [if_neg c10] at H
       have c10b0:(t160 == 0)=false:=beq_eq_false_iff_ne.mpr c10
       have c10b1:(t160 != 0)=true:=bne_iff_ne.mpr c10
       simp only [Option.some.injEq,Prod.mk.injEq] at H
       obtain ⟨rfl,rfl⟩:=H
       obtain ⟨hcz12_0,hfz12_0⟩:=zc1 BK157.out
       go_wp2_with (first|(go_at_call 59;(with_reducible refine (seal_Unpack_1.calls gb157 x9_1 _ _ l1 t160 _ zx_ ?side1 ?side2 A9.out).mono ?_);(case side1=>exact zC HR1);(case side2=>exact HC1.out);rintro e w' ⟨rfl,⟨nd,rfl⟩⟩))
       go_ret2
       exact ⟨_,ze_,zr_,zb_⟩
     ·rw [if_neg c8] at H
      have c8b0:decide (x9_1 < (wrap64 (8 * (l1.length:Int))))=false:=decide_eq_false c8
      clear c8
      have H':=zm H
      clear H
      obtain ⟨hcz13_0,hfz13_0⟩:=zc1 BK157.out
      go_wp2
      go_loopg [10,11,44] k1 (fun kq v10 v11 v44 w'=>∃ (x10_2:List Int) (x11_2:Int) (x44_2:Int),v11=.int .i64 x11_2∧v44=.int .i64 x44_2∧Aside0 (seal_Unpack.l1 kq x10_2 x11_2 l0 (l0.length:Int) x44_2 l1=some (r1,r2))∧Aside0 (kq≤k1)∧Aside0 (Kd.R (Kd.int .u64) 58 w' w.heap.size (fun _=>True) v10 x10_2)∧Aside0 (w'.heap[gb157]?=some (.cells #[(.slice A1 l1.length c1)] 24 (0,0)))∧Aside0 (Below w.heap.size w w'))
      case atStart=>exact ⟨(([]:List Int)),(0),(0),zs_,zs_,H',⟨Nat.le_refl _⟩,⟨zr_⟩,⟨zx_⟩,⟨zb_⟩⟩
      case round =>
       clear H'
       try clear c1
       try clear p2
       try clear c3
       try clear c4
       try clear c4b0
       try clear c4b1
       try clear c5
       try clear c5b0
       try clear c5b1
       try clear p6
       try clear c8
       try clear c8b0
       try clear c10
       try clear c10b0
       try clear c10b1
       try clear hcz11_0
       try clear hcz12_0
       try clear hcz13_0
       try clear hcz7_0
       try clear hfz11_0
       try clear hfz12_0
       try clear hfz13_0
       try clear hfz7_0
       try clear p2
       try clear p6
       obtain ⟨x10_2,x11_2,x44_2,rfl,rfl,HA,HK2,HO_10,BK157,HB⟩:=hrel
       cases gk with
       | zero=>exact absurd HA.out (by simp [seal_Unpack.l1])
       | succ k2 =>
        have H:=HA.out
        clear HA
        simp only [seal_Unpack.l1] at H
        by_cases c14:x44_2 < (l0.length:Int)
        ·rw [if_pos c14] at H
         have c14b0:decide (x44_2 < (l0.length:Int))=true:=decide_eq_true c14
         clear c14
         by_cases c15:0≤x44_2
         ·rw [if_pos c15] at H
          have c15b0:decide (0≤x44_2)=true:=decide_eq_true c15
          clear c15
          by_cases c16:x44_2 < (l0.length:Int)
          ·rw [if_pos c16] at H
           have c16b0:decide (x44_2 < (l0.length:Int))=true:=decide_eq_true c16
           clear c16
           have H':=zm H
           clear H
           have p161:0≤(x44_2:Int):=za_
           have q161:x44_2 < (l0.length:Int):=za_
           obtain ⟨ad161,e161,hx161_0⟩:=Kd.at_int HR0.out x44_2 p161 q161
           cases e161
           replace hx161_0:=zhx HB hx161_0
           replace p161:=eq_true p161
           replace q161:=eq_true q161
           go_wp2
           go_loopg [11,14,49] k2 (fun kq v11 v14 v49 w'=>∃ (x11_3:Int) (x14_3:Int) (x49_3:Int),v11=.int .i64 x11_3∧v14=.int .u64 x14_3∧v49=.int .i64 x49_3∧Aside0 (seal_Unpack.l2 kq x10_2 x11_3 x14_3 l0 (l0.length:Int) x44_2 (rd l0 x44_2) x49_3 l1=some (r1,r2))∧Aside0 (kq≤k2)∧Aside0 (Kd.R (Kd.int .u64) 58 w' w.heap.size (fun _=>True) u10 x10_2)∧Aside0 (w'.heap[gb157]?=some (.cells #[(.slice A1 l1.length c1)] 24 (0,0)))∧Aside0 (Below w.heap.size w w'))
           case atStart=>exact ⟨(x11_2),(0),(0),zs_,zs_,zs_,H',⟨Nat.le_refl _⟩,⟨by (with_reducible repeat (first|apply zrA|apply zrN|apply zrD));exact HO_10.out⟩,⟨zx_⟩,⟨zb_⟩⟩
           case round =>
            clear H'
            try clear c1
            try clear p1
            try clear q1
            try clear hx1
            try clear p2
            try clear c3
            try clear c4
            try clear c4b0
            try clear c4b1
            try clear c5
            try clear c5b0
            try clear c5b1
            try clear p6
            try clear c8
            try clear c8b0
            try clear c10
            try clear c10b0
            try clear c10b1
            try clear c14
            try clear c14b0
            try clear c15
            try clear c15b0
            try clear c16
            try clear c16b0
            try clear p16
            try clear q16
            try clear hx16
            try clear hcz11_0
            try clear hcz12_0
            try clear hcz13_0
            try clear hcz7_0
            try clear hfz11_0
            try clear hfz12_0
            try clear hfz13_0
            try clear hfz7_0
            try clear hx161_0
            try clear p161
            try clear p2
            try clear p6
            try clear q161
            obtain ⟨x11_3,x14_3,x49_3,rfl,rfl,rfl,HA,HK3,HO_10,BK157,HB⟩:=hrel
            cases gk with
            | zero=>exact absurd HA.out (by simp [seal_Unpack.l2])
            | succ k3 =>
             have H:=HA.out
             clear HA
             simp only [seal_Unpack.l2] at H
             by_cases c17:x49_3 < (rd l0 x44_2)
             ·rw [if_pos c17] at H
              have c17b0:decide (x49_3 < (rd l0 x44_2))=true:=decide_eq_true c17
              clear c17
              replace H:=Option.bind_eq_some_iff.mp H
              obtain ⟨t162,A180,H⟩:=H
              replace H:(seal_Unpack.l2 k3 x10_2 (wrap64 (x11_3 + 1)) (Go.bits .or .u64 (IntKind.u64.wrap (x14_3 * 2)) t162) l0 (l0.length:Int) x44_2 (rd l0 x44_2) (wrap64 (x49_3 + 1)) l1)=some (r1,r2):=H
              have A18:=zm A180
              clear A180
              have H':=zm H
              clear H
              go_wp2_with (first|(go_at_call 59;(with_reducible refine (seal_Unpack_1.calls gb157 x11_3 _ _ l1 t162 _ zx_ ?side1 ?side2 A18.out).mono ?_);(case side1=>exact zC HR1);(case side2=>exact HC1.out);rintro e w' ⟨rfl,⟨nd,rfl⟩⟩))
              go_roundg k3
              case measure=>have:=HK1.out;have:=HK2.out;have:=HK3.out;omega
              case rel=>exact ⟨(wrap64 (x11_3 + 1)),(Go.bits .or .u64 (IntKind.u64.wrap (x14_3 * 2)) t162),(wrap64 (x49_3 + 1)),zs_,zs_,zs_,H',⟨by have:=HK1.out;have:=HK2.out;have:=HK3.out;omega⟩,⟨by (with_reducible repeat (first|apply zrA|apply zrN|apply zrD));exact HO_10.out⟩,⟨zx_⟩,⟨zb_⟩⟩
             ·rw [if_neg c17] at H
              have c17b0:decide (x49_3 < (rd l0 x44_2))=false:=decide_eq_false c17
              clear c17
              by_cases c19:x10_2.length < 17592186044416
              ·rw [if_pos c19] at H
               have LMc19:=zm c19
               clear c19
               obtain ⟨y163,hy163⟩:∃ y_:List Int,y_=(x10_2 ++ [x14_3]):=⟨_,rfl⟩
               replace H:(seal_Unpack.l1 k3 y163 x11_3 l0 (l0.length:Int) (wrap64 (x44_2 + 1)) l1)=some (r1,r2):=by first|(rw [hy163];with_reducible exact H)|(have H2_:=(Option.bind_some _ _).symm.trans H;rw [hy163];with_reducible exact H2_)|(have H2_:=(Option.bind_some _ _).symm.trans H;with_reducible exact H2_)|with_reducible exact H|(rw [hy163];exact H)|exact H
               have Ny163:=zm hy163
               clear hy163
               have H':=zm H
               clear H
               go_wp2_with (first|((with_reducible refine gate_builtin (b:=.append) (xs:=#[.tmp 60,.tmp 62]) rfl ?_);at_builtin;refine Kd.R_append (Kd.int .u64) (w0:=w) w.heap.size rfl (.tmp 60) (.tmp 62) 64 58 (.int .u64 0) 8 rfl Try.underlying64 info58 rfl (by decide) (by omega) u10 x10_2 x14_3 [.int .u64 x14_3] (fun _=>True) (fun _=>False) rfl rfl ?aP (fun _ hk=>hk.elim) ?aF ?aO ?aB ?aS ?aL ?_;(case aP=>exact rfl);(case aB=>exact (zb_));(case aF=>exact (fun _ _=>trivial));(case aO=>exact (by (with_reducible repeat (first|apply zrA|apply zrN|apply zrD));exact HO_10.out));(case aS=>exact (below_size (zb_)));(case aL=>have:=LMc19.out;omega);intro v164 w20 ho hb hg hat;rw [← Ny163.out] at ho;have n0_:=zm (blk_grown (g:=gb157) (o:=.cells #[.slice A1 l1.length c1] 24 (0,0)) zx_ hg (Kd.R_ne HO_10.out BK157.out (by decide)));have n1_:=zm (hb);have n2_:=zm (ho);clear BK157 HB HO_10;have BK157:=n0_;have HB:=n1_;have HO165:=n2_;clear n0_ n1_ n2_;clear ho hb hg hat))
               go_roundg k3
               case measure=>have:=HK1.out;have:=HK2.out;have:=HK3.out;omega
               case rel=>exact ⟨(y163),(x11_3),(wrap64 (x44_2 + 1)),zs_,zs_,H',⟨by have:=HK1.out;have:=HK2.out;have:=HK3.out;omega⟩,⟨by (with_reducible repeat (first|apply zrA|apply zrN|apply zrD));exact HO165.out⟩,⟨zx_⟩,⟨zb_⟩⟩
              ·rw [if_neg c19] at H
               exact absurd H (by simp)
          ·rw [if_neg c16] at H
           exact absurd H (by simp)
         ·rw [if_neg c15] at H
          exact absurd H (by simp)
        ·rw [if_neg c14] at H
         have c14b0:decide (x44_2 < (l0.length:Int))=false:=decide_eq_false c14
         clear c14
         simp only [Option.some.injEq,Prod.mk.injEq] at H
         obtain ⟨rfl,rfl⟩:=H
         go_wp2
         go_ret2
         exact ⟨_,ze_,by (with_reducible repeat (first|apply zrA|apply zrN|apply zrD));exact HO_10.out,zb_⟩
  ·rw [if_neg c5] at H
   have c5b0:((l1.length:Int) == (wrap64 (Int.tdiv (wrap64 (t158 + 7)) 8)))=false:=beq_eq_false_iff_ne.mpr c5
   have c5b1:((l1.length:Int) != (wrap64 (Int.tdiv (wrap64 (t158 + 7)) 8)))=true:=bne_iff_ne.mpr c5
   simp only [Option.some.injEq,Prod.mk.injEq] at H
   obtain ⟨rfl,rfl⟩:=H
   go_enter Try.func37,Try.ntmps37
   go_wp2_with (first|((with_reducible refine gate_dst (N:=3) rfl ?_);refine zbx 3 #[.slice A1 l1.length c1] 24 ?_;intro gb157 hg w21 hbox hb;have n0_:=zkH HB hb;have n1_:=zm (hbox);have n2_:=zkG HB hg;have n3_:=zkG HB hg;clear HB;have HB:=n0_;have BK157:=n1_;have GW157:=n2_;have GE157:=n3_;clear n0_ n1_ n2_ n3_;clear hb hbox hg)|((with_reducible refine gate_callee (f:=58) rfl ?_);refine goesL_ (some 17) rfl rfl Try.func58 (by kernel_rfl) rfl #[.slice A0 l0.length c0] rfl (by (try simp only [List.map_toArray,List.map_cons,List.map_nil]);first|done|rfl|(simp only [List.length_drop,List.length_take];rfl)) ?_;(with_reducible refine (seal_total.calls k _ _ l0 t158 t159 _ ?side1 ?side2 A3.out).mono ?_);(case side1=>exact zC HR0);(case side2=>exact HC0.out);rintro e w' ⟨rfl,⟨nd,rfl⟩⟩;refine ⟨_,rfl,?_⟩;obtain ⟨hcz22_0,hfz22_0⟩:=zc1 BK157.out))
   go_ret2
   exact ⟨_,ze_,zr_,zb_⟩
 ·rw [if_neg c4] at H
  have c4b0:(t159 == 0)=false:=beq_eq_false_iff_ne.mpr c4
  have c4b1:(t159 != 0)=true:=bne_iff_ne.mpr c4
  simp only [Option.some.injEq,Prod.mk.injEq] at H
  obtain ⟨rfl,rfl⟩:=H
  go_enter Try.func37,Try.ntmps37
  go_wp2_with (first|((with_reducible refine gate_dst (N:=3) rfl ?_);refine zbx 3 #[.slice A1 l1.length c1] 24 ?_;intro gb157 hg w23 hbox hb;have n0_:=zkH HB hb;have n1_:=zm (hbox);have n2_:=zkG HB hg;have n3_:=zkG HB hg;clear HB;have HB:=n0_;have BK157:=n1_;have GW157:=n2_;have GE157:=n3_;clear n0_ n1_ n2_ n3_;clear hb hbox hg)|((with_reducible refine gate_callee (f:=58) rfl ?_);refine goesL_ (some 17) rfl rfl Try.func58 (by kernel_rfl) rfl #[.slice A0 l0.length c0] rfl (by (try simp only [List.map_toArray,List.map_cons,List.map_nil]);first|done|rfl|(simp only [List.length_drop,List.length_take];rfl)) ?_;(with_reducible refine (seal_total.calls k _ _ l0 t158 t159 _ ?side1 ?side2 A3.out).mono ?_);(case side1=>exact zC HR0);(case side2=>exact HC0.out);rintro e w' ⟨rfl,⟨nd,rfl⟩⟩;refine ⟨_,rfl,?_⟩))
  go_ret2
  exact ⟨_,ze_,zr_,zb_⟩
end Go.Proofs.Ytdohpjjggjehfaa.Print
end
section
namespace Go.Proofs.Ytdohpjjggjehfaa.Print
open Go.RowKit Go.Proofs.YtdohpjjggjehfaaW.PrintWords Go.Proofs.YtdohpjjggjehfaaW.PrintLast Go.Proofs.YtdohpjjggjehfaaW.PrintMore
attribute [local go_sem] max2_int min2_int max_two min_two max_three min_three max_four min_four   -- for this text's walks alone
attribute [local go_sem ↓] Go.Proofs.Ytdohpjjggjehfaa.Sem.isSome_setCell
attribute [local go_sem] Go.Instr.field Go.asAgg
set_option linter.unusedVariables false
set_option linter.unusedSimpArgs false
def slices_Clone_byte_byte.f (l0:List Int):Option (List Int):=(some (([]:List Int):List Int)).bind fun y166=>(if y166.length + l0.length < 140737488355328 then (some (y166 ++ l0)) else (none))
set_option maxHeartbeats 8000000 in
set_option maxRecDepth 100000 in
theorem slices_Clone_byte_byte.calls_some (a0:Addr) (c0:Nat) (l0:List Int) (r:List Int) (w:World) (hr0:Kd.C (Kd.int .u8) w (some a0) l0.length l0) (hc0:l0.length≤c0) (h:slices_Clone_byte_byte.f l0=some r) :
  Calls Try.prog 40 #[.slice (some a0) l0.length c0] w fun e w'=>∃ v0_:Value,e=.returned (v0_)∧Kd.R (Kd.int .u8) 5 w' w.heap.size (fun _=>True) v0_ r∧Below w.heap.size w w':=by
 have HR0:=zm hr0
 have HC0:=zm hc0
 clear hr0 hc0
 have HB:=zm (Below.refl w.heap.size w)
 have H:((some (([]:List Int):List Int)).bind fun y166=>(if y166.length + l0.length < 140737488355328 then (some (y166 ++ l0)) else (none)))=some r:=h
 clear h
 obtain ⟨y166,hy166⟩:∃ y_:List Int,y_=(([]:List Int)):=⟨_,rfl⟩
 replace H:(if y166.length + l0.length < 140737488355328 then (some (y166 ++ l0)) else (none))=some r:=by first|(rw [hy166];with_reducible exact H)|(have H2_:=(Option.bind_some _ _).symm.trans H;rw [hy166];with_reducible exact H2_)|(have H2_:=(Option.bind_some _ _).symm.trans H;with_reducible exact H2_)|with_reducible exact H|(rw [hy166];exact H)|exact H
 have Ny166:=zm hy166
 clear hy166
 by_cases c2:y166.length + l0.length < 140737488355328
 ·rw [if_pos c2] at H
  have LMc2:=zm c2
  clear c2
  obtain ⟨y169,hy169⟩:∃ y_:List Int,y_=(y166 ++ l0):=⟨_,rfl⟩
  replace H:(some y169)=some r:=by first|(rw [hy169];with_reducible exact H)|(have H2_:=(Option.bind_some _ _).symm.trans H;rw [hy169];with_reducible exact H2_)|(have H2_:=(Option.bind_some _ _).symm.trans H;with_reducible exact H2_)|with_reducible exact H|(rw [hy169];exact H)|exact H
  have Ny169:=zm hy169
  clear hy169
  obtain rfl:=Option.some.inj H
  have hq_:=Lib.run_eql_slice_nil (P:=Try.prog) w 24 5 (some a0) l0.length c0 0 0 Try.underlying24
  go_enter Try.func40,Try.ntmps40
  go_wp2_with (first|((with_reducible refine gate_dst (N:=5) rfl ?_);refine Kd.R_lit (Kd.int .u8) _ 5 ?hg (N:=5) ?hd (xs:=([]:List Int)) (inner:=[]) (ok:=fun _=>True) (okp:=fun _=>True) ?hr ?hp (fun _ hk=>hk) trivial (Below.refl _ _) (Nat.le_refl _) (by simp) ?_;(case hd=>rfl);(case hg=>rfl);(case hr=>first|(go_simp;done)|(go_simp;rfl));(case hp=>exact (Reps.none _ _));intro v167 w3 ho4 hb hg_ hnew_;clear hg_ hnew_;(first|rw [← Ny166.out] at ho4|(simp only [Int.reduceToNat] at ho4;rw [← Ny166.out] at ho4));have n0_:=zm (Kd.R_lower ho4 (below_size (zb_)));have n1_:=zkH HB hb;clear HB;have HO168:=n0_;have HB:=n1_;clear n0_ n1_;clear hb ho4)|((with_reducible refine gate_builtin (b:=.append) (xs:=#[.tmp 5,.tmp 6]) rfl ?_);at_builtin;refine Kd.R_append_rows (Kd.int .u8) (w0:=w) w.heap.size rfl (.tmp 5) (.tmp 6) 24 5 (.int .u8 0) 1 rfl Try.underlying24 info5 rfl (by decide) (by omega) v167 y166 l0 _ _ _ (fun _=>True) (fun _=>False) rfl rfl ?aO ?aR (fun _ _ h=>h) (fun _ h=>h.elim) ?aF ?aB ?aS ?aL ?_;(case aR=>exact zC HR0);(case aB=>exact (zb_));(case aF=>exact (fun _ _=>trivial));(case aO=>exact (by (with_reducible repeat (first|apply zrA|apply zrN|apply zrD));exact HO168.out));(case aS=>exact (below_size (zb_)));(case aL=>have:=LMc2.out;omega);intro v170 w5 ho hb hg hat;rw [← Ny169.out] at ho;have n0_:=zm (hb);have n1_:=zm (ho);clear HB HO168;have HB:=n0_;have HO171:=n1_;clear n0_ n1_;clear ho hb hg hat))
  go_ret
  exact ⟨_,ze_,by (with_reducible repeat (first|apply zrA|apply zrN|apply zrD));exact HO171.out,zb_⟩
 ·rw [if_neg c2] at H
  exact absurd H (by simp)
theorem slices_Clone_byte_byte.calls (A0:Option Addr) (c0:Nat) (l0:List Int) (r:List Int) (w:World) (hr0:Kd.C (Kd.int .u8) w A0 l0.length l0) (hc0:l0.length≤c0) (h:slices_Clone_byte_byte.f l0=some r) :
  Calls Try.prog 40 #[.slice A0 l0.length c0] w fun e w'=>∃ v0_:Value,e=.returned (v0_)∧Kd.R (Kd.int .u8) 5 w' w.heap.size (fun _=>True) v0_ r∧Below w.heap.size w w':=by
 rcases A0 with _|a0
 ·have hl:l0=[]:=by
   rcases l0 with _|⟨x,l⟩
   ·rfl
   ·obtain ⟨ad,he,_⟩:=hr0.2.2 (by simp)
    cases he
  subst hl
  have hrr:r=[]:=by
   have h2:slices_Clone_byte_byte.f []=some []:=by first|decide|rfl|(simp [slices_Clone_byte_byte.f];done)
   rw [h2] at h
   exact (Option.some.inj h).symm
  subst hrr
  have HB:=zm (Below.refl w.heap.size w)
  clear h hr0 hc0
  have hq_:=Lib.run_eql_slice_nil (P:=Try.prog) w 24 5 none 0 c0 0 0 Try.underlying24
  go_enter Try.func40,Try.ntmps40
  go_wp2
  go_ret
  exact ⟨_,rfl,Kd.R_nil _ _ _ _ _,HB.out⟩
 ·exact slices_Clone_byte_byte.calls_some a0 c0 l0 r w hr0 hc0 h
def page_Decode_1.f (a0:Int):Option (Bool):=some (a0 != 0)
set_option maxHeartbeats 8000000 in
set_option maxRecDepth 100000 in
theorem page_Decode_1.calls (a0:Int) (r:Bool) (w:World) (h:page_Decode_1.f a0=some r) :
  Calls Try.prog 39 #[.int .u8 a0] w fun e w'=>e=.returned (.bool r)∧Drawn0 w w':=by
 have H:(some (a0 != 0))=some r:=h
 clear h
 obtain rfl:=Option.some.inj H
 go_enter Try.func39,Try.ntmps39
 go_wp2
 go_ret
 exact ⟨by first|rfl|(simp;done)|(simp [*];done),by repeat (first|exact Drawn0.refl _|apply Drawn0.step)⟩
def slices_IndexFunc_byte_byte_39.l0:Nat → List Int → Int → Int → Option (Int)
 | 0,_,_,_=>none
 | k + 1,x0,x7,x8=>if x8 < x7 then (if 0≤x8 then (if x8 < (x0.length:Int) then ((page_Decode_1.f (rd x0 x8)).bind fun t173=>(if t173=true then (some x8) else (slices_IndexFunc_byte_byte_39.l0 k x0 x7 (wrap64 (x8 + 1))))) else (none)) else (none)) else (some (-1))
def slices_IndexFunc_byte_byte_39.f (k:Nat) (l0:List Int) :Option (Int):=slices_IndexFunc_byte_byte_39.l0 k l0 (l0.length:Int) 0
set_option maxHeartbeats 8000000 in
set_option maxRecDepth 100000 in
theorem slices_IndexFunc_byte_byte_39.calls (k:Nat) (A0:Option Addr) (c0:Nat) (l0:List Int)  (r:Int) (w:World) (hr0:Kd.C (Kd.int .u8) w A0 l0.length l0) (hc0:l0.length≤c0) (h:slices_IndexFunc_byte_byte_39.f k l0=some r) :
  Calls Try.prog 60 #[.slice A0 l0.length c0,.func (.func 39) #[] #[]] w fun e w'=>e=.returned (.int .i64 r)∧Below w.heap.size w w':=by
 have HR0:=zm hr0
 have HC0:=zm hc0
 clear hr0 hc0
 have HB:=zm (Below.refl w.heap.size w)
 have H:(slices_IndexFunc_byte_byte_39.l0 k l0 (l0.length:Int) 0)=some r:=h
 clear h
 have H':=zm H
 clear H
 go_enter Try.func60,Try.ntmps60
 go_wp2
 go_loopg [8] k (fun kq v8 w'=>∃ (x8_1:Int),v8=.int .i64 x8_1∧Aside0 (slices_IndexFunc_byte_byte_39.l0 kq l0 (l0.length:Int) x8_1=some r)∧Aside0 (kq≤k)∧Aside0 (Below w.heap.size w w'))
 case atStart=>exact ⟨(0),zs_,H',⟨Nat.le_refl _⟩,⟨zb_⟩⟩
 case round =>
  clear H'
  try clear p2
  obtain ⟨x8_1,rfl,HA,HK1,HB⟩:=hrel
  cases gk with
  | zero=>exact absurd HA.out (by simp [slices_IndexFunc_byte_byte_39.l0])
  | succ k1 =>
   have H:=HA.out
   clear HA
   simp only [slices_IndexFunc_byte_byte_39.l0] at H
   by_cases c3:x8_1 < (l0.length:Int)
   ·rw [if_pos c3] at H
    have c3b0:decide (x8_1 < (l0.length:Int))=true:=decide_eq_true c3
    clear c3
    by_cases c4:0≤x8_1
    ·rw [if_pos c4] at H
     have c4b0:decide (0≤x8_1)=true:=decide_eq_true c4
     clear c4
     by_cases c5:x8_1 < (l0.length:Int)
     ·rw [if_pos c5] at H
      have c5b0:decide (x8_1 < (l0.length:Int))=true:=decide_eq_true c5
      clear c5
      replace H:=Option.bind_eq_some_iff.mp H
      obtain ⟨t173,A60,H⟩:=H
      replace H:(if t173=true then (some x8_1) else (slices_IndexFunc_byte_byte_39.l0 k1 l0 (l0.length:Int) (wrap64 (x8_1 + 1))))=some r:=H
      have A6:=zm A60
      clear A60
      by_cases c7:t173=true
      ·subst c7
       have H1:(some x8_1)=some r:=by rw [if_pos rfl] at H;exact H
       clear H
       have H:=H1
       clear H1
       obtain rfl:=Option.some.inj H
       have p172:0≤(x8_1:Int):=za_
       have q172:x8_1 < (l0.length:Int):=za_
       obtain ⟨ad172,e172,hx172_0⟩:=Kd.at_int HR0.out x8_1 p172 q172
       cases e172
       replace hx172_0:=zhx HB hx172_0
       replace p172:=eq_true p172
       replace q172:=eq_true q172
       go_wp2_with (first|(go_at_call 39;(with_reducible refine (page_Decode_1.calls  (rd l0 x8_1) true _ A6.out).mono ?_);rintro e w' ⟨rfl,⟨nd,rfl⟩⟩))
       go_ret
       exact ⟨ze_,zb_⟩
      ·replace c7:=Bool.eq_false_iff.mpr c7
       subst c7
       have H1:(slices_IndexFunc_byte_byte_39.l0 k1 l0 (l0.length:Int) (wrap64 (x8_1 + 1)))=some r:=by rw [if_neg (show ¬ (false=true) by decide)] at H;exact H
       clear H
       have H:=H1
       clear H1
       have H':=zm H
       clear H
       have p172:0≤(x8_1:Int):=za_
       have q172:x8_1 < (l0.length:Int):=za_
       obtain ⟨ad172,e172,hx172_0⟩:=Kd.at_int HR0.out x8_1 p172 q172
       cases e172
       replace hx172_0:=zhx HB hx172_0
       replace p172:=eq_true p172
       replace q172:=eq_true q172
       go_wp2_with (first|(go_at_call 39;(with_reducible refine (page_Decode_1.calls  (rd l0 x8_1) false _ A6.out).mono ?_);rintro e w' ⟨rfl,⟨nd,rfl⟩⟩))
       go_roundg k1
       case measure=>have:=HK1.out;omega
       case rel=>exact ⟨(wrap64 (x8_1 + 1)),zs_,H',⟨by have:=HK1.out;omega⟩,⟨zb_⟩⟩
     ·rw [if_neg c5] at H
      exact absurd H (by simp)
    ·rw [if_neg c4] at H
     exact absurd H (by simp)
   ·rw [if_neg c3] at H
    have c3b0:decide (x8_1 < (l0.length:Int))=false:=decide_eq_false c3
    clear c3
    obtain rfl:=Option.some.inj H
    go_wp2
    go_ret
    exact ⟨ze_,zb_⟩
def slices_ContainsFunc_byte_byte_39.f (k:Nat) (l0:List Int) :Option (Bool):=(slices_IndexFunc_byte_byte_39.f k l0).bind fun t174=>(some (decide (t174 ≥ 0)))
set_option maxHeartbeats 8000000 in
set_option maxRecDepth 100000 in
theorem slices_ContainsFunc_byte_byte_39.calls (k:Nat) (A0:Option Addr) (c0:Nat) (l0:List Int)  (r:Bool) (w:World) (hr0:Kd.C (Kd.int .u8) w A0 l0.length l0) (hc0:l0.length≤c0) (h:slices_ContainsFunc_byte_byte_39.f k l0=some r) :
  Calls Try.prog 38 #[.slice A0 l0.length c0,.func (.func 39) #[] #[]] w fun e w'=>e=.returned (.bool r)∧Below w.heap.size w w':=by
 have HR0:=zm hr0
 have HC0:=zm hc0
 clear hr0 hc0
 have HB:=zm (Below.refl w.heap.size w)
 have H:((slices_IndexFunc_byte_byte_39.f k l0).bind fun t174=>(some (decide (t174 ≥ 0))))=some r:=h
 clear h
 replace H:=Option.bind_eq_some_iff.mp H
 obtain ⟨t174,A30,H⟩:=H
 replace H:(some (decide (t174 ≥ 0)))=some r:=H
 have A3:=zm A30
 clear A30
 obtain rfl:=Option.some.inj H
 go_enter Try.func38,Try.ntmps38
 go_wp2_with (first|((with_reducible refine gate_callee (f:=60) rfl ?_);refine goesL_ (some 7) rfl rfl Try.func60 (by kernel_rfl) rfl #[.slice A0 l0.length c0,.func (.func 39) #[] #[]] rfl (by (try simp only [List.map_toArray,List.map_cons,List.map_nil]);first|done|rfl|(simp only [List.length_drop,List.length_take];rfl)) ?_;(with_reducible refine (slices_IndexFunc_byte_byte_39.calls k _ _ l0  t174 _ ?side1 ?side2 A3.out).mono ?_);(case side1=>repeat (first|exact HR0.out|(with_reducible refine Kd.C_alloc ?_ _)|(with_reducible refine Kd.C_drewN ?_ _)|(with_reducible refine Kd.C_drew ?_)));(case side2=>exact HC0.out);rintro e w4 ⟨rfl,hb⟩;refine ⟨_,rfl,?_⟩;have n0_:=zkH HB hb;clear HB;have HB:=n0_;clear n0_;(try clear hb);(try clear hb2);(try clear hk);(try clear hi)))
 go_ret
 exact ⟨ze_,zb_⟩
end Go.Proofs.Ytdohpjjggjehfaa.Print
end
