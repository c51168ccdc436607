/- Texts of the proof of InodeOwn, part 19. -/
import Derived.Test.YtjoojmodghpimaaInodeOwnM14
import Derived.Test.YtjoojmodghpimaaInodeOwnMA
import Derived.Test.YtjoojmodghpimaaProg
import Derived.Below
import Derived.Deep.Draws
import Derived.Deep.AppendLies
import Derived.Maps.AppendAt
import Derived.OwnWalk
import Derived.Laws.BytesArg
import Derived.Laws.MakeOwn
import Derived.Laws.OwnMore
import Derived.Deep.OwnRows
import Derived.Tactics
import Derived.Lib.ConvBytes
import Derived.Laws.Slices
import Derived.WalkKit
import Derived.KernelRfl
import Derived.RowKit3
import Derived.Deep.LoopGhost
import Derived.Deep.QuietTactic
import Derived.BigQuiet
import Derived.WideLaws
import Derived.Deep.DeepCutAuto
import Derived.Deep.CutBlock
import Derived.Deep.RegionHeld3
import Derived.Laws.Rows
import Derived.Lib.AppendStr
import Derived.ArgAppend
import Derived.Laws.IdiomCopy
import Derived.OrdersHeld
import Derived.Laws.BitsLemmas
import Derived.RowKit
import Derived.Lib.SliceRun
import Derived.Test.YtjoojmodghpimaaInodeOwnM15
import Derived.Test.YtjoojmodghpimaaInodeOwnM11
import Derived.Laws.CopyOwn
import Derived.Test.YtjoojmodghpimaaInodeOwnM0
import Derived.Deep.RegionLaw
import Derived.Test.YtjoojmodghpimaaInodeOwnM1
import Derived.Test.YtjoojmodghpimaaInodeOwnM13
import Derived.Test.YtjoojmodghpimaaInodeOwnM2
import Derived.Test.YtjoojmodghpimaaInodeOwnM3
import Derived.Test.YtjoojmodghpimaaInodeOwnM4
import Derived.Test.YtjoojmodghpimaaInodeOwnM5
import Derived.Test.YtjoojmodghpimaaInodeOwnM6
import Derived.Test.YtjoojmodghpimaaInodeOwnM7
import Derived.Test.YtjoojmodghpimaaInodeOwnM8
import Derived.Test.YtjoojmodghpimaaInodeOwnM16
import Derived.Test.YtjoojmodghpimaaInodeOwnM17
import Derived.Test.YtjoojmodghpimaaInodeOwnM18
import Derived.Test.YtjoojmodghpimaaInodeOwnM10
import Derived.Test.YtjoojmodghpimaaInodeOwnM9
import Derived.Test.YtjoojmodghpimaaInodeOwnM12
section
namespace Go.Proofs.Ytjoojmodghpimaa.Print
open Go.RowKit Go.Proofs.YtjoojmodghpimaaW.PrintWords Go.Proofs.YtjoojmodghpimaaW.PrintLast Go.Proofs.YtjoojmodghpimaaW.PrintMore
attribute [local go_sem] max2_int min2_int max_two min_two max_three min_three max_four min_four   -- for this text's walks alone
attribute [local go_sem ↓] Go.Proofs.Ytjoojmodghpimaa.Sem.isSome_setCell
attribute [local go_sem] Go.Instr.field Go.asAgg
set_option linter.unusedVariables false
set_option linter.unusedSimpArgs false
def errW:Option Int → Value
 | none=>.nilIface
 | some c=>.iface 0 (.int .i64 c)
theorem errW_none:errW none=.nilIface:=rfl
theorem errW_some (c:Int):errW (some c)=.iface 0 (.int .i64 c):=rfl
theorem info5:(Try.prog.info? 5).map (fun i=>(i.zero,i.size,i.bytes))=some (some (.int .u8 0),1,1):=by kernel_rfl
theorem info51:(Try.prog.info? 51).map (fun i=>(i.zero,i.size,i.bytes))=some (some (.agg #[(.int .i64 0),(.int .i64 0),(.int .i64 0)]),3,24):=by kernel_rfl
theorem info58:(Try.prog.info? 58).map (fun i=>(i.zero,i.size,i.bytes))=some (some (.int .u64 0),1,8):=by kernel_rfl
-- the values' own types
structure S51 where
 f0:Int
 f1:Int
 f2:Int
def z51:S51:=⟨(0:Int),(0:Int),(0:Int)⟩
def k51:Kd S51:=Kd.iso (Kd.pair (Kd.int .i64) (Kd.pair (Kd.int .i64) (Kd.int .i64))) (fun x:S51=>(x.f0,x.f1,x.f2))
theorem k51_open {w:World} {x:S51} {cs:List Value} (h:k51.K w x cs):cs=[.int .i64 x.f0,.int .i64 x.f1,.int .i64 x.f2]:=by
 obtain ⟨_,_,rfl,rfl,⟨_,_,rfl,rfl,rfl⟩⟩:=h
 exact rfl
theorem k51_mk (w:World) (x:S51) :k51.K w x [.int .i64 x.f0,.int .i64 x.f1,.int .i64 x.f2]:=⟨[.int .i64 x.f0],[.int .i64 x.f1,.int .i64 x.f2],rfl,rfl,⟨[.int .i64 x.f1],[.int .i64 x.f2],rfl,rfl,rfl⟩⟩
theorem k51_mkM (w:World) (base:Nat) (ok:Nat → Prop) (x:S51) :k51.M w base ok x [.int .i64 x.f0,.int .i64 x.f1,.int .i64 x.f2]:=⟨[.int .i64 x.f0],[.int .i64 x.f1,.int .i64 x.f2],rfl,rfl,⟨[.int .i64 x.f1],[.int .i64 x.f2],rfl,rfl,rfl⟩⟩
def rd_T51 (xs:List S51) (i:Int):S51:=xs.getD i.toNat z51
theorem at_T51 {w:World} {A:Option Addr} {n:Nat} {xs:List S51} (h:Kd.C k51 w A n xs) (i:Int) (h0:0≤i) (h1:i < n):∃ ad ,A=some ad∧w.cell? (ad.add (i.toNat * 3))=some (.int .i64 (rd_T51 xs i).f0)∧w.cell? ⟨(ad.add (i.toNat * 3)).block,(ad.add (i.toNat * 3)).off + 1,none⟩=some (.int .i64 (rd_T51 xs i).f1)∧w.cell? ⟨(ad.add (i.toNat * 3)).block,(ad.add (i.toNat * 3)).off + 2,none⟩=some (.int .i64 (rd_T51 xs i).f2):=by
 obtain ⟨ad,c,e,_,hK,hc0⟩:=Kd.C_get h z51 i h0 h1
 have hc:∀ j u,c[j]?=some u → w.cell? (ad.add (i.toNat * 3 + j))=some u:=hc0
 obtain rfl:=k51_open hK
 exact ⟨ad,e,hc 0 _ rfl,by rw [← add_field _ _ 1 (by omega)];exact hc 1 _ rfl,by rw [← add_field _ _ 2 (by omega)];exact hc 2 _ rfl⟩
end Go.Proofs.Ytjoojmodghpimaa.Print
end
section
namespace Go.Proofs.Ytjoojmodghpimaa.Print
open Go.RowKit Go.Proofs.YtjoojmodghpimaaW.PrintWords Go.Proofs.YtjoojmodghpimaaW.PrintLast Go.Proofs.YtjoojmodghpimaaW.PrintMore
attribute [local go_sem] max2_int min2_int max_two min_two max_three min_three max_four min_four   -- for this text's walks alone
attribute [local go_sem ↓] Go.Proofs.Ytjoojmodghpimaa.Sem.isSome_setCell
attribute [local go_sem] Go.Instr.field Go.asAgg
set_option linter.unusedVariables false
set_option linter.unusedSimpArgs false
def extent_One.j0:Nat → Bool → Int → Int → Int → Option (Int)
 | 0,_,_,_,_=>none
 | k + 1,x3,x102000,x102001,x102002=>if x3=true then (some 130) else (if (wrap64 (x102000 + x102001)) > 65536 then (some 130) else (if (wrap64 (x102002 + x102001)) > 8192 then (some 130) else (some 0)))
def extent_One.f (k:Nat) (a0_0:Int) (a0_1:Int) (a0_2:Int):Option (Int):=if a0_0 < 0 then (extent_One.j0 k true a0_0 a0_1 a0_2) else (if a0_0 ≥ 65536 then (extent_One.j0 k true a0_0 a0_1 a0_2) else (if a0_1 < 1 then (extent_One.j0 k true a0_0 a0_1 a0_2) else (if a0_1 > 4096 then (extent_One.j0 k true a0_0 a0_1 a0_2) else (if a0_2 < 1 then (extent_One.j0 k true a0_0 a0_1 a0_2) else (extent_One.j0 k (decide (a0_2 ≥ 8192)) a0_0 a0_1 a0_2)))))
theorem extent_One.mono_l:∀ k,(∀ y0 y1 y2 y3,LeO (extent_One.j0 k y0 y1 y2 y3) (extent_One.j0 (k + 1) y0 y1 y2 y3))
 | 0=>fun _ _ _ _ r h=>by simp [extent_One.j0] at h
 | k + 1=>by
  have ih0:=extent_One.mono_l k
  ·intro y0 y1 y2 y3
   unfold extent_One.j0
   repeat' first
   | (with_reducible exact ih0 _ _ _ _)
   | (with_reducible exact LeO.refl _)
   | (with_reducible exact LeO.none _)
   | (with_reducible refine LeO.ite ?_ ?_)
   | (with_reducible refine LeO.bind ?_ (fun _=>?_))
   | exact ih0 _ _ _ _
   | exact LeO.none _
   | refine LeO.ite ?_ ?_
   | refine LeO.bind ?_ (fun _=>?_)
theorem extent_One.mono:∀ a0 a1 a2 k,LeO (extent_One.f k a0 a1 a2) (extent_One.f (k + 1) a0 a1 a2):=by
 intro a0 a1 a2 k
 have ih0:=extent_One.mono_l k
 unfold extent_One.f
 repeat' first
   | (with_reducible exact ih0 _ _ _ _)
   | (with_reducible exact LeO.refl _)
   | (with_reducible exact LeO.none _)
   | (with_reducible refine LeO.ite ?_ ?_)
   | (with_reducible refine LeO.bind ?_ (fun _=>?_))
   | exact ih0 _ _ _ _
   | exact LeO.none _
   | refine LeO.ite ?_ ?_
   | refine LeO.bind ?_ (fun _=>?_)
set_option maxHeartbeats 8000000 in
set_option maxRecDepth 100000 in
theorem extent_One.calls (k:Nat) (a0_0:Int) (a0_1:Int) (a0_2:Int) (r:Int) (w:World) (h:extent_One.f k a0_0 a0_1 a0_2=some r) :
  Calls Try.prog 52 #[.agg #[.int .i64 a0_0,.int .i64 a0_1,.int .i64 a0_2]] w fun e w'=>e=.returned (.int .i64 r)∧Below w.heap.size w w':=by
 have hu51:=Try.underlying51
 have HB:=zm (Below.refl w.heap.size w)
 have H:(if a0_0 < 0 then (extent_One.j0 k true a0_0 a0_1 a0_2) else (if a0_0 ≥ 65536 then (extent_One.j0 k true a0_0 a0_1 a0_2) else (if a0_1 < 1 then (extent_One.j0 k true a0_0 a0_1 a0_2) else (if a0_1 > 4096 then (extent_One.j0 k true a0_0 a0_1 a0_2) else (if a0_2 < 1 then (extent_One.j0 k true a0_0 a0_1 a0_2) else (extent_One.j0 k (decide (a0_2 ≥ 8192)) a0_0 a0_1 a0_2))))))=some r:=h
 clear h
 have HC2:=zm H
 clear H
 go_enter Try.func52,Try.ntmps52
 go_upto_region 1 with (first|((with_reducible refine gate_dst (N:=1) rfl ?_);refine zbx 1 #[.int .i64 a0_0,.int .i64 a0_1,.int .i64 a0_2] 51 ?_;intro gb101 hg w3 hbox hb;have n0_:=zkH HB hb;have n1_:=zm (hbox);have n2_:=zkG HB hg;have n3_:=zkG HB hg;clear HB;have HB:=n0_;have BK101:=n1_;have GW101:=n2_;have GE101:=n3_;clear n0_ n1_ n2_ n3_;clear hb hbox hg))
 (try simp only [Act.put,List.setIfInBounds_toArray,List.set_cons_zero,List.set_cons_succ])
 go_cut [3] (fun v3 wc=>∃ (kq:Nat) (x3_1:Bool),v3=.bool x3_1∧Aside0 (extent_One.j0 kq x3_1 a0_0 a0_1 a0_2=some r)∧Aside0 (kq≤k)∧Aside0 (wc.heap[gb101]?=some (.cells #[.int .i64 a0_0,.int .i64 a0_1,.int .i64 a0_2] 51 (0,0)))∧Aside0 (Below w.heap.size w wc))
 case first =>
  have H:=HC2.out
  clear HC2
  by_cases c4:a0_0 < 0
  ·rw [if_pos c4] at H
   have c4b0:decide (a0_0 < 0)=true:=decide_eq_true c4
   clear c4
   (first|rw [c4b0]|(simp only [i64_w,i32_w];rw [c4b0])|skip)
   have H':=zm H
   clear H
   obtain ⟨hcz5_0,hcz5_1,hcz5_2,hfz5_0,hfz5_1,hfz5_2⟩:=zc3 BK101.out
   go_wp2
   go_meet
   case rel=>exact ⟨_,(true),zs_,H',⟨by first|omega|exact Nat.le_refl _⟩,⟨zx_⟩,⟨zb_⟩⟩
  ·rw [if_neg c4] at H
   have c4b0:decide (a0_0 < 0)=false:=decide_eq_false c4
   clear c4
   (first|rw [c4b0]|(simp only [i64_w,i32_w];rw [c4b0])|skip)
   by_cases c6:a0_0 ≥ 65536
   ·rw [if_pos c6] at H
    have c6b0:decide (65536≤a0_0)=true:=decide_eq_true c6
    clear c6
    have H':=zm H
    clear H
    obtain ⟨hcz7_0,hcz7_1,hcz7_2,hfz7_0,hfz7_1,hfz7_2⟩:=zc3 BK101.out
    go_wp2
    go_meet
    case rel=>exact ⟨_,(true),zs_,H',⟨by first|omega|exact Nat.le_refl _⟩,⟨zx_⟩,⟨zb_⟩⟩
   ·rw [if_neg c6] at H
    have c6b0:decide (65536≤a0_0)=false:=decide_eq_false c6
    clear c6
    by_cases c8:a0_1 < 1
    ·rw [if_pos c8] at H
     have c8b0:decide (a0_1 < 1)=true:=decide_eq_true c8
     clear c8
     have H':=zm H
     clear H
     obtain ⟨hcz9_0,hcz9_1,hcz9_2,hfz9_0,hfz9_1,hfz9_2⟩:=zc3 BK101.out
     go_wp2
     go_meet
     case rel=>exact ⟨_,(true),zs_,H',⟨by first|omega|exact Nat.le_refl _⟩,⟨zx_⟩,⟨zb_⟩⟩
    ·rw [if_neg c8] at H
     have c8b0:decide (a0_1 < 1)=false:=decide_eq_false c8
     clear c8
     by_cases c10:a0_1 > 4096
     ·rw [if_pos c10] at H
      have c10b0:decide (4096 < a0_1)=true:=decide_eq_true c10
      clear c10
      have H':=zm H
      clear H
      obtain ⟨hcz11_0,hcz11_1,hcz11_2,hfz11_0,hfz11_1,hfz11_2⟩:=zc3 BK101.out
      go_wp2
      go_meet
      case rel=>exact ⟨_,(true),zs_,H',⟨by first|omega|exact Nat.le_refl _⟩,⟨zx_⟩,⟨zb_⟩⟩
     ·rw [if_neg c10] at H
      have c10b0:decide (4096 < a0_1)=false:=decide_eq_false c10
      clear c10
      by_cases c12:a0_2 < 1
      ·rw [if_pos c12] at H
       have c12b0:decide (a0_2 < 1)=true:=decide_eq_true c12
       clear c12
       have H':=zm H
       clear H
       obtain ⟨hcz13_0,hcz13_1,hcz13_2,hfz13_0,hfz13_1,hfz13_2⟩:=zc3 BK101.out
       go_wp2
       go_meet
       case rel=>exact ⟨_,(true),zs_,H',⟨by first|omega|exact Nat.le_refl _⟩,⟨zx_⟩,⟨zb_⟩⟩
      ·rw [if_neg c12] at H
       have c12b0:decide (a0_2 < 1)=false:=decide_eq_false c12
       clear c12
       have H':=zm H
       clear H
       obtain ⟨hcz14_0,hcz14_1,hcz14_2,hfz14_0,hfz14_1,hfz14_2⟩:=zc3 BK101.out
       go_wp2
       go_meet
       case rel=>exact ⟨_,(decide (a0_2 ≥ 8192)),zs_,H',⟨by first|omega|exact Nat.le_refl _⟩,⟨zx_⟩,⟨zb_⟩⟩
 case rest =>
  clear HC2
  try clear c1
  try clear p2
  try clear c4
  try clear c4b0
  try clear c5
  try clear c6
  try clear c6b0
  try clear c8
  try clear c8b0
  try clear c10
  try clear c10b0
  try clear c12
  try clear c12b0
  try clear hcz11_0
  try clear hcz11_1
  try clear hcz11_2
  try clear hcz13_0
  try clear hcz13_1
  try clear hcz13_2
  try clear hcz14_0
  try clear hcz14_1
  try clear hcz14_2
  try clear hcz5_0
  try clear hcz5_1
  try clear hcz5_2
  try clear hcz7_0
  try clear hcz7_1
  try clear hcz7_2
  try clear hcz9_0
  try clear hcz9_1
  try clear hcz9_2
  try clear hfz11_0
  try clear hfz11_1
  try clear hfz11_2
  try clear hfz13_0
  try clear hfz13_1
  try clear hfz13_2
  try clear hfz14_0
  try clear hfz14_1
  try clear hfz14_2
  try clear hfz5_0
  try clear hfz5_1
  try clear hfz5_2
  try clear hfz7_0
  try clear hfz7_1
  try clear hfz7_2
  try clear hfz9_0
  try clear hfz9_1
  try clear hfz9_2
  obtain ⟨kq,x3_1,rfl,HA,HJ1,BK101,HB⟩:=hcut
  cases kq with
  | zero=>exact absurd HA.out (by simp [extent_One.j0])
  | succ kj1 =>
   have H:=HA.out
   clear HA
   simp only [extent_One.j0] at H
   by_cases c15:x3_1=true
   ·subst c15
    have H1:(some 130)=some r:=by rw [if_pos rfl] at H;exact H
    clear H
    have H:=H1
    clear H1
    obtain rfl:=Option.some.inj H
    go_wp2
    go_ret
    exact ⟨ze_,zb_⟩
   ·replace c15:=Bool.eq_false_iff.mpr c15
    subst c15
    have H1:(if (wrap64 (a0_0 + a0_1)) > 65536 then (some 130) else (if (wrap64 (a0_2 + a0_1)) > 8192 then (some 130) else (some 0)))=some r:=by rw [if_neg (show ¬ (false=true) by decide)] at H;exact H
    clear H
    have H:=H1
    clear H1
    by_cases c16:(wrap64 (a0_0 + a0_1)) > 65536
    ·rw [if_pos c16] at H
     have c16b0:decide (65536 < (wrap64 (a0_0 + a0_1)))=true:=decide_eq_true c16
     clear c16
     obtain rfl:=Option.some.inj H
     obtain ⟨hcz17_0,hcz17_1,hcz17_2,hfz17_0,hfz17_1,hfz17_2⟩:=zc3 BK101.out
     go_wp2
     go_ret
     exact ⟨ze_,zb_⟩
    ·rw [if_neg c16] at H
     have c16b0:decide (65536 < (wrap64 (a0_0 + a0_1)))=false:=decide_eq_false c16
     clear c16
     by_cases c18:(wrap64 (a0_2 + a0_1)) > 8192
     ·rw [if_pos c18] at H
      have c18b0:decide (8192 < (wrap64 (a0_2 + a0_1)))=true:=decide_eq_true c18
      clear c18
      obtain rfl:=Option.some.inj H
      obtain ⟨hcz19_0,hcz19_1,hcz19_2,hfz19_0,hfz19_1,hfz19_2⟩:=zc3 BK101.out
      go_wp2
      go_ret
      exact ⟨ze_,zb_⟩
     ·rw [if_neg c18] at H
      have c18b0:decide (8192 < (wrap64 (a0_2 + a0_1)))=false:=decide_eq_false c18
      clear c18
      obtain rfl:=Option.some.inj H
      obtain ⟨hcz20_0,hcz20_1,hcz20_2,hfz20_0,hfz20_1,hfz20_2⟩:=zc3 BK101.out
      go_wp2
      go_ret
      exact ⟨ze_,zb_⟩
def extent_end.f (a0_0:Int) (a0_1:Int) (a0_2:Int):Option (Int):=some (wrap64 (a0_0 + a0_1))
set_option maxHeartbeats 8000000 in
set_option maxRecDepth 100000 in
theorem extent_end.calls (a0_0:Int) (a0_1:Int) (a0_2:Int) (r:Int) (w:World) (h:extent_end.f a0_0 a0_1 a0_2=some r) :
  Calls Try.prog 53 #[.agg #[.int .i64 a0_0,.int .i64 a0_1,.int .i64 a0_2]] w fun e w'=>e=.returned (.int .i64 r)∧Below w.heap.size w w':=by
 have hu51:=Try.underlying51
 have HB:=zm (Below.refl w.heap.size w)
 have H:(some (wrap64 (a0_0 + a0_1)))=some r:=h
 clear h
 obtain rfl:=Option.some.inj H
 go_enter Try.func53,Try.ntmps53
 go_wp2_with (first|((with_reducible refine gate_dst (N:=1) rfl ?_);refine zbx 1 #[.int .i64 a0_0,.int .i64 a0_1,.int .i64 a0_2] 51 ?_;intro gb102 hg w2 hbox hb;have n0_:=zkH HB hb;have n1_:=zm (hbox);have n2_:=zkG HB hg;have n3_:=zkG HB hg;clear HB;have HB:=n0_;have BK102:=n1_;have GW102:=n2_;have GE102:=n3_;clear n0_ n1_ n2_ n3_;clear hb hbox hg;obtain ⟨hcz3_0,hcz3_1,hcz3_2,hfz3_0,hfz3_1,hfz3_2⟩:=zc3 BK102.out))
 go_ret
 exact ⟨ze_,zb_⟩
end Go.Proofs.Ytjoojmodghpimaa.Print
end
section
namespace Go.Proofs.Ytjoojmodghpimaa.Print
open Go.RowKit Go.Proofs.YtjoojmodghpimaaW.PrintWords Go.Proofs.YtjoojmodghpimaaW.PrintLast Go.Proofs.YtjoojmodghpimaaW.PrintMore
attribute [local go_sem] max2_int min2_int max_two min_two max_three min_three max_four min_four   -- for this text's walks alone
attribute [local go_sem ↓] Go.Proofs.Ytjoojmodghpimaa.Sem.isSome_setCell
attribute [local go_sem] Go.Instr.field Go.asAgg
set_option linter.unusedVariables false
set_option linter.unusedSimpArgs false
def extent_joins.f (a0_0:Int) (a0_1:Int) (a0_2:Int) (a1_0:Int) (a1_1:Int) (a1_2:Int):Option (Bool):=(extent_end.f a0_0 a0_1 a0_2).bind fun t105=>(if t105=a1_0 then (if (wrap64 (a0_2 + a0_1))=a1_2 then (some (decide ((wrap64 (a0_1 + a1_1))≤4096))) else (some false)) else (some false))
def extent_joins.T1:Bool × List (List Nat × List Nat):=(true,[([],[]),([0],[0]),([],[]),([2],[2]),([1,3],[1,3]),([4,1],[4]),([5],[5]),([6,5],[5,6]),([5],[5]),([8,5],[5,8]),([7,9,5],[5,7,9]),([5],[5]),([11,5],[5,11]),([10,12,5],[5,10,12]),([5,13],[5,13]),([14,5],[14]),([15],[15]),([16,15],[15,16]),([15],[15]),([18,15],[15,18]),([17,19,15],[15,17,19]),([20,15],[15,20]),([15,21],[15,21]),([22,15,0,1,2,3,4,5,6,7,8,9,10,11,12,13,14,15,16,17,18,19,20,21,22],[22])])
def extent_joins.B1:List Nat:=[0,1,0,4,15,31,63,127,63,319,1023,63,2111,8191,16383,32767,65535,131071,65535,327679,1048575,2097151,4194303,8388607]
theorem extent_joins.tab1:rtab .any (opsOf Try.f54 1)=extent_joins.T1:=by kernel_rfl
theorem extent_joins.bits1:waitsOk extent_joins.T1.2 extent_joins.B1=true:=by kernel_rfl
set_option maxHeartbeats 8000000 in
set_option maxRecDepth 100000 in
theorem extent_joins.calls (a0_0:Int) (a0_1:Int) (a0_2:Int) (a1_0:Int) (a1_1:Int) (a1_2:Int) (r:Bool) (w:World) (h:extent_joins.f a0_0 a0_1 a0_2 a1_0 a1_1 a1_2=some r) :
  Calls Try.prog 54 #[.agg #[.int .i64 a0_0,.int .i64 a0_1,.int .i64 a0_2],.agg #[.int .i64 a1_0,.int .i64 a1_1,.int .i64 a1_2]] w fun e w'=>e=.returned (.bool r)∧Below w.heap.size w w':=by
 have hu51:=Try.underlying51
 have HB:=zm (Below.refl w.heap.size w)
 have H:((extent_end.f a0_0 a0_1 a0_2).bind fun t105=>(if t105=a1_0 then (if (wrap64 (a0_2 + a0_1))=a1_2 then (some (decide ((wrap64 (a0_1 + a1_1))≤4096))) else (some false)) else (some false)))=some r:=h
 clear h
 replace H:=Option.bind_eq_some_iff.mp H
 obtain ⟨t105,A30,H⟩:=H
 replace H:(if t105=a1_0 then (if (wrap64 (a0_2 + a0_1))=a1_2 then (some (decide ((wrap64 (a0_1 + a1_1))≤4096))) else (some false)) else (some false))=some r:=H
 have A3:=zm A30
 clear A30
 by_cases c4:t105=a1_0
 ·rw [if_pos c4] at H
  have c4b0:(t105 == a1_0)=true:=beq_iff_eq.mpr c4
  have c4b1:(t105 != a1_0)=false:=bne_eq_false_iff_eq.mpr c4
  clear c4
  by_cases c5:(wrap64 (a0_2 + a0_1))=a1_2
  ·rw [if_pos c5] at H
   have c5b0:((wrap64 (a0_2 + a0_1)) == a1_2)=true:=beq_iff_eq.mpr c5
   have c5b1:((wrap64 (a0_2 + a0_1)) != a1_2)=false:=bne_eq_false_iff_eq.mpr c5
   clear c5
   obtain rfl:=Option.some.inj H
   go_enter Try.func54,Try.ntmps54
   try go_wp2_with (first|((with_reducible refine gate_dst (N:=2) rfl ?_);refine zbx 2 #[.int .i64 a0_0,.int .i64 a0_1,.int .i64 a0_2] 51 ?_;intro gb103 hg w6 hbox hb;have n0_:=zkH HB hb;have n1_:=zm (hbox);have n2_:=zkG HB hg;have n3_:=zkG HB hg;clear HB;have HB:=n0_;have BK103:=n1_;have GW103:=n2_;have GE103:=n3_;clear n0_ n1_ n2_ n3_;clear hb hbox hg)|((with_reducible refine gate_dst (N:=3) rfl ?_);refine zbx 3 #[.int .i64 a1_0,.int .i64 a1_1,.int .i64 a1_2] 51 ?_;intro gb104 hg w7 hbox hb;have n0_:=zkB BK103 hb;have n1_:=zkH HB hb;have n2_:=zm (hbox);have n3_:=zkG HB hg;have n4_:=zkG HB hg;have n5_:=zkN BK103 hg;have n6_:=zkM BK103 hg;clear BK103 HB;have BK103:=n0_;have HB:=n1_;have BK104:=n2_;have GW104:=n3_;have GE104:=n4_;have NB103_104:=n5_;have NB104_103:=n6_;clear n0_ n1_ n2_ n3_ n4_ n5_ n6_;clear hb hbox hg))
   have n0_:=zm (zbD BK103.out)
   have n1_:=zm (zbD BK104.out)
   have n2_:=zm (zlD HB.out)
   clear BK103 BK104 HB
   have BK103:=n0_
   have BK104:=n1_
   have HB:=n2_
   clear n0_ n1_ n2_
   refine start_ (n:=24) (S:=fun w'=>w'.cell? ⟨gb103,0,none⟩=some (.int .i64 a0_0)∧w'.cell? ⟨gb103,1,none⟩=some (.int .i64 a0_1)∧w'.cell? ⟨gb103,2,none⟩=some (.int .i64 a0_2)∧w'.cell? ⟨gb104,0,none⟩=some (.int .i64 a1_0)∧w'.cell? ⟨gb104,1,none⟩=some (.int .i64 a1_1)∧w'.cell? ⟨gb104,2,none⟩=some (.int .i64 a1_2)) (ds:=[]) (Array.replicate 24 false) (by kernel_rfl) rfl rfl ⟨(blk_cell BK103.out 0).trans rfl,(blk_cell BK103.out 1).trans rfl,(blk_cell BK103.out 2).trans rfl,(blk_cell BK104.out 0).trans rfl,(blk_cell BK104.out 1).trans rfl,(blk_cell BK104.out 2).trans rfl⟩ (fun hHeld=>?_);refine with_tabW extent_joins.tab1 extent_joins.bits1 (fun HT_ HW_=>?_)
   generalize w7.drew=w8 at BK103 BK104 HB hHeld ⊢
   refine zpu 2 ?_
   refine zta 0 hHeld ?_
   refine zta 3 hHeld ?_
   refine zon 1 (some 6) (fun K hK=>?_)
   refine zgo Try.func53 #[.agg #[.int .i64 a0_0,.int .i64 a0_1,.int .i64 a0_2]] ?_
   with_reducible refine (extent_end.calls a0_0 a0_1 a0_2 t105 _ A3.out).mono ?_
   rintro e w9 ⟨rfl,hb⟩
   refine ⟨_,rfl,?_⟩
   have n0_:=zkB BK103 hb
   have n1_:=zkB BK104 hb
   have n2_:=zkH HB hb
   clear BK103 BK104 HB
   have BK103:=n0_
   have BK104:=n1_
   have HB:=n2_
   clear n0_ n1_ n2_
   (try clear hb)
   (try clear hb2)
   (try clear hk)
   (try clear hi)
   refine hK.out _ _ ⟨(blk_cell BK103.out 0).trans rfl,(blk_cell BK103.out 1).trans rfl,(blk_cell BK103.out 2).trans rfl,(blk_cell BK104.out 0).trans rfl,(blk_cell BK104.out 1).trans rfl,(blk_cell BK104.out 2).trans rfl⟩ (fun hHeld=>?_)
   clear hK K
   refine znm (some 6) ?_
   refine zpu 4 ?_
   refine zpu 5 ?_
   refine zpu 6 ?_
   refine zpu 8 ?_
   refine zpu 11 ?_
   refine zta 7 hHeld ?_
   refine zta 9 hHeld ?_
   refine zpu 10 ?_
   refine zta 12 hHeld ?_
   refine zpu 13 ?_
   refine zpu 14 ?_
   refine zpu 15 ?_
   refine zpu 16 ?_
   refine zpu 18 ?_
   refine zta 17 hHeld ?_
   refine zta 19 hHeld ?_
   refine zpu 20 ?_
   refine zpu 21 ?_
   refine zpu 22 ?_
   refine zpu 23 ?_
   refine zdo ?_
   try go_wp2
   go_ret
   exact ⟨ze_,zb_⟩
  ·rw [if_neg c5] at H
   have c5b0:((wrap64 (a0_2 + a0_1)) == a1_2)=false:=beq_eq_false_iff_ne.mpr c5
   have c5b1:((wrap64 (a0_2 + a0_1)) != a1_2)=true:=bne_iff_ne.mpr c5
   obtain rfl:=Option.some.inj H
   go_enter Try.func54,Try.ntmps54
   try go_wp2_with (first|((with_reducible refine gate_dst (N:=2) rfl ?_);refine zbx 2 #[.int .i64 a0_0,.int .i64 a0_1,.int .i64 a0_2] 51 ?_;intro gb103 hg w10 hbox hb;have n0_:=zkH HB hb;have n1_:=zm (hbox);have n2_:=zkG HB hg;have n3_:=zkG HB hg;clear HB;have HB:=n0_;have BK103:=n1_;have GW103:=n2_;have GE103:=n3_;clear n0_ n1_ n2_ n3_;clear hb hbox hg)|((with_reducible refine gate_dst (N:=3) rfl ?_);refine zbx 3 #[.int .i64 a1_0,.int .i64 a1_1,.int .i64 a1_2] 51 ?_;intro gb104 hg w11 hbox hb;have n0_:=zkB BK103 hb;have n1_:=zkH HB hb;have n2_:=zm (hbox);have n3_:=zkG HB hg;have n4_:=zkG HB hg;have n5_:=zkN BK103 hg;have n6_:=zkM BK103 hg;clear BK103 HB;have BK103:=n0_;have HB:=n1_;have BK104:=n2_;have GW104:=n3_;have GE104:=n4_;have NB103_104:=n5_;have NB104_103:=n6_;clear n0_ n1_ n2_ n3_ n4_ n5_ n6_;clear hb hbox hg))
   have n0_:=zm (zbD BK103.out)
   have n1_:=zm (zbD BK104.out)
   have n2_:=zm (zlD HB.out)
   clear BK103 BK104 HB
   have BK103:=n0_
   have BK104:=n1_
   have HB:=n2_
   clear n0_ n1_ n2_
   refine start_ (n:=24) (S:=fun w'=>w'.cell? ⟨gb103,0,none⟩=some (.int .i64 a0_0)∧w'.cell? ⟨gb103,1,none⟩=some (.int .i64 a0_1)∧w'.cell? ⟨gb103,2,none⟩=some (.int .i64 a0_2)∧w'.cell? ⟨gb104,0,none⟩=some (.int .i64 a1_0)∧w'.cell? ⟨gb104,1,none⟩=some (.int .i64 a1_1)∧w'.cell? ⟨gb104,2,none⟩=some (.int .i64 a1_2)) (ds:=[]) (Array.replicate 24 false) (by kernel_rfl) rfl rfl ⟨(blk_cell BK103.out 0).trans rfl,(blk_cell BK103.out 1).trans rfl,(blk_cell BK103.out 2).trans rfl,(blk_cell BK104.out 0).trans rfl,(blk_cell BK104.out 1).trans rfl,(blk_cell BK104.out 2).trans rfl⟩ (fun hHeld=>?_);refine with_tabW extent_joins.tab1 extent_joins.bits1 (fun HT_ HW_=>?_)
   generalize w11.drew=w12 at BK103 BK104 HB hHeld ⊢
   refine zpu 2 ?_
   refine zta 0 hHeld ?_
   refine zta 3 hHeld ?_
   refine zon 1 (some 6) (fun K hK=>?_)
   refine zgo Try.func53 #[.agg #[.int .i64 a0_0,.int .i64 a0_1,.int .i64 a0_2]] ?_
   with_reducible refine (extent_end.calls a0_0 a0_1 a0_2 t105 _ A3.out).mono ?_
   rintro e w13 ⟨rfl,hb⟩
   refine ⟨_,rfl,?_⟩
   have n0_:=zkB BK103 hb
   have n1_:=zkB BK104 hb
   have n2_:=zkH HB hb
   clear BK103 BK104 HB
   have BK103:=n0_
   have BK104:=n1_
   have HB:=n2_
   clear n0_ n1_ n2_
   (try clear hb)
   (try clear hb2)
   (try clear hk)
   (try clear hi)
   refine hK.out _ _ ⟨(blk_cell BK103.out 0).trans rfl,(blk_cell BK103.out 1).trans rfl,(blk_cell BK103.out 2).trans rfl,(blk_cell BK104.out 0).trans rfl,(blk_cell BK104.out 1).trans rfl,(blk_cell BK104.out 2).trans rfl⟩ (fun hHeld=>?_)
   clear hK K
   refine znm (some 6) ?_
   refine zpu 4 ?_
   refine zpu 5 ?_
   refine zpu 6 ?_
   refine zpu 8 ?_
   refine zpu 11 ?_
   refine zta 7 hHeld ?_
   refine zta 9 hHeld ?_
   refine zpu 10 ?_
   refine zta 12 hHeld ?_
   refine zpu 13 ?_
   refine zpu 14 ?_
   refine zpu 15 ?_
   refine zpn 16 ?_
   refine zpn 17 ?_
   refine zpn 18 ?_
   refine zpn 19 ?_
   refine zpn 20 ?_
   refine zpn 21 ?_
   refine zpu 22 ?_
   refine zpu 23 ?_
   refine zdo ?_
   try go_wp2
   go_ret
   exact ⟨ze_,zb_⟩
 ·rw [if_neg c4] at H
  have c4b0:(t105 == a1_0)=false:=beq_eq_false_iff_ne.mpr c4
  have c4b1:(t105 != a1_0)=true:=bne_iff_ne.mpr c4
  obtain rfl:=Option.some.inj H
  go_enter Try.func54,Try.ntmps54
  try go_wp2_with (first|((with_reducible refine gate_dst (N:=2) rfl ?_);refine zbx 2 #[.int .i64 a0_0,.int .i64 a0_1,.int .i64 a0_2] 51 ?_;intro gb103 hg w14 hbox hb;have n0_:=zkH HB hb;have n1_:=zm (hbox);have n2_:=zkG HB hg;have n3_:=zkG HB hg;clear HB;have HB:=n0_;have BK103:=n1_;have GW103:=n2_;have GE103:=n3_;clear n0_ n1_ n2_ n3_;clear hb hbox hg)|((with_reducible refine gate_dst (N:=3) rfl ?_);refine zbx 3 #[.int .i64 a1_0,.int .i64 a1_1,.int .i64 a1_2] 51 ?_;intro gb104 hg w15 hbox hb;have n0_:=zkB BK103 hb;have n1_:=zkH HB hb;have n2_:=zm (hbox);have n3_:=zkG HB hg;have n4_:=zkG HB hg;have n5_:=zkN BK103 hg;have n6_:=zkM BK103 hg;clear BK103 HB;have BK103:=n0_;have HB:=n1_;have BK104:=n2_;have GW104:=n3_;have GE104:=n4_;have NB103_104:=n5_;have NB104_103:=n6_;clear n0_ n1_ n2_ n3_ n4_ n5_ n6_;clear hb hbox hg))
  have n0_:=zm (zbD BK103.out)
  have n1_:=zm (zbD BK104.out)
  have n2_:=zm (zlD HB.out)
  clear BK103 BK104 HB
  have BK103:=n0_
  have BK104:=n1_
  have HB:=n2_
  clear n0_ n1_ n2_
  refine start_ (n:=24) (S:=fun w'=>w'.cell? ⟨gb103,0,none⟩=some (.int .i64 a0_0)∧w'.cell? ⟨gb103,1,none⟩=some (.int .i64 a0_1)∧w'.cell? ⟨gb103,2,none⟩=some (.int .i64 a0_2)∧w'.cell? ⟨gb104,0,none⟩=some (.int .i64 a1_0)∧w'.cell? ⟨gb104,1,none⟩=some (.int .i64 a1_1)∧w'.cell? ⟨gb104,2,none⟩=some (.int .i64 a1_2)) (ds:=[]) (Array.replicate 24 false) (by kernel_rfl) rfl rfl ⟨(blk_cell BK103.out 0).trans rfl,(blk_cell BK103.out 1).trans rfl,(blk_cell BK103.out 2).trans rfl,(blk_cell BK104.out 0).trans rfl,(blk_cell BK104.out 1).trans rfl,(blk_cell BK104.out 2).trans rfl⟩ (fun hHeld=>?_);refine with_tabW extent_joins.tab1 extent_joins.bits1 (fun HT_ HW_=>?_)
  generalize w15.drew=w16 at BK103 BK104 HB hHeld ⊢
  refine zpu 2 ?_
  refine zta 0 hHeld ?_
  refine zta 3 hHeld ?_
  refine zon 1 (some 6) (fun K hK=>?_)
  refine zgo Try.func53 #[.agg #[.int .i64 a0_0,.int .i64 a0_1,.int .i64 a0_2]] ?_
  with_reducible refine (extent_end.calls a0_0 a0_1 a0_2 t105 _ A3.out).mono ?_
  rintro e w17 ⟨rfl,hb⟩
  refine ⟨_,rfl,?_⟩
  have n0_:=zkB BK103 hb
  have n1_:=zkB BK104 hb
  have n2_:=zkH HB hb
  clear BK103 BK104 HB
  have BK103:=n0_
  have BK104:=n1_
  have HB:=n2_
  clear n0_ n1_ n2_
  (try clear hb)
  (try clear hb2)
  (try clear hk)
  (try clear hi)
  refine hK.out _ _ ⟨(blk_cell BK103.out 0).trans rfl,(blk_cell BK103.out 1).trans rfl,(blk_cell BK103.out 2).trans rfl,(blk_cell BK104.out 0).trans rfl,(blk_cell BK104.out 1).trans rfl,(blk_cell BK104.out 2).trans rfl⟩ (fun hHeld=>?_)
  clear hK K
  refine znm (some 6) ?_
  refine zpu 4 ?_
  refine zpu 5 ?_
  refine zpn 6 ?_
  refine zpn 7 ?_
  refine zpn 8 ?_
  refine zpn 9 ?_
  refine zpn 10 ?_
  refine zpn 11 ?_
  refine zpn 12 ?_
  refine zpn 13 ?_
  refine zpu 14 ?_
  refine zpu 15 ?_
  refine zpn 16 ?_
  refine zpn 17 ?_
  refine zpn 18 ?_
  refine zpn 19 ?_
  refine zpn 20 ?_
  refine zpn 21 ?_
  refine zpu 22 ?_
  refine zpu 23 ?_
  refine zdo ?_
  try go_wp2
  go_ret
  exact ⟨ze_,zb_⟩
end Go.Proofs.Ytjoojmodghpimaa.Print
end
section
namespace Go.Proofs.Ytjoojmodghpimaa.Print
open Go.RowKit Go.Proofs.YtjoojmodghpimaaW.PrintWords Go.Proofs.YtjoojmodghpimaaW.PrintLast Go.Proofs.YtjoojmodghpimaaW.PrintMore
attribute [local go_sem] max2_int min2_int max_two min_two max_three min_three max_four min_four   -- for this text's walks alone
attribute [local go_sem ↓] Go.Proofs.Ytjoojmodghpimaa.Sem.isSome_setCell
attribute [local go_sem] Go.Instr.field Go.asAgg
set_option linter.unusedVariables false
set_option linter.unusedSimpArgs false
def extent_Check.l0:Nat → List (S51) → List (S51) → Int → Int → Option (Int)
 | 0,_,_,_,_=>none
 | k + 1,x0,x5,x6,x7=>if x7 < x6 then (if 0≤x7 then (if x7 < (x5.length:Int) then ((extent_One.f k ((rd_T51 x5 x7).f0) ((rd_T51 x5 x7).f1) ((rd_T51 x5 x7).f2)).bind fun t108=>(if t108=0 then (if x7 > 0 then (if 0≤(wrap64 (x7 - 1)) then (if (wrap64 (x7 - 1)) < (x0.length:Int) then ((extent_end.f ((rd_T51 x0 (wrap64 (x7 - 1))).f0) ((rd_T51 x0 (wrap64 (x7 - 1))).f1) ((rd_T51 x0 (wrap64 (x7 - 1))).f2)).bind fun t110=>(if ((rd_T51 x5 x7).f0) < t110 then (some 130) else ((extent_joins.f ((rd_T51 x0 (wrap64 (x7 - 1))).f0) ((rd_T51 x0 (wrap64 (x7 - 1))).f1) ((rd_T51 x0 (wrap64 (x7 - 1))).f2) ((rd_T51 x5 x7).f0) ((rd_T51 x5 x7).f1) ((rd_T51 x5 x7).f2)).bind fun t112=>(if t112=true then (some 130) else (extent_Check.l0 k x0 x5 x6 (wrap64 (x7 + 1))))))) else (none)) else (none)) else (extent_Check.l0 k x0 x5 x6 (wrap64 (x7 + 1)))) else (some 130))) else (none)) else (none)) else (some 0)
def extent_Check.f (k:Nat) (l0:List (S51)):Option (Int):=extent_Check.l0 k l0 l0 (l0.length:Int) 0
theorem extent_Check.mono_l:∀ k,(∀ y0 y1 y2 y3,LeO (extent_Check.l0 k y0 y1 y2 y3) (extent_Check.l0 (k + 1) y0 y1 y2 y3))
 | 0=>fun _ _ _ _ r h=>by simp [extent_Check.l0] at h
 | k + 1=>by
  have ih0:=extent_Check.mono_l k
  ·intro y0 y1 y2 y3
   unfold extent_Check.l0
   repeat' first
   | (with_reducible exact ih0 _ _ _ _)
   | (with_reducible exact extent_One.mono _ _ _ _)
   | (with_reducible exact LeO.refl _)
   | (with_reducible exact LeO.none _)
   | (with_reducible refine LeO.ite ?_ ?_)
   | (with_reducible refine LeO.bind ?_ (fun _=>?_))
   | exact ih0 _ _ _ _
   | exact extent_One.mono _ _ _ _
   | exact LeO.none _
   | refine LeO.ite ?_ ?_
   | refine LeO.bind ?_ (fun _=>?_)
theorem extent_Check.mono:∀ a0 k,LeO (extent_Check.f k a0) (extent_Check.f (k + 1) a0):=by
 intro a0 k
 have ih0:=extent_Check.mono_l k
 unfold extent_Check.f
 repeat' first
   | (with_reducible exact ih0 _ _ _ _)
   | (with_reducible exact extent_One.mono _ _ _ _)
   | (with_reducible exact LeO.refl _)
   | (with_reducible exact LeO.none _)
   | (with_reducible refine LeO.ite ?_ ?_)
   | (with_reducible refine LeO.bind ?_ (fun _=>?_))
   | exact ih0 _ _ _ _
   | exact extent_One.mono _ _ _ _
   | exact LeO.none _
   | refine LeO.ite ?_ ?_
   | refine LeO.bind ?_ (fun _=>?_)
def extent_Check.T4:Bool × List (List Nat × List Nat):=(true,[([],[]),([0],[0]),([1],[1]),([2,1],[2]),([3],[3]),([4,3],[3,4]),([5,3,3],[3,5]),([6],[6]),([7,6],[6,7]),([6],[6]),([6],[6]),([10,6],[6,10]),([9,11,6],[6,9,11]),([12,6],[6,12]),([13,6,6],[6,13]),([8,14,6],[6,8,14]),([15,14,6],[6,15]),([16],[16]),([16],[16]),([18,16],[16,18]),([17,19,16],[16,17,19]),([20,16],[16,20]),([16],[16]),([21,22,16,16],[16,21,22]),([16,23,6],[6,16,23]),([6,24,3],[3,6,24]),([3,25],[3,25])])
def extent_Check.B4:List Nat:=[0,1,3,7,15,31,63,127,255,127,127,1151,3711,7807,15999,32767,65535,131071,131071,393215,1048575,2097151,131071,8388607,16777215,33554431,67108863]
theorem extent_Check.tab4:rtab .any (opsOf Try.f39 4)=extent_Check.T4:=by kernel_rfl
theorem extent_Check.bits4:waitsOk extent_Check.T4.2 extent_Check.B4=true:=by kernel_rfl
set_option maxHeartbeats 8000000 in
set_option maxRecDepth 100000 in
theorem extent_Check.calls (k:Nat) (A0:Option Addr) (c0:Nat) (l0:List (S51)) (r:Int) (w:World) (hr0:Kd.C k51 w A0 l0.length l0) (hc0:l0.length≤c0) (h:extent_Check.f k l0=some r) :
  Calls Try.prog 39 #[.slice A0 l0.length c0] w fun e w'=>e=.returned (.int .i64 r)∧Below w.heap.size w w':=by
 have hu51:=Try.underlying51
 have HR0:=zm hr0
 have HC0:=zm hc0
 clear hr0 hc0
 have HB:=zm (Below.refl w.heap.size w)
 have H:(extent_Check.l0 k l0 l0 (l0.length:Int) 0)=some r:=h
 clear h
 have H':=zm H
 clear H
 go_enter Try.func39,Try.ntmps39
 go_wp2
 go_loopg [7] k (fun kq v7 w'=>∃ (x7_1:Int),v7=.int .i64 x7_1∧Aside0 (extent_Check.l0 kq l0 l0 (l0.length:Int) x7_1=some r)∧Aside0 (kq≤k)∧Aside0 (Below w.heap.size w w'))
 case atStart=>exact ⟨(0),zs_,H',⟨Nat.le_refl _⟩,⟨zb_⟩⟩
 case round =>
  clear H'
  obtain ⟨x7_1,rfl,HA,HK1,HB⟩:=hrel
  cases gk with
  | zero=>exact absurd HA.out (by simp [extent_Check.l0])
  | succ k1 =>
   have H:=HA.out
   clear HA
   simp only [extent_Check.l0] at H
   by_cases c2:x7_1 < (l0.length:Int)
   ·rw [if_pos c2] at H
    have c2b0:decide (x7_1 < (l0.length:Int))=true:=decide_eq_true c2
    clear c2
    by_cases c3:0≤x7_1
    ·rw [if_pos c3] at H
     have c3b0:decide (0≤x7_1)=true:=decide_eq_true c3
     clear c3
     by_cases c4:x7_1 < (l0.length:Int)
     ·rw [if_pos c4] at H
      have c4b0:decide (x7_1 < (l0.length:Int))=true:=decide_eq_true c4
      clear c4
      replace H:=Option.bind_eq_some_iff.mp H
      obtain ⟨t108,A50,H⟩:=H
      replace H:(if t108=0 then (if x7_1 > 0 then (if 0≤(wrap64 (x7_1 - 1)) then (if (wrap64 (x7_1 - 1)) < (l0.length:Int) then ((extent_end.f ((rd_T51 l0 (wrap64 (x7_1 - 1))).f0) ((rd_T51 l0 (wrap64 (x7_1 - 1))).f1) ((rd_T51 l0 (wrap64 (x7_1 - 1))).f2)).bind fun t110=>(if ((rd_T51 l0 x7_1).f0) < t110 then (some 130) else ((extent_joins.f ((rd_T51 l0 (wrap64 (x7_1 - 1))).f0) ((rd_T51 l0 (wrap64 (x7_1 - 1))).f1) ((rd_T51 l0 (wrap64 (x7_1 - 1))).f2) ((rd_T51 l0 x7_1).f0) ((rd_T51 l0 x7_1).f1) ((rd_T51 l0 x7_1).f2)).bind fun t112=>(if t112=true then (some 130) else (extent_Check.l0 k1 l0 l0 (l0.length:Int) (wrap64 (x7_1 + 1))))))) else (none)) else (none)) else (extent_Check.l0 k1 l0 l0 (l0.length:Int) (wrap64 (x7_1 + 1)))) else (some 130))=some r:=H
      have A5:=zm A50
      clear A50
      by_cases c6:t108=0
      ·rw [if_pos c6] at H
       have c6b0:(t108 == 0)=true:=beq_iff_eq.mpr c6
       have c6b1:(t108 != 0)=false:=bne_eq_false_iff_eq.mpr c6
       clear c6
       by_cases c7:x7_1 > 0
       ·rw [if_pos c7] at H
        have c7b0:decide (0 < x7_1)=true:=decide_eq_true c7
        clear c7
        obtain ⟨ji8,hji8⟩:∃ j_:Int,(wrap64 (x7_1 - 1))=j_:=⟨_,rfl⟩
        replace H:(if 0≤(ji8) then (if (ji8) < (l0.length:Int) then ((extent_end.f ((rd_T51 l0 (ji8)).f0) ((rd_T51 l0 (ji8)).f1) ((rd_T51 l0 (ji8)).f2)).bind fun t110=>(if ((rd_T51 l0 x7_1).f0) < t110 then (some 130) else ((extent_joins.f ((rd_T51 l0 (ji8)).f0) ((rd_T51 l0 (ji8)).f1) ((rd_T51 l0 (ji8)).f2) ((rd_T51 l0 x7_1).f0) ((rd_T51 l0 x7_1).f1) ((rd_T51 l0 x7_1).f2)).bind fun t112=>(if t112=true then (some 130) else (extent_Check.l0 k1 l0 l0 (l0.length:Int) (wrap64 (x7_1 + 1))))))) else (none)) else (none))=some r:=by first|(rw [hji8] at H;exact H)|(simp only [hji8] at H ⊢;exact H)
        (try rw [hji8] at A5)
        have hji8w:(IntKind.i64.wrap (x7_1 - 1))=ji8:=(i64_w _).trans hji8
        by_cases c9:0≤(ji8)
        ·rw [if_pos c9] at H
         have c9b0:decide (0≤(ji8))=true:=decide_eq_true c9
         clear c9
         by_cases c10:(ji8) < (l0.length:Int)
         ·rw [if_pos c10] at H
          have c10b0:decide ((ji8) < (l0.length:Int))=true:=decide_eq_true c10
          clear c10
          replace H:=Option.bind_eq_some_iff.mp H
          obtain ⟨t110,A110,H⟩:=H
          replace H:(if ((rd_T51 l0 x7_1).f0) < t110 then (some 130) else ((extent_joins.f ((rd_T51 l0 (ji8)).f0) ((rd_T51 l0 (ji8)).f1) ((rd_T51 l0 (ji8)).f2) ((rd_T51 l0 x7_1).f0) ((rd_T51 l0 x7_1).f1) ((rd_T51 l0 x7_1).f2)).bind fun t112=>(if t112=true then (some 130) else (extent_Check.l0 k1 l0 l0 (l0.length:Int) (wrap64 (x7_1 + 1))))))=some r:=H
          have A11:=zm A110
          clear A110
          by_cases c12:((rd_T51 l0 x7_1).f0) < t110
          ·rw [if_pos c12] at H
           have c12b0:decide (((rd_T51 l0 x7_1).f0) < t110)=true:=decide_eq_true c12
           clear c12
           obtain rfl:=Option.some.inj H
           have p106:0≤(x7_1:Int):=za_
           have q106:x7_1 < (l0.length:Int):=za_
           obtain ⟨ad106,e106,hx106_0,hx106_1,hx106_2⟩:=at_T51 HR0.out x7_1 p106 q106
           cases e106
           replace hx106_0:=zhx HB hx106_0
           replace hx106_1:=zhx HB hx106_1
           replace hx106_2:=zhx HB hx106_2
           replace p106:=eq_true p106
           replace q106:=eq_true q106
           try go_wp2_with (first|((with_reducible refine gate_dst (N:=4) rfl ?_);refine zbx 4 #[.int .i64 0,.int .i64 0,.int .i64 0] 51 ?_;intro gb107 hg w13 hbox hb;have n0_:=zkH HB hb;have n1_:=zm (hbox);have n2_:=zkG HB hg;have n3_:=zkG HB hg;clear HB;have HB:=n0_;have BK107:=n1_;have GW107:=n2_;have GE107:=n3_;clear n0_ n1_ n2_ n3_;clear hb hbox hg;obtain ⟨hcz14_0,hcz14_1,hcz14_2,hfz14_0,hfz14_1,hfz14_2⟩:=zc3 BK107.out))
           have n0_:Aside0 ((((w13.setCell ⟨gb107,0,none⟩ (.int .i64 ((rd_T51 l0 x7_1).f0))).setCell ⟨gb107,1,none⟩ (.int .i64 ((rd_T51 l0 x7_1).f1))).setCell ⟨gb107,2,none⟩ (.int .i64 ((rd_T51 l0 x7_1).f2))).heap[gb107]?=some (.cells #[.int .i64 ((rd_T51 l0 x7_1).f0),.int .i64 ((rd_T51 l0 x7_1).f1),.int .i64 ((rd_T51 l0 x7_1).f2)] 51 (0,0))):=⟨by (with_reducible repeat (first|refine zbN ?_ _|refine zbD ?_|refine zbA ?_ _));refine blk_put (cs:=#[.int .i64 ((rd_T51 l0 x7_1).f0),.int .i64 ((rd_T51 l0 x7_1).f1),.int .i64 0]) ?_ 2 _ rfl;(with_reducible repeat (first|refine zbN ?_ _|refine zbD ?_|refine zbA ?_ _));refine blk_put (cs:=#[.int .i64 ((rd_T51 l0 x7_1).f0),.int .i64 0,.int .i64 0]) ?_ 1 _ rfl;(with_reducible repeat (first|refine zbN ?_ _|refine zbD ?_|refine zbA ?_ _));refine blk_put (cs:=#[.int .i64 0,.int .i64 0,.int .i64 0]) ?_ 0 _ rfl;(with_reducible repeat (first|refine zbN ?_ _|refine zbD ?_|refine zbA ?_ _));exact BK107.out⟩
           have n1_:Aside0 (Below w.heap.size w (((w13.setCell ⟨gb107,0,none⟩ (.int .i64 ((rd_T51 l0 x7_1).f0))).setCell ⟨gb107,1,none⟩ (.int .i64 ((rd_T51 l0 x7_1).f1))).setCell ⟨gb107,2,none⟩ (.int .i64 ((rd_T51 l0 x7_1).f2)))):=⟨zb_⟩
           (try clear BK107)
           (try clear HB)
           generalize (((w13.setCell ⟨gb107,0,none⟩ (.int .i64 ((rd_T51 l0 x7_1).f0))).setCell ⟨gb107,1,none⟩ (.int .i64 ((rd_T51 l0 x7_1).f1))).setCell ⟨gb107,2,none⟩ (.int .i64 ((rd_T51 l0 x7_1).f2)))=w15 at n0_ n1_ ⊢
           have BK107:=n0_
           have HB:=n1_
           clear n0_ n1_
           have n0_:=zm (zbD BK107.out)
           have n1_:=zm (zlD HB.out)
           clear BK107 HB
           have BK107:=n0_
           have HB:=n1_
           clear n0_ n1_
           have p109:0≤((ji8):Int):=za_
           have q109:(ji8) < (l0.length:Int):=za_
           obtain ⟨ad109,e109,hx109_0,hx109_1,hx109_2⟩:=at_T51 HR0.out (ji8) p109 q109
           have hw109_2:=hx109_2
           have hw109_1:=hx109_1
           have hw109_0:=hx109_0
           obtain rfl:ad106=ad109:=(by injection e109)
           replace hx109_0:=zhx HB hx109_0
           replace hx109_1:=zhx HB hx109_1
           replace hx109_2:=zhx HB hx109_2
           replace p109:=eq_true p109
           replace q109:=eq_true q109
           refine start_ (n:=27) (S:=fun w'=>w'.cell? ⟨gb107,0,none⟩=some (.int .i64 ((rd_T51 l0 x7_1).f0))∧w'.cell? ⟨gb107,1,none⟩=some (.int .i64 ((rd_T51 l0 x7_1).f1))∧w'.cell? ⟨gb107,2,none⟩=some (.int .i64 ((rd_T51 l0 x7_1).f2))∧w'.cell? (ad106.add (((ji8)).toNat * 3))=some (.int .i64 ((rd_T51 l0 (ji8)).f0))∧w'.cell? ⟨(ad106.add (((ji8)).toNat * 3)).block,(ad106.add (((ji8)).toNat * 3)).off + 1,none⟩=some (.int .i64 ((rd_T51 l0 (ji8)).f1))∧w'.cell? ⟨(ad106.add (((ji8)).toNat * 3)).block,(ad106.add (((ji8)).toNat * 3)).off + 2,none⟩=some (.int .i64 ((rd_T51 l0 (ji8)).f2))) (ds:=[]) (Array.replicate 27 false) (by kernel_rfl) rfl rfl ⟨(blk_cell BK107.out 0).trans rfl,(blk_cell BK107.out 1).trans rfl,(blk_cell BK107.out 2).trans rfl,(zhx HB hw109_0),(zhx HB hw109_1),(zhx HB hw109_2)⟩ (fun hHeld=>?_);refine with_tabW extent_Check.tab4 extent_Check.bits4 (fun HT_ HW_=>?_)
           generalize w15.drew=w16 at BK107 HB hx109_0 hx109_1 hx109_2 hHeld ⊢
           refine zta 0 hHeld ?_
           refine zon 1 (some 13) (fun K hK=>?_)
           refine zgo Try.func52 #[.agg #[.int .i64 ((rd_T51 l0 x7_1).f0),.int .i64 ((rd_T51 l0 x7_1).f1),.int .i64 ((rd_T51 l0 x7_1).f2)]] ?_
           with_reducible refine (extent_One.calls k1 ((rd_T51 l0 x7_1).f0) ((rd_T51 l0 x7_1).f1) ((rd_T51 l0 x7_1).f2) t108 _ A5.out).mono ?_
           rintro e w17 ⟨rfl,hb⟩
           refine ⟨_,rfl,?_⟩
           have n0_:=zkB BK107 hb
           have n1_:=zkH HB hb
           clear BK107 HB
           have BK107:=n0_
           have HB:=n1_
           clear n0_ n1_
           (try clear hb)
           (try clear hb2)
           (try clear hk)
           (try clear hi)
           refine hK.out _ _ ⟨(blk_cell BK107.out 0).trans rfl,(blk_cell BK107.out 1).trans rfl,(blk_cell BK107.out 2).trans rfl,(zhx HB hw109_0),(zhx HB hw109_1),(zhx HB hw109_2)⟩ (fun hHeld=>?_)
           clear hK K
           refine znm (some 13) ?_
           refine zpu 2 ?_
           refine zpu 3 ?_
           refine zpu 4 ?_
           refine zpu 5 ?_
           refine zpu 6 ?_
           refine zpu 7 ?_
           refine zpu 9 ?_
           refine zpu 10 ?_
           refine zpu 11 ?_
           refine zpu 12 ?_
           refine zta 8 hHeld ?_
           refine zta 13 hHeld ?_
           refine zon 14 (some 26) (fun K hK=>?_)
           refine goes_ Try.func53 (by kernel_rfl) rfl #[.agg #[.int .i64 ((rd_T51 l0 (ji8)).f0),.int .i64 ((rd_T51 l0 (ji8)).f1),.int .i64 ((rd_T51 l0 (ji8)).f2)]] (by rfl) rfl rfl (by (try simp only [List.map_toArray,List.map_cons,List.map_nil]);first|done|(simp only [hji8];rfl)|rfl|(simp only [List.length_drop,List.length_take];rfl)) ?_
           with_reducible refine (extent_end.calls ((rd_T51 l0 (ji8)).f0) ((rd_T51 l0 (ji8)).f1) ((rd_T51 l0 (ji8)).f2) t110 _ A11.out).mono ?_
           rintro e w18 ⟨rfl,hb⟩
           refine ⟨_,rfl,?_⟩
           have n0_:=zkB BK107 hb
           have n1_:=zkH HB hb
           clear BK107 HB
           have BK107:=n0_
           have HB:=n1_
           clear n0_ n1_
           (try clear hb)
           (try clear hb2)
           (try clear hk)
           (try clear hi)
           refine hK.out _ _ ⟨(blk_cell BK107.out 0).trans rfl,(blk_cell BK107.out 1).trans rfl,(blk_cell BK107.out 2).trans rfl,(zhx HB hw109_0),(zhx HB hw109_1),(zhx HB hw109_2)⟩ (fun hHeld=>?_)
           clear hK K
           refine znm (some 26) ?_
           refine zpu 15 ?_
           refine zpu 16 ?_
           refine zpn 17 ?_
           refine zpn 18 ?_
           refine zpn 19 ?_
           refine zpn 20 ?_
           refine zpn 21 ?_
           refine zpn 22 ?_
           refine zpn 23 ?_
           refine zpu 24 ?_
           refine zpu 25 ?_
           refine zpu 26 ?_
           refine zdo ?_
           try go_wp2
           go_ret
           exact ⟨by first|rfl|(simp [errW_none,errW_some] <;> rfl)|(simp only [← hji8];first|rfl|(simp [errW_none,errW_some] <;> rfl))|(simp [*,errW_none,errW_some] <;> rfl),zb_⟩
          ·rw [if_neg c12] at H
           have c12b0:decide (((rd_T51 l0 x7_1).f0) < t110)=false:=decide_eq_false c12
           clear c12
           replace H:=Option.bind_eq_some_iff.mp H
           obtain ⟨t112,A190,H⟩:=H
           replace H:(if t112=true then (some 130) else (extent_Check.l0 k1 l0 l0 (l0.length:Int) (wrap64 (x7_1 + 1))))=some r:=H
           have A19:=zm A190
           clear A190
           by_cases c20:t112=true
           ·subst c20
            have H1:(some 130)=some r:=by rw [if_pos rfl] at H;exact H
            clear H
            have H:=H1
            clear H1
            obtain rfl:=Option.some.inj H
            have p106:0≤(x7_1:Int):=za_
            have q106:x7_1 < (l0.length:Int):=za_
            obtain ⟨ad106,e106,hx106_0,hx106_1,hx106_2⟩:=at_T51 HR0.out x7_1 p106 q106
            cases e106
            replace hx106_0:=zhx HB hx106_0
            replace hx106_1:=zhx HB hx106_1
            replace hx106_2:=zhx HB hx106_2
            replace p106:=eq_true p106
            replace q106:=eq_true q106
            try go_wp2_with (first|((with_reducible refine gate_dst (N:=4) rfl ?_);refine zbx 4 #[.int .i64 0,.int .i64 0,.int .i64 0] 51 ?_;intro gb107 hg w21 hbox hb;have n0_:=zkH HB hb;have n1_:=zm (hbox);have n2_:=zkG HB hg;have n3_:=zkG HB hg;clear HB;have HB:=n0_;have BK107:=n1_;have GW107:=n2_;have GE107:=n3_;clear n0_ n1_ n2_ n3_;clear hb hbox hg;obtain ⟨hcz22_0,hcz22_1,hcz22_2,hfz22_0,hfz22_1,hfz22_2⟩:=zc3 BK107.out))
            have n0_:Aside0 ((((w21.setCell ⟨gb107,0,none⟩ (.int .i64 ((rd_T51 l0 x7_1).f0))).setCell ⟨gb107,1,none⟩ (.int .i64 ((rd_T51 l0 x7_1).f1))).setCell ⟨gb107,2,none⟩ (.int .i64 ((rd_T51 l0 x7_1).f2))).heap[gb107]?=some (.cells #[.int .i64 ((rd_T51 l0 x7_1).f0),.int .i64 ((rd_T51 l0 x7_1).f1),.int .i64 ((rd_T51 l0 x7_1).f2)] 51 (0,0))):=⟨by (with_reducible repeat (first|refine zbN ?_ _|refine zbD ?_|refine zbA ?_ _));refine blk_put (cs:=#[.int .i64 ((rd_T51 l0 x7_1).f0),.int .i64 ((rd_T51 l0 x7_1).f1),.int .i64 0]) ?_ 2 _ rfl;(with_reducible repeat (first|refine zbN ?_ _|refine zbD ?_|refine zbA ?_ _));refine blk_put (cs:=#[.int .i64 ((rd_T51 l0 x7_1).f0),.int .i64 0,.int .i64 0]) ?_ 1 _ rfl;(with_reducible repeat (first|refine zbN ?_ _|refine zbD ?_|refine zbA ?_ _));refine blk_put (cs:=#[.int .i64 0,.int .i64 0,.int .i64 0]) ?_ 0 _ rfl;(with_reducible repeat (first|refine zbN ?_ _|refine zbD ?_|refine zbA ?_ _));exact BK107.out⟩
            have n1_:Aside0 (Below w.heap.size w (((w21.setCell ⟨gb107,0,none⟩ (.int .i64 ((rd_T51 l0 x7_1).f0))).setCell ⟨gb107,1,none⟩ (.int .i64 ((rd_T51 l0 x7_1).f1))).setCell ⟨gb107,2,none⟩ (.int .i64 ((rd_T51 l0 x7_1).f2)))):=⟨zb_⟩
            (try clear BK107)
            (try clear HB)
            generalize (((w21.setCell ⟨gb107,0,none⟩ (.int .i64 ((rd_T51 l0 x7_1).f0))).setCell ⟨gb107,1,none⟩ (.int .i64 ((rd_T51 l0 x7_1).f1))).setCell ⟨gb107,2,none⟩ (.int .i64 ((rd_T51 l0 x7_1).f2)))=w23 at n0_ n1_ ⊢
            have BK107:=n0_
            have HB:=n1_
            clear n0_ n1_
            have n0_:=zm (zbD BK107.out)
            have n1_:=zm (zlD HB.out)
            clear BK107 HB
            have BK107:=n0_
            have HB:=n1_
            clear n0_ n1_
            have p109:0≤((ji8):Int):=za_
            have q109:(ji8) < (l0.length:Int):=za_
            obtain ⟨ad109,e109,hx109_0,hx109_1,hx109_2⟩:=at_T51 HR0.out (ji8) p109 q109
            have hw109_2:=hx109_2
            have hw109_1:=hx109_1
            have hw109_0:=hx109_0
            obtain rfl:ad106=ad109:=(by injection e109)
            replace hx109_0:=zhx HB hx109_0
            replace hx109_1:=zhx HB hx109_1
            replace hx109_2:=zhx HB hx109_2
            replace p109:=eq_true p109
            replace q109:=eq_true q109
            have p111:0≤((ji8):Int):=za_
            have q111:(ji8) < (l0.length:Int):=za_
            obtain ⟨ad111,e111,hx111_0,hx111_1,hx111_2⟩:=at_T51 HR0.out (ji8) p111 q111
            have hw111_2:=hx111_2
            have hw111_1:=hx111_1
            have hw111_0:=hx111_0
            obtain rfl:ad106=ad111:=(by injection e111)
            replace hx111_0:=zhx HB hx111_0
            replace hx111_1:=zhx HB hx111_1
            replace hx111_2:=zhx HB hx111_2
            replace p111:=eq_true p111
            replace q111:=eq_true q111
            refine start_ (n:=27) (S:=fun w'=>w'.cell? ⟨gb107,0,none⟩=some (.int .i64 ((rd_T51 l0 x7_1).f0))∧w'.cell? ⟨gb107,1,none⟩=some (.int .i64 ((rd_T51 l0 x7_1).f1))∧w'.cell? ⟨gb107,2,none⟩=some (.int .i64 ((rd_T51 l0 x7_1).f2))∧w'.cell? (ad106.add (((ji8)).toNat * 3))=some (.int .i64 ((rd_T51 l0 (ji8)).f0))∧w'.cell? ⟨(ad106.add (((ji8)).toNat * 3)).block,(ad106.add (((ji8)).toNat * 3)).off + 1,none⟩=some (.int .i64 ((rd_T51 l0 (ji8)).f1))∧w'.cell? ⟨(ad106.add (((ji8)).toNat * 3)).block,(ad106.add (((ji8)).toNat * 3)).off + 2,none⟩=some (.int .i64 ((rd_T51 l0 (ji8)).f2))∧w'.cell? (ad106.add (((ji8)).toNat * 3))=some (.int .i64 ((rd_T51 l0 (ji8)).f0))∧w'.cell? ⟨(ad106.add (((ji8)).toNat * 3)).block,(ad106.add (((ji8)).toNat * 3)).off + 1,none⟩=some (.int .i64 ((rd_T51 l0 (ji8)).f1))∧w'.cell? ⟨(ad106.add (((ji8)).toNat * 3)).block,(ad106.add (((ji8)).toNat * 3)).off + 2,none⟩=some (.int .i64 ((rd_T51 l0 (ji8)).f2))) (ds:=[]) (Array.replicate 27 false) (by kernel_rfl) rfl rfl ⟨(blk_cell BK107.out 0).trans rfl,(blk_cell BK107.out 1).trans rfl,(blk_cell BK107.out 2).trans rfl,(zhx HB hw109_0),(zhx HB hw109_1),(zhx HB hw109_2),(zhx HB hw111_0),(zhx HB hw111_1),(zhx HB hw111_2)⟩ (fun hHeld=>?_);refine with_tabW extent_Check.tab4 extent_Check.bits4 (fun HT_ HW_=>?_)
            generalize w23.drew=w24 at BK107 HB hx109_0 hx109_1 hx109_2 hx111_0 hx111_1 hx111_2 hHeld ⊢
            refine zta 0 hHeld ?_
            refine zon 1 (some 13) (fun K hK=>?_)
            refine zgo Try.func52 #[.agg #[.int .i64 ((rd_T51 l0 x7_1).f0),.int .i64 ((rd_T51 l0 x7_1).f1),.int .i64 ((rd_T51 l0 x7_1).f2)]] ?_
            with_reducible refine (extent_One.calls k1 ((rd_T51 l0 x7_1).f0) ((rd_T51 l0 x7_1).f1) ((rd_T51 l0 x7_1).f2) t108 _ A5.out).mono ?_
            rintro e w25 ⟨rfl,hb⟩
            refine ⟨_,rfl,?_⟩
            have n0_:=zkB BK107 hb
            have n1_:=zkH HB hb
            clear BK107 HB
            have BK107:=n0_
            have HB:=n1_
            clear n0_ n1_
            (try clear hb)
            (try clear hb2)
            (try clear hk)
            (try clear hi)
            refine hK.out _ _ ⟨(blk_cell BK107.out 0).trans rfl,(blk_cell BK107.out 1).trans rfl,(blk_cell BK107.out 2).trans rfl,(zhx HB hw109_0),(zhx HB hw109_1),(zhx HB hw109_2),(zhx HB hw111_0),(zhx HB hw111_1),(zhx HB hw111_2)⟩ (fun hHeld=>?_)
            clear hK K
            refine znm (some 13) ?_
            refine zpu 2 ?_
            refine zpu 3 ?_
            refine zpu 4 ?_
            refine zpu 5 ?_
            refine zpu 6 ?_
            refine zpu 7 ?_
            refine zpu 9 ?_
            refine zpu 10 ?_
            refine zpu 11 ?_
            refine zpu 12 ?_
            refine zta 8 hHeld ?_
            refine zta 13 hHeld ?_
            refine zon 14 (some 26) (fun K hK=>?_)
            refine goes_ Try.func53 (by kernel_rfl) rfl #[.agg #[.int .i64 ((rd_T51 l0 (ji8)).f0),.int .i64 ((rd_T51 l0 (ji8)).f1),.int .i64 ((rd_T51 l0 (ji8)).f2)]] (by rfl) rfl rfl (by (try simp only [List.map_toArray,List.map_cons,List.map_nil]);first|done|(simp only [hji8];rfl)|rfl|(simp only [List.length_drop,List.length_take];rfl)) ?_
            with_reducible refine (extent_end.calls ((rd_T51 l0 (ji8)).f0) ((rd_T51 l0 (ji8)).f1) ((rd_T51 l0 (ji8)).f2) t110 _ A11.out).mono ?_
            rintro e w26 ⟨rfl,hb⟩
            refine ⟨_,rfl,?_⟩
            have n0_:=zkB BK107 hb
            have n1_:=zkH HB hb
            clear BK107 HB
            have BK107:=n0_
            have HB:=n1_
            clear n0_ n1_
            (try clear hb)
            (try clear hb2)
            (try clear hk)
            (try clear hi)
            refine hK.out _ _ ⟨(blk_cell BK107.out 0).trans rfl,(blk_cell BK107.out 1).trans rfl,(blk_cell BK107.out 2).trans rfl,(zhx HB hw109_0),(zhx HB hw109_1),(zhx HB hw109_2),(zhx HB hw111_0),(zhx HB hw111_1),(zhx HB hw111_2)⟩ (fun hHeld=>?_)
            clear hK K
            refine znm (some 26) ?_
            refine zpu 15 ?_
            refine zpu 16 ?_
            refine zpu 17 ?_
            refine zpu 18 ?_
            refine zpu 19 ?_
            refine zpu 20 ?_
            refine zta 21 hHeld ?_
            refine zta 22 hHeld ?_
            refine zon 23 (some 35) (fun K hK=>?_)
            refine goes_ Try.func54 (by kernel_rfl) rfl #[.agg #[.int .i64 ((rd_T51 l0 (ji8)).f0),.int .i64 ((rd_T51 l0 (ji8)).f1),.int .i64 ((rd_T51 l0 (ji8)).f2)],.agg #[.int .i64 ((rd_T51 l0 x7_1).f0),.int .i64 ((rd_T51 l0 x7_1).f1),.int .i64 ((rd_T51 l0 x7_1).f2)]] (by rfl) rfl rfl (by (try simp only [List.map_toArray,List.map_cons,List.map_nil]);first|done|(simp only [hji8];rfl)|rfl|(simp only [List.length_drop,List.length_take];rfl)) ?_
            with_reducible refine (extent_joins.calls ((rd_T51 l0 (ji8)).f0) ((rd_T51 l0 (ji8)).f1) ((rd_T51 l0 (ji8)).f2) ((rd_T51 l0 x7_1).f0) ((rd_T51 l0 x7_1).f1) ((rd_T51 l0 x7_1).f2) true _ A19.out).mono ?_
            rintro e w27 ⟨rfl,hb⟩
            refine ⟨_,rfl,?_⟩
            have n0_:=zkB BK107 hb
            have n1_:=zkH HB hb
            clear BK107 HB
            have BK107:=n0_
            have HB:=n1_
            clear n0_ n1_
            (try clear hb)
            (try clear hb2)
            (try clear hk)
            (try clear hi)
            refine hK.out _ _ ⟨(blk_cell BK107.out 0).trans rfl,(blk_cell BK107.out 1).trans rfl,(blk_cell BK107.out 2).trans rfl,(zhx HB hw109_0),(zhx HB hw109_1),(zhx HB hw109_2),(zhx HB hw111_0),(zhx HB hw111_1),(zhx HB hw111_2)⟩ (fun hHeld=>?_)
            clear hK K
            refine znm (some 35) ?_
            refine zpu 24 ?_
            refine zpu 25 ?_
            refine zpu 26 ?_
            refine zdo ?_
            try go_wp2
            go_ret
            exact ⟨by first|rfl|(simp [errW_none,errW_some] <;> rfl)|(simp only [← hji8];first|rfl|(simp [errW_none,errW_some] <;> rfl))|(simp [*,errW_none,errW_some] <;> rfl),zb_⟩
           ·replace c20:=Bool.eq_false_iff.mpr c20
            subst c20
            have H1:(extent_Check.l0 k1 l0 l0 (l0.length:Int) (wrap64 (x7_1 + 1)))=some r:=by rw [if_neg (show ¬ (false=true) by decide)] at H;exact H
            clear H
            have H:=H1
            clear H1
            have H':=zm H
            clear H
            have p106:0≤(x7_1:Int):=za_
            have q106:x7_1 < (l0.length:Int):=za_
            obtain ⟨ad106,e106,hx106_0,hx106_1,hx106_2⟩:=at_T51 HR0.out x7_1 p106 q106
            cases e106
            replace hx106_0:=zhx HB hx106_0
            replace hx106_1:=zhx HB hx106_1
            replace hx106_2:=zhx HB hx106_2
            replace p106:=eq_true p106
            replace q106:=eq_true q106
            try go_wp2_with (first|((with_reducible refine gate_dst (N:=4) rfl ?_);refine zbx 4 #[.int .i64 0,.int .i64 0,.int .i64 0] 51 ?_;intro gb107 hg w28 hbox hb;have n0_:=zkH HB hb;have n1_:=zm (hbox);have n2_:=zkG HB hg;have n3_:=zkG HB hg;clear HB;have HB:=n0_;have BK107:=n1_;have GW107:=n2_;have GE107:=n3_;clear n0_ n1_ n2_ n3_;clear hb hbox hg;obtain ⟨hcz29_0,hcz29_1,hcz29_2,hfz29_0,hfz29_1,hfz29_2⟩:=zc3 BK107.out))
            have n0_:Aside0 ((((w28.setCell ⟨gb107,0,none⟩ (.int .i64 ((rd_T51 l0 x7_1).f0))).setCell ⟨gb107,1,none⟩ (.int .i64 ((rd_T51 l0 x7_1).f1))).setCell ⟨gb107,2,none⟩ (.int .i64 ((rd_T51 l0 x7_1).f2))).heap[gb107]?=some (.cells #[.int .i64 ((rd_T51 l0 x7_1).f0),.int .i64 ((rd_T51 l0 x7_1).f1),.int .i64 ((rd_T51 l0 x7_1).f2)] 51 (0,0))):=⟨by (with_reducible repeat (first|refine zbN ?_ _|refine zbD ?_|refine zbA ?_ _));refine blk_put (cs:=#[.int .i64 ((rd_T51 l0 x7_1).f0),.int .i64 ((rd_T51 l0 x7_1).f1),.int .i64 0]) ?_ 2 _ rfl;(with_reducible repeat (first|refine zbN ?_ _|refine zbD ?_|refine zbA ?_ _));refine blk_put (cs:=#[.int .i64 ((rd_T51 l0 x7_1).f0),.int .i64 0,.int .i64 0]) ?_ 1 _ rfl;(with_reducible repeat (first|refine zbN ?_ _|refine zbD ?_|refine zbA ?_ _));refine blk_put (cs:=#[.int .i64 0,.int .i64 0,.int .i64 0]) ?_ 0 _ rfl;(with_reducible repeat (first|refine zbN ?_ _|refine zbD ?_|refine zbA ?_ _));exact BK107.out⟩
            have n1_:Aside0 (Below w.heap.size w (((w28.setCell ⟨gb107,0,none⟩ (.int .i64 ((rd_T51 l0 x7_1).f0))).setCell ⟨gb107,1,none⟩ (.int .i64 ((rd_T51 l0 x7_1).f1))).setCell ⟨gb107,2,none⟩ (.int .i64 ((rd_T51 l0 x7_1).f2)))):=⟨zb_⟩
            (try clear BK107)
            (try clear HB)
            generalize (((w28.setCell ⟨gb107,0,none⟩ (.int .i64 ((rd_T51 l0 x7_1).f0))).setCell ⟨gb107,1,none⟩ (.int .i64 ((rd_T51 l0 x7_1).f1))).setCell ⟨gb107,2,none⟩ (.int .i64 ((rd_T51 l0 x7_1).f2)))=w30 at n0_ n1_ ⊢
            have BK107:=n0_
            have HB:=n1_
            clear n0_ n1_
            have n0_:=zm (zbD BK107.out)
            have n1_:=zm (zlD HB.out)
            clear BK107 HB
            have BK107:=n0_
            have HB:=n1_
            clear n0_ n1_
            have p109:0≤((ji8):Int):=za_
            have q109:(ji8) < (l0.length:Int):=za_
            obtain ⟨ad109,e109,hx109_0,hx109_1,hx109_2⟩:=at_T51 HR0.out (ji8) p109 q109
            have hw109_2:=hx109_2
            have hw109_1:=hx109_1
            have hw109_0:=hx109_0
            obtain rfl:ad106=ad109:=(by injection e109)
            replace hx109_0:=zhx HB hx109_0
            replace hx109_1:=zhx HB hx109_1
            replace hx109_2:=zhx HB hx109_2
            replace p109:=eq_true p109
            replace q109:=eq_true q109
            have p111:0≤((ji8):Int):=za_
            have q111:(ji8) < (l0.length:Int):=za_
            obtain ⟨ad111,e111,hx111_0,hx111_1,hx111_2⟩:=at_T51 HR0.out (ji8) p111 q111
            have hw111_2:=hx111_2
            have hw111_1:=hx111_1
            have hw111_0:=hx111_0
            obtain rfl:ad106=ad111:=(by injection e111)
            replace hx111_0:=zhx HB hx111_0
            replace hx111_1:=zhx HB hx111_1
            replace hx111_2:=zhx HB hx111_2
            replace p111:=eq_true p111
            replace q111:=eq_true q111
            refine start_ (n:=27) (S:=fun w'=>w'.cell? ⟨gb107,0,none⟩=some (.int .i64 ((rd_T51 l0 x7_1).f0))∧w'.cell? ⟨gb107,1,none⟩=some (.int .i64 ((rd_T51 l0 x7_1).f1))∧w'.cell? ⟨gb107,2,none⟩=some (.int .i64 ((rd_T51 l0 x7_1).f2))∧w'.cell? (ad106.add (((ji8)).toNat * 3))=some (.int .i64 ((rd_T51 l0 (ji8)).f0))∧w'.cell? ⟨(ad106.add (((ji8)).toNat * 3)).block,(ad106.add (((ji8)).toNat * 3)).off + 1,none⟩=some (.int .i64 ((rd_T51 l0 (ji8)).f1))∧w'.cell? ⟨(ad106.add (((ji8)).toNat * 3)).block,(ad106.add (((ji8)).toNat * 3)).off + 2,none⟩=some (.int .i64 ((rd_T51 l0 (ji8)).f2))∧w'.cell? (ad106.add (((ji8)).toNat * 3))=some (.int .i64 ((rd_T51 l0 (ji8)).f0))∧w'.cell? ⟨(ad106.add (((ji8)).toNat * 3)).block,(ad106.add (((ji8)).toNat * 3)).off + 1,none⟩=some (.int .i64 ((rd_T51 l0 (ji8)).f1))∧w'.cell? ⟨(ad106.add (((ji8)).toNat * 3)).block,(ad106.add (((ji8)).toNat * 3)).off + 2,none⟩=some (.int .i64 ((rd_T51 l0 (ji8)).f2))) (ds:=[]) (Array.replicate 27 false) (by kernel_rfl) rfl rfl ⟨(blk_cell BK107.out 0).trans rfl,(blk_cell BK107.out 1).trans rfl,(blk_cell BK107.out 2).trans rfl,(zhx HB hw109_0),(zhx HB hw109_1),(zhx HB hw109_2),(zhx HB hw111_0),(zhx HB hw111_1),(zhx HB hw111_2)⟩ (fun hHeld=>?_);refine with_tabW extent_Check.tab4 extent_Check.bits4 (fun HT_ HW_=>?_)
            generalize w30.drew=w31 at BK107 HB hx109_0 hx109_1 hx109_2 hx111_0 hx111_1 hx111_2 hHeld ⊢
            refine zta 0 hHeld ?_
            refine zon 1 (some 13) (fun K hK=>?_)
            refine zgo Try.func52 #[.agg #[.int .i64 ((rd_T51 l0 x7_1).f0),.int .i64 ((rd_T51 l0 x7_1).f1),.int .i64 ((rd_T51 l0 x7_1).f2)]] ?_
            with_reducible refine (extent_One.calls k1 ((rd_T51 l0 x7_1).f0) ((rd_T51 l0 x7_1).f1) ((rd_T51 l0 x7_1).f2) t108 _ A5.out).mono ?_
            rintro e w32 ⟨rfl,hb⟩
            refine ⟨_,rfl,?_⟩
            have n0_:=zkB BK107 hb
            have n1_:=zkH HB hb
            clear BK107 HB
            have BK107:=n0_
            have HB:=n1_
            clear n0_ n1_
            (try clear hb)
            (try clear hb2)
            (try clear hk)
            (try clear hi)
            refine hK.out _ _ ⟨(blk_cell BK107.out 0).trans rfl,(blk_cell BK107.out 1).trans rfl,(blk_cell BK107.out 2).trans rfl,(zhx HB hw109_0),(zhx HB hw109_1),(zhx HB hw109_2),(zhx HB hw111_0),(zhx HB hw111_1),(zhx HB hw111_2)⟩ (fun hHeld=>?_)
            clear hK K
            refine znm (some 13) ?_
            refine zpu 2 ?_
            refine zpu 3 ?_
            refine zpu 4 ?_
            refine zpu 5 ?_
            refine zpu 6 ?_
            refine zpu 7 ?_
            refine zpu 9 ?_
            refine zpu 10 ?_
            refine zpu 11 ?_
            refine zpu 12 ?_
            refine zta 8 hHeld ?_
            refine zta 13 hHeld ?_
            refine zon 14 (some 26) (fun K hK=>?_)
            refine goes_ Try.func53 (by kernel_rfl) rfl #[.agg #[.int .i64 ((rd_T51 l0 (ji8)).f0),.int .i64 ((rd_T51 l0 (ji8)).f1),.int .i64 ((rd_T51 l0 (ji8)).f2)]] (by rfl) rfl rfl (by (try simp only [List.map_toArray,List.map_cons,List.map_nil]);first|done|(simp only [hji8];rfl)|rfl|(simp only [List.length_drop,List.length_take];rfl)) ?_
            with_reducible refine (extent_end.calls ((rd_T51 l0 (ji8)).f0) ((rd_T51 l0 (ji8)).f1) ((rd_T51 l0 (ji8)).f2) t110 _ A11.out).mono ?_
            rintro e w33 ⟨rfl,hb⟩
            refine ⟨_,rfl,?_⟩
            have n0_:=zkB BK107 hb
            have n1_:=zkH HB hb
            clear BK107 HB
            have BK107:=n0_
            have HB:=n1_
            clear n0_ n1_
            (try clear hb)
            (try clear hb2)
            (try clear hk)
            (try clear hi)
            refine hK.out _ _ ⟨(blk_cell BK107.out 0).trans rfl,(blk_cell BK107.out 1).trans rfl,(blk_cell BK107.out 2).trans rfl,(zhx HB hw109_0),(zhx HB hw109_1),(zhx HB hw109_2),(zhx HB hw111_0),(zhx HB hw111_1),(zhx HB hw111_2)⟩ (fun hHeld=>?_)
            clear hK K
            refine znm (some 26) ?_
            refine zpu 15 ?_
            refine zpu 16 ?_
            refine zpu 17 ?_
            refine zpu 18 ?_
            refine zpu 19 ?_
            refine zpu 20 ?_
            refine zta 21 hHeld ?_
            refine zta 22 hHeld ?_
            refine zon 23 (some 35) (fun K hK=>?_)
            refine goes_ Try.func54 (by kernel_rfl) rfl #[.agg #[.int .i64 ((rd_T51 l0 (ji8)).f0),.int .i64 ((rd_T51 l0 (ji8)).f1),.int .i64 ((rd_T51 l0 (ji8)).f2)],.agg #[.int .i64 ((rd_T51 l0 x7_1).f0),.int .i64 ((rd_T51 l0 x7_1).f1),.int .i64 ((rd_T51 l0 x7_1).f2)]] (by rfl) rfl rfl (by (try simp only [List.map_toArray,List.map_cons,List.map_nil]);first|done|(simp only [hji8];rfl)|rfl|(simp only [List.length_drop,List.length_take];rfl)) ?_
            with_reducible refine (extent_joins.calls ((rd_T51 l0 (ji8)).f0) ((rd_T51 l0 (ji8)).f1) ((rd_T51 l0 (ji8)).f2) ((rd_T51 l0 x7_1).f0) ((rd_T51 l0 x7_1).f1) ((rd_T51 l0 x7_1).f2) false _ A19.out).mono ?_
            rintro e w34 ⟨rfl,hb⟩
            refine ⟨_,rfl,?_⟩
            have n0_:=zkB BK107 hb
            have n1_:=zkH HB hb
            clear BK107 HB
            have BK107:=n0_
            have HB:=n1_
            clear n0_ n1_
            (try clear hb)
            (try clear hb2)
            (try clear hk)
            (try clear hi)
            refine hK.out _ _ ⟨(blk_cell BK107.out 0).trans rfl,(blk_cell BK107.out 1).trans rfl,(blk_cell BK107.out 2).trans rfl,(zhx HB hw109_0),(zhx HB hw109_1),(zhx HB hw109_2),(zhx HB hw111_0),(zhx HB hw111_1),(zhx HB hw111_2)⟩ (fun hHeld=>?_)
            clear hK K
            refine znm (some 35) ?_
            refine zpu 24 ?_
            refine zpu 25 ?_
            refine zpu 26 ?_
            refine zdo ?_
            try go_wp2
            go_roundg k1
            case measure=>have:=HK1.out;omega
            case rel=>exact ⟨(wrap64 (x7_1 + 1)),zs_,H',⟨by have:=HK1.out;omega⟩,⟨zb_⟩⟩
         ·rw [if_neg c10] at H
          exact absurd H (by simp)
        ·rw [if_neg c9] at H
         exact absurd H (by simp)
       ·rw [if_neg c7] at H
        have c7b0:decide (0 < x7_1)=false:=decide_eq_false c7
        clear c7
        have H':=zm H
        clear H
        have p106:0≤(x7_1:Int):=za_
        have q106:x7_1 < (l0.length:Int):=za_
        obtain ⟨ad106,e106,hx106_0,hx106_1,hx106_2⟩:=at_T51 HR0.out x7_1 p106 q106
        cases e106
        replace hx106_0:=zhx HB hx106_0
        replace hx106_1:=zhx HB hx106_1
        replace hx106_2:=zhx HB hx106_2
        replace p106:=eq_true p106
        replace q106:=eq_true q106
        try go_wp2_with (first|((with_reducible refine gate_dst (N:=4) rfl ?_);refine zbx 4 #[.int .i64 0,.int .i64 0,.int .i64 0] 51 ?_;intro gb107 hg w35 hbox hb;have n0_:=zkH HB hb;have n1_:=zm (hbox);have n2_:=zkG HB hg;have n3_:=zkG HB hg;clear HB;have HB:=n0_;have BK107:=n1_;have GW107:=n2_;have GE107:=n3_;clear n0_ n1_ n2_ n3_;clear hb hbox hg;obtain ⟨hcz36_0,hcz36_1,hcz36_2,hfz36_0,hfz36_1,hfz36_2⟩:=zc3 BK107.out))
        have n0_:Aside0 ((((w35.setCell ⟨gb107,0,none⟩ (.int .i64 ((rd_T51 l0 x7_1).f0))).setCell ⟨gb107,1,none⟩ (.int .i64 ((rd_T51 l0 x7_1).f1))).setCell ⟨gb107,2,none⟩ (.int .i64 ((rd_T51 l0 x7_1).f2))).heap[gb107]?=some (.cells #[.int .i64 ((rd_T51 l0 x7_1).f0),.int .i64 ((rd_T51 l0 x7_1).f1),.int .i64 ((rd_T51 l0 x7_1).f2)] 51 (0,0))):=⟨by (with_reducible repeat (first|refine zbN ?_ _|refine zbD ?_|refine zbA ?_ _));refine blk_put (cs:=#[.int .i64 ((rd_T51 l0 x7_1).f0),.int .i64 ((rd_T51 l0 x7_1).f1),.int .i64 0]) ?_ 2 _ rfl;(with_reducible repeat (first|refine zbN ?_ _|refine zbD ?_|refine zbA ?_ _));refine blk_put (cs:=#[.int .i64 ((rd_T51 l0 x7_1).f0),.int .i64 0,.int .i64 0]) ?_ 1 _ rfl;(with_reducible repeat (first|refine zbN ?_ _|refine zbD ?_|refine zbA ?_ _));refine blk_put (cs:=#[.int .i64 0,.int .i64 0,.int .i64 0]) ?_ 0 _ rfl;(with_reducible repeat (first|refine zbN ?_ _|refine zbD ?_|refine zbA ?_ _));exact BK107.out⟩
        have n1_:Aside0 (Below w.heap.size w (((w35.setCell ⟨gb107,0,none⟩ (.int .i64 ((rd_T51 l0 x7_1).f0))).setCell ⟨gb107,1,none⟩ (.int .i64 ((rd_T51 l0 x7_1).f1))).setCell ⟨gb107,2,none⟩ (.int .i64 ((rd_T51 l0 x7_1).f2)))):=⟨zb_⟩
        (try clear BK107)
        (try clear HB)
        generalize (((w35.setCell ⟨gb107,0,none⟩ (.int .i64 ((rd_T51 l0 x7_1).f0))).setCell ⟨gb107,1,none⟩ (.int .i64 ((rd_T51 l0 x7_1).f1))).setCell ⟨gb107,2,none⟩ (.int .i64 ((rd_T51 l0 x7_1).f2)))=w37 at n0_ n1_ ⊢
        have BK107:=n0_
        have HB:=n1_
        clear n0_ n1_
        have n0_:=zm (zbD BK107.out)
        have n1_:=zm (zlD HB.out)
        clear BK107 HB
        have BK107:=n0_
        have HB:=n1_
        clear n0_ n1_
        refine start_ (n:=27) (S:=fun w'=>w'.cell? ⟨gb107,0,none⟩=some (.int .i64 ((rd_T51 l0 x7_1).f0))∧w'.cell? ⟨gb107,1,none⟩=some (.int .i64 ((rd_T51 l0 x7_1).f1))∧w'.cell? ⟨gb107,2,none⟩=some (.int .i64 ((rd_T51 l0 x7_1).f2))) (ds:=[]) (Array.replicate 27 false) (by kernel_rfl) rfl rfl ⟨(blk_cell BK107.out 0).trans rfl,(blk_cell BK107.out 1).trans rfl,(blk_cell BK107.out 2).trans rfl⟩ (fun hHeld=>?_);refine with_tabW extent_Check.tab4 extent_Check.bits4 (fun HT_ HW_=>?_)
        generalize w37.drew=w38 at BK107 HB hHeld ⊢
        refine zta 0 hHeld ?_
        refine zon 1 (some 13) (fun K hK=>?_)
        refine zgo Try.func52 #[.agg #[.int .i64 ((rd_T51 l0 x7_1).f0),.int .i64 ((rd_T51 l0 x7_1).f1),.int .i64 ((rd_T51 l0 x7_1).f2)]] ?_
        with_reducible refine (extent_One.calls k1 ((rd_T51 l0 x7_1).f0) ((rd_T51 l0 x7_1).f1) ((rd_T51 l0 x7_1).f2) t108 _ A5.out).mono ?_
        rintro e w39 ⟨rfl,hb⟩
        refine ⟨_,rfl,?_⟩
        have n0_:=zkB BK107 hb
        have n1_:=zkH HB hb
        clear BK107 HB
        have BK107:=n0_
        have HB:=n1_
        clear n0_ n1_
        (try clear hb)
        (try clear hb2)
        (try clear hk)
        (try clear hi)
        refine hK.out _ _ ⟨(blk_cell BK107.out 0).trans rfl,(blk_cell BK107.out 1).trans rfl,(blk_cell BK107.out 2).trans rfl⟩ (fun hHeld=>?_)
        clear hK K
        refine znm (some 13) ?_
        refine zpu 2 ?_
        refine zpu 3 ?_
        refine zpu 4 ?_
        refine zpu 5 ?_
        refine zpu 6 ?_
        refine zpn 7 ?_
        refine zpn 8 ?_
        refine zpn 9 ?_
        refine zpn 10 ?_
        refine zpn 11 ?_
        refine zpn 12 ?_
        refine zpn 13 ?_
        refine zpn 14 ?_
        refine zpn 15 ?_
        refine zpn 16 ?_
        refine zpn 17 ?_
        refine zpn 18 ?_
        refine zpn 19 ?_
        refine zpn 20 ?_
        refine zpn 21 ?_
        refine zpn 22 ?_
        refine zpn 23 ?_
        refine zpn 24 ?_
        refine zpu 25 ?_
        refine zpu 26 ?_
        refine zdo ?_
        try go_wp2
        go_roundg k1
        case measure=>have:=HK1.out;omega
        case rel=>exact ⟨(wrap64 (x7_1 + 1)),zs_,H',⟨by have:=HK1.out;omega⟩,⟨zb_⟩⟩
      ·rw [if_neg c6] at H
       have c6b0:(t108 == 0)=false:=beq_eq_false_iff_ne.mpr c6
       have c6b1:(t108 != 0)=true:=bne_iff_ne.mpr c6
       obtain rfl:=Option.some.inj H
       have p106:0≤(x7_1:Int):=za_
       have q106:x7_1 < (l0.length:Int):=za_
       obtain ⟨ad106,e106,hx106_0,hx106_1,hx106_2⟩:=at_T51 HR0.out x7_1 p106 q106
       cases e106
       replace hx106_0:=zhx HB hx106_0
       replace hx106_1:=zhx HB hx106_1
       replace hx106_2:=zhx HB hx106_2
       replace p106:=eq_true p106
       replace q106:=eq_true q106
       try go_wp2_with (first|((with_reducible refine gate_dst (N:=4) rfl ?_);refine zbx 4 #[.int .i64 0,.int .i64 0,.int .i64 0] 51 ?_;intro gb107 hg w40 hbox hb;have n0_:=zkH HB hb;have n1_:=zm (hbox);have n2_:=zkG HB hg;have n3_:=zkG HB hg;clear HB;have HB:=n0_;have BK107:=n1_;have GW107:=n2_;have GE107:=n3_;clear n0_ n1_ n2_ n3_;clear hb hbox hg;obtain ⟨hcz41_0,hcz41_1,hcz41_2,hfz41_0,hfz41_1,hfz41_2⟩:=zc3 BK107.out))
       have n0_:Aside0 ((((w40.setCell ⟨gb107,0,none⟩ (.int .i64 ((rd_T51 l0 x7_1).f0))).setCell ⟨gb107,1,none⟩ (.int .i64 ((rd_T51 l0 x7_1).f1))).setCell ⟨gb107,2,none⟩ (.int .i64 ((rd_T51 l0 x7_1).f2))).heap[gb107]?=some (.cells #[.int .i64 ((rd_T51 l0 x7_1).f0),.int .i64 ((rd_T51 l0 x7_1).f1),.int .i64 ((rd_T51 l0 x7_1).f2)] 51 (0,0))):=⟨by (with_reducible repeat (first|refine zbN ?_ _|refine zbD ?_|refine zbA ?_ _));refine blk_put (cs:=#[.int .i64 ((rd_T51 l0 x7_1).f0),.int .i64 ((rd_T51 l0 x7_1).f1),.int .i64 0]) ?_ 2 _ rfl;(with_reducible repeat (first|refine zbN ?_ _|refine zbD ?_|refine zbA ?_ _));refine blk_put (cs:=#[.int .i64 ((rd_T51 l0 x7_1).f0),.int .i64 0,.int .i64 0]) ?_ 1 _ rfl;(with_reducible repeat (first|refine zbN ?_ _|refine zbD ?_|refine zbA ?_ _));refine blk_put (cs:=#[.int .i64 0,.int .i64 0,.int .i64 0]) ?_ 0 _ rfl;(with_reducible repeat (first|refine zbN ?_ _|refine zbD ?_|refine zbA ?_ _));exact BK107.out⟩
       have n1_:Aside0 (Below w.heap.size w (((w40.setCell ⟨gb107,0,none⟩ (.int .i64 ((rd_T51 l0 x7_1).f0))).setCell ⟨gb107,1,none⟩ (.int .i64 ((rd_T51 l0 x7_1).f1))).setCell ⟨gb107,2,none⟩ (.int .i64 ((rd_T51 l0 x7_1).f2)))):=⟨zb_⟩
       (try clear BK107)
       (try clear HB)
       generalize (((w40.setCell ⟨gb107,0,none⟩ (.int .i64 ((rd_T51 l0 x7_1).f0))).setCell ⟨gb107,1,none⟩ (.int .i64 ((rd_T51 l0 x7_1).f1))).setCell ⟨gb107,2,none⟩ (.int .i64 ((rd_T51 l0 x7_1).f2)))=w42 at n0_ n1_ ⊢
       have BK107:=n0_
       have HB:=n1_
       clear n0_ n1_
       have n0_:=zm (zbD BK107.out)
       have n1_:=zm (zlD HB.out)
       clear BK107 HB
       have BK107:=n0_
       have HB:=n1_
       clear n0_ n1_
       refine start_ (n:=27) (S:=fun w'=>w'.cell? ⟨gb107,0,none⟩=some (.int .i64 ((rd_T51 l0 x7_1).f0))∧w'.cell? ⟨gb107,1,none⟩=some (.int .i64 ((rd_T51 l0 x7_1).f1))∧w'.cell? ⟨gb107,2,none⟩=some (.int .i64 ((rd_T51 l0 x7_1).f2))) (ds:=[]) (Array.replicate 27 false) (by kernel_rfl) rfl rfl ⟨(blk_cell BK107.out 0).trans rfl,(blk_cell BK107.out 1).trans rfl,(blk_cell BK107.out 2).trans rfl⟩ (fun hHeld=>?_);refine with_tabW extent_Check.tab4 extent_Check.bits4 (fun HT_ HW_=>?_)
       generalize w42.drew=w43 at BK107 HB hHeld ⊢
       refine zta 0 hHeld ?_
       refine zon 1 (some 13) (fun K hK=>?_)
       refine zgo Try.func52 #[.agg #[.int .i64 ((rd_T51 l0 x7_1).f0),.int .i64 ((rd_T51 l0 x7_1).f1),.int .i64 ((rd_T51 l0 x7_1).f2)]] ?_
       with_reducible refine (extent_One.calls k1 ((rd_T51 l0 x7_1).f0) ((rd_T51 l0 x7_1).f1) ((rd_T51 l0 x7_1).f2) t108 _ A5.out).mono ?_
       rintro e w44 ⟨rfl,hb⟩
       refine ⟨_,rfl,?_⟩
       have n0_:=zkB BK107 hb
       have n1_:=zkH HB hb
       clear BK107 HB
       have BK107:=n0_
       have HB:=n1_
       clear n0_ n1_
       (try clear hb)
       (try clear hb2)
       (try clear hk)
       (try clear hi)
       refine hK.out _ _ ⟨(blk_cell BK107.out 0).trans rfl,(blk_cell BK107.out 1).trans rfl,(blk_cell BK107.out 2).trans rfl⟩ (fun hHeld=>?_)
       clear hK K
       refine znm (some 13) ?_
       refine zpu 2 ?_
       refine zpu 3 ?_
       refine zpn 4 ?_
       refine zpn 5 ?_
       refine zpn 6 ?_
       refine zpn 7 ?_
       refine zpn 8 ?_
       refine zpn 9 ?_
       refine zpn 10 ?_
       refine zpn 11 ?_
       refine zpn 12 ?_
       refine zpn 13 ?_
       refine zpn 14 ?_
       refine zpn 15 ?_
       refine zpn 16 ?_
       refine zpn 17 ?_
       refine zpn 18 ?_
       refine zpn 19 ?_
       refine zpn 20 ?_
       refine zpn 21 ?_
       refine zpn 22 ?_
       refine zpn 23 ?_
       refine zpn 24 ?_
       refine zpn 25 ?_
       refine zpu 26 ?_
       refine zdo ?_
       try go_wp2
       go_ret
       exact ⟨ze_,zb_⟩
     ·rw [if_neg c4] at H
      exact absurd H (by simp)
    ·rw [if_neg c3] at H
     exact absurd H (by simp)
   ·rw [if_neg c2] at H
    have c2b0:decide (x7_1 < (l0.length:Int))=false:=decide_eq_false c2
    clear c2
    obtain rfl:=Option.some.inj H
    go_wp2
    go_ret
    exact ⟨ze_,zb_⟩
end Go.Proofs.Ytjoojmodghpimaa.Print
end
section
namespace Go.Proofs.Ytjoojmodghpimaa.Print
open Go.RowKit Go.Proofs.YtjoojmodghpimaaW.PrintWords Go.Proofs.YtjoojmodghpimaaW.PrintLast Go.Proofs.YtjoojmodghpimaaW.PrintMore
attribute [local go_sem] max2_int min2_int max_two min_two max_three min_three max_four min_four   -- for this text's walks alone
attribute [local go_sem ↓] Go.Proofs.Ytjoojmodghpimaa.Sem.isSome_setCell
attribute [local go_sem] Go.Instr.field Go.asAgg
set_option linter.unusedVariables false
set_option linter.unusedSimpArgs false
def inode_entries.l0:Nat → List (S51) → Int → List (S51) → Int → Int → Option (Bool)
 | 0,_,_,_,_,_=>none
 | k + 1,x0,x3,x6,x7,x8=>if x8 < x7 then (if 0≤x8 then (if x8 < (x6.length:Int) then (if ((rd_T51 x6 x8).f0)≤x3 then (some false) else (if ((rd_T51 x6 x8).f0) ≥ 65536 then (some false) else (if ((rd_T51 x6 x8).f1)=0 then (if ((rd_T51 x6 x8).f2) < 1 then (some false) else (if ((rd_T51 x6 x8).f2) ≥ 8192 then (some false) else (inode_entries.l0 k x0 ((rd_T51 x6 x8).f0) x6 x7 (wrap64 (x8 + 1))))) else (some false)))) else (none)) else (none)) else (some (decide ((x0.length:Int) > 0)))
def inode_entries.f (k:Nat) (l0:List (S51)):Option (Bool):=inode_entries.l0 k l0 (-1) l0 (l0.length:Int) 0
theorem inode_entries.mono_l:∀ k,(∀ y0 y1 y2 y3 y4,LeO (inode_entries.l0 k y0 y1 y2 y3 y4) (inode_entries.l0 (k + 1) y0 y1 y2 y3 y4))
 | 0=>fun _ _ _ _ _ r h=>by simp [inode_entries.l0] at h
 | k + 1=>by
  have ih0:=inode_entries.mono_l k
  ·intro y0 y1 y2 y3 y4
   unfold inode_entries.l0
   repeat' first
   | (with_reducible exact ih0 _ _ _ _ _)
   | (with_reducible exact LeO.refl _)
   | (with_reducible exact LeO.none _)
   | (with_reducible refine LeO.ite ?_ ?_)
   | (with_reducible refine LeO.bind ?_ (fun _=>?_))
   | exact ih0 _ _ _ _ _
   | exact LeO.none _
   | refine LeO.ite ?_ ?_
   | refine LeO.bind ?_ (fun _=>?_)
theorem inode_entries.mono:∀ a0 k,LeO (inode_entries.f k a0) (inode_entries.f (k + 1) a0):=by
 intro a0 k
 have ih0:=inode_entries.mono_l k
 unfold inode_entries.f
 repeat' first
   | (with_reducible exact ih0 _ _ _ _ _)
   | (with_reducible exact LeO.refl _)
   | (with_reducible exact LeO.none _)
   | (with_reducible refine LeO.ite ?_ ?_)
   | (with_reducible refine LeO.bind ?_ (fun _=>?_))
   | exact ih0 _ _ _ _ _
   | exact LeO.none _
   | refine LeO.ite ?_ ?_
   | refine LeO.bind ?_ (fun _=>?_)
set_option maxHeartbeats 8000000 in
set_option maxRecDepth 100000 in
theorem inode_entries.calls (k:Nat) (A0:Option Addr) (c0:Nat) (l0:List (S51)) (r:Bool) (w:World) (hr0:Kd.C k51 w A0 l0.length l0) (hc0:l0.length≤c0) (h:inode_entries.f k l0=some r) :
  Calls Try.prog 40 #[.slice A0 l0.length c0] w fun e w'=>e=.returned (.bool r)∧Below w.heap.size w w':=by
 have hu51:=Try.underlying51
 have HR0:=zm hr0
 have HC0:=zm hc0
 clear hr0 hc0
 have HB:=zm (Below.refl w.heap.size w)
 have H:(inode_entries.l0 k l0 (-1) l0 (l0.length:Int) 0)=some r:=h
 clear h
 have H':=zm H
 clear H
 go_enter Try.func40,Try.ntmps40
 go_wp2
 go_loopg [3,8] k (fun kq v3 v8 w'=>∃ (x3_1:Int) (x8_1:Int),v3=.int .i64 x3_1∧v8=.int .i64 x8_1∧Aside0 (inode_entries.l0 kq l0 x3_1 l0 (l0.length:Int) x8_1=some r)∧Aside0 (kq≤k)∧Aside0 (Below w.heap.size w w'))
 case atStart=>exact ⟨((-1)),(0),zs_,zs_,H',⟨Nat.le_refl _⟩,⟨zb_⟩⟩
 case round =>
  clear H'
  obtain ⟨x3_1,x8_1,rfl,rfl,HA,HK1,HB⟩:=hrel
  cases gk with
  | zero=>exact absurd HA.out (by simp [inode_entries.l0])
  | succ k1 =>
   have H:=HA.out
   clear HA
   simp only [inode_entries.l0] at H
   by_cases c2:x8_1 < (l0.length:Int)
   ·rw [if_pos c2] at H
    have c2b0:decide (x8_1 < (l0.length:Int))=true:=decide_eq_true c2
    clear c2
    by_cases c3:0≤x8_1
    ·rw [if_pos c3] at H
     have c3b0:decide (0≤x8_1)=true:=decide_eq_true c3
     clear c3
     by_cases c4:x8_1 < (l0.length:Int)
     ·rw [if_pos c4] at H
      have c4b0:decide (x8_1 < (l0.length:Int))=true:=decide_eq_true c4
      clear c4
      by_cases c5:((rd_T51 l0 x8_1).f0)≤x3_1
      ·rw [if_pos c5] at H
       have c5b0:decide (((rd_T51 l0 x8_1).f0)≤x3_1)=true:=decide_eq_true c5
       clear c5
       obtain rfl:=Option.some.inj H
       have p113:0≤(x8_1:Int):=za_
       have q113:x8_1 < (l0.length:Int):=za_
       obtain ⟨ad113,e113,hx113_0,hx113_1,hx113_2⟩:=at_T51 HR0.out x8_1 p113 q113
       cases e113
       replace hx113_0:=zhx HB hx113_0
       replace hx113_1:=zhx HB hx113_1
       replace hx113_2:=zhx HB hx113_2
       replace p113:=eq_true p113
       replace q113:=eq_true q113
       go_wp2_with (first|((with_reducible refine gate_dst (N:=5) rfl ?_);refine zbx 5 #[.int .i64 0,.int .i64 0,.int .i64 0] 51 ?_;intro gb114 hg w6 hbox hb;have n0_:=zkH HB hb;have n1_:=zm (hbox);have n2_:=zkG HB hg;have n3_:=zkG HB hg;clear HB;have HB:=n0_;have BK114:=n1_;have GW114:=n2_;have GE114:=n3_;clear n0_ n1_ n2_ n3_;clear hb hbox hg;obtain ⟨hcz7_0,hcz7_1,hcz7_2,hfz7_0,hfz7_1,hfz7_2⟩:=zc3 BK114.out))
       go_ret
       exact ⟨ze_,zb_⟩
      ·rw [if_neg c5] at H
       have c5b0:decide (((rd_T51 l0 x8_1).f0)≤x3_1)=false:=decide_eq_false c5
       clear c5
       by_cases c8:((rd_T51 l0 x8_1).f0) ≥ 65536
       ·rw [if_pos c8] at H
        have c8b0:decide (65536≤((rd_T51 l0 x8_1).f0))=true:=decide_eq_true c8
        clear c8
        obtain rfl:=Option.some.inj H
        have p113:0≤(x8_1:Int):=za_
        have q113:x8_1 < (l0.length:Int):=za_
        obtain ⟨ad113,e113,hx113_0,hx113_1,hx113_2⟩:=at_T51 HR0.out x8_1 p113 q113
        cases e113
        replace hx113_0:=zhx HB hx113_0
        replace hx113_1:=zhx HB hx113_1
        replace hx113_2:=zhx HB hx113_2
        replace p113:=eq_true p113
        replace q113:=eq_true q113
        go_wp2_with (first|((with_reducible refine gate_dst (N:=5) rfl ?_);refine zbx 5 #[.int .i64 0,.int .i64 0,.int .i64 0] 51 ?_;intro gb114 hg w9 hbox hb;have n0_:=zkH HB hb;have n1_:=zm (hbox);have n2_:=zkG HB hg;have n3_:=zkG HB hg;clear HB;have HB:=n0_;have BK114:=n1_;have GW114:=n2_;have GE114:=n3_;clear n0_ n1_ n2_ n3_;clear hb hbox hg;obtain ⟨hcz10_0,hcz10_1,hcz10_2,hfz10_0,hfz10_1,hfz10_2⟩:=zc3 BK114.out))
        go_ret
        exact ⟨ze_,zb_⟩
       ·rw [if_neg c8] at H
        have c8b0:decide (65536≤((rd_T51 l0 x8_1).f0))=false:=decide_eq_false c8
        clear c8
        by_cases c11:((rd_T51 l0 x8_1).f1)=0
        ·rw [if_pos c11] at H
         have c11b0:(((rd_T51 l0 x8_1).f1) == 0)=true:=beq_iff_eq.mpr c11
         have c11b1:(((rd_T51 l0 x8_1).f1) != 0)=false:=bne_eq_false_iff_eq.mpr c11
         clear c11
         by_cases c12:((rd_T51 l0 x8_1).f2) < 1
         ·rw [if_pos c12] at H
          have c12b0:decide (((rd_T51 l0 x8_1).f2) < 1)=true:=decide_eq_true c12
          clear c12
          obtain rfl:=Option.some.inj H
          have p113:0≤(x8_1:Int):=za_
          have q113:x8_1 < (l0.length:Int):=za_
          obtain ⟨ad113,e113,hx113_0,hx113_1,hx113_2⟩:=at_T51 HR0.out x8_1 p113 q113
          cases e113
          replace hx113_0:=zhx HB hx113_0
          replace hx113_1:=zhx HB hx113_1
          replace hx113_2:=zhx HB hx113_2
          replace p113:=eq_true p113
          replace q113:=eq_true q113
          go_wp2_with (first|((with_reducible refine gate_dst (N:=5) rfl ?_);refine zbx 5 #[.int .i64 0,.int .i64 0,.int .i64 0] 51 ?_;intro gb114 hg w13 hbox hb;have n0_:=zkH HB hb;have n1_:=zm (hbox);have n2_:=zkG HB hg;have n3_:=zkG HB hg;clear HB;have HB:=n0_;have BK114:=n1_;have GW114:=n2_;have GE114:=n3_;clear n0_ n1_ n2_ n3_;clear hb hbox hg;obtain ⟨hcz14_0,hcz14_1,hcz14_2,hfz14_0,hfz14_1,hfz14_2⟩:=zc3 BK114.out))
          go_ret
          exact ⟨ze_,zb_⟩
         ·rw [if_neg c12] at H
          have c12b0:decide (((rd_T51 l0 x8_1).f2) < 1)=false:=decide_eq_false c12
          clear c12
          by_cases c15:((rd_T51 l0 x8_1).f2) ≥ 8192
          ·rw [if_pos c15] at H
           have c15b0:decide (8192≤((rd_T51 l0 x8_1).f2))=true:=decide_eq_true c15
           clear c15
           obtain rfl:=Option.some.inj H
           have p113:0≤(x8_1:Int):=za_
           have q113:x8_1 < (l0.length:Int):=za_
           obtain ⟨ad113,e113,hx113_0,hx113_1,hx113_2⟩:=at_T51 HR0.out x8_1 p113 q113
           cases e113
           replace hx113_0:=zhx HB hx113_0
           replace hx113_1:=zhx HB hx113_1
           replace hx113_2:=zhx HB hx113_2
           replace p113:=eq_true p113
           replace q113:=eq_true q113
           go_wp2_with (first|((with_reducible refine gate_dst (N:=5) rfl ?_);refine zbx 5 #[.int .i64 0,.int .i64 0,.int .i64 0] 51 ?_;intro gb114 hg w16 hbox hb;have n0_:=zkH HB hb;have n1_:=zm (hbox);have n2_:=zkG HB hg;have n3_:=zkG HB hg;clear HB;have HB:=n0_;have BK114:=n1_;have GW114:=n2_;have GE114:=n3_;clear n0_ n1_ n2_ n3_;clear hb hbox hg;obtain ⟨hcz17_0,hcz17_1,hcz17_2,hfz17_0,hfz17_1,hfz17_2⟩:=zc3 BK114.out))
           go_ret
           exact ⟨ze_,zb_⟩
          ·rw [if_neg c15] at H
           have c15b0:decide (8192≤((rd_T51 l0 x8_1).f2))=false:=decide_eq_false c15
           clear c15
           have H':=zm H
           clear H
           have p113:0≤(x8_1:Int):=za_
           have q113:x8_1 < (l0.length:Int):=za_
           obtain ⟨ad113,e113,hx113_0,hx113_1,hx113_2⟩:=at_T51 HR0.out x8_1 p113 q113
           cases e113
           replace hx113_0:=zhx HB hx113_0
           replace hx113_1:=zhx HB hx113_1
           replace hx113_2:=zhx HB hx113_2
           replace p113:=eq_true p113
           replace q113:=eq_true q113
           go_wp2_with (first|((with_reducible refine gate_dst (N:=5) rfl ?_);refine zbx 5 #[.int .i64 0,.int .i64 0,.int .i64 0] 51 ?_;intro gb114 hg w18 hbox hb;have n0_:=zkH HB hb;have n1_:=zm (hbox);have n2_:=zkG HB hg;have n3_:=zkG HB hg;clear HB;have HB:=n0_;have BK114:=n1_;have GW114:=n2_;have GE114:=n3_;clear n0_ n1_ n2_ n3_;clear hb hbox hg;obtain ⟨hcz19_0,hcz19_1,hcz19_2,hfz19_0,hfz19_1,hfz19_2⟩:=zc3 BK114.out))
           go_roundg k1
           case measure=>have:=HK1.out;omega
           case rel=>exact ⟨((rd_T51 l0 x8_1).f0),(wrap64 (x8_1 + 1)),zs_,zs_,H',⟨by have:=HK1.out;omega⟩,⟨zb_⟩⟩
        ·rw [if_neg c11] at H
         have c11b0:(((rd_T51 l0 x8_1).f1) == 0)=false:=beq_eq_false_iff_ne.mpr c11
         have c11b1:(((rd_T51 l0 x8_1).f1) != 0)=true:=bne_iff_ne.mpr c11
         obtain rfl:=Option.some.inj H
         have p113:0≤(x8_1:Int):=za_
         have q113:x8_1 < (l0.length:Int):=za_
         obtain ⟨ad113,e113,hx113_0,hx113_1,hx113_2⟩:=at_T51 HR0.out x8_1 p113 q113
         cases e113
         replace hx113_0:=zhx HB hx113_0
         replace hx113_1:=zhx HB hx113_1
         replace hx113_2:=zhx HB hx113_2
         replace p113:=eq_true p113
         replace q113:=eq_true q113
         go_wp2_with (first|((with_reducible refine gate_dst (N:=5) rfl ?_);refine zbx 5 #[.int .i64 0,.int .i64 0,.int .i64 0] 51 ?_;intro gb114 hg w20 hbox hb;have n0_:=zkH HB hb;have n1_:=zm (hbox);have n2_:=zkG HB hg;have n3_:=zkG HB hg;clear HB;have HB:=n0_;have BK114:=n1_;have GW114:=n2_;have GE114:=n3_;clear n0_ n1_ n2_ n3_;clear hb hbox hg;obtain ⟨hcz21_0,hcz21_1,hcz21_2,hfz21_0,hfz21_1,hfz21_2⟩:=zc3 BK114.out))
         go_ret
         exact ⟨ze_,zb_⟩
     ·rw [if_neg c4] at H
      exact absurd H (by simp)
    ·rw [if_neg c3] at H
     exact absurd H (by simp)
   ·rw [if_neg c2] at H
    have c2b0:decide (x8_1 < (l0.length:Int))=false:=decide_eq_false c2
    clear c2
    obtain rfl:=Option.some.inj H
    go_wp2
    go_ret
    exact ⟨ze_,zb_⟩
end Go.Proofs.Ytjoojmodghpimaa.Print
end
section
namespace Go.Proofs.Ytjoojmodghpimaa.Print
open Go.RowKit Go.Proofs.YtjoojmodghpimaaW.PrintWords Go.Proofs.YtjoojmodghpimaaW.PrintLast Go.Proofs.YtjoojmodghpimaaW.PrintMore
attribute [local go_sem] max2_int min2_int max_two min_two max_three min_three max_four min_four   -- for this text's walks alone
attribute [local go_sem ↓] Go.Proofs.Ytjoojmodghpimaa.Sem.isSome_setCell
attribute [local go_sem] Go.Instr.field Go.asAgg
set_option linter.unusedVariables false
set_option linter.unusedSimpArgs false
def inode_Check.j0:Nat → Bool → Int → Int → Int → Int → Int → Int → List (S51) → Option (Int)
 | 0,_,_,_,_,_,_,_,_=>none
 | k + 1,x3,x116000,x116001,x116002,x116003,x116004,x116005,x116006=>if x3=true then (if x116000=0 then (if x116001=0 then (if x116002=0 then (if x116003=0 then (if x116005=0 then (if ((x116006.length:Int)=0) then (if x116000=2 then (if (Int.tmod x116002 256)=0 then (some 0) else (some 140)) else (some 0)) else (some 140)) else (some 140)) else (some 140)) else (some 140)) else (some 140)) else (if x116005=0 then ((extent_Check.f k x116006).bind fun t116=>(if t116=0 then (if x116000=2 then (if (Int.tmod x116002 256)=0 then (some 0) else (some 140)) else (some 0)) else (some 140))) else ((inode_entries.f k x116006).bind fun t117=>(if t117=true then (if x116000=2 then (if (Int.tmod x116002 256)=0 then (some 0) else (some 140)) else (some 0)) else (some 140))))) else (some 140)
def inode_Check.f (k:Nat) (a0_0:Int) (a0_1:Int) (a0_2:Int) (a0_3:Int) (a0_4:Int) (a0_5:Int) (l0_6:List (S51)):Option (Int):=if a0_0 ≥ 0 then (if a0_0≤2 then (if a0_1 ≥ 0 then (if a0_1≤1000 then (if a0_2 ≥ 0 then (if a0_2≤16777216 then (if a0_3 ≥ 0 then (if a0_3≤65536 then (if a0_4 ≥ 0 then (if a0_4≤4294967295 then (if a0_5 ≥ 0 then (if a0_5≤2 then (inode_Check.j0 k (decide ((l0_6.length:Int)≤4)) a0_0 a0_1 a0_2 a0_3 a0_4 a0_5 l0_6) else (inode_Check.j0 k false a0_0 a0_1 a0_2 a0_3 a0_4 a0_5 l0_6)) else (inode_Check.j0 k false a0_0 a0_1 a0_2 a0_3 a0_4 a0_5 l0_6)) else (inode_Check.j0 k false a0_0 a0_1 a0_2 a0_3 a0_4 a0_5 l0_6)) else (inode_Check.j0 k false a0_0 a0_1 a0_2 a0_3 a0_4 a0_5 l0_6)) else (inode_Check.j0 k false a0_0 a0_1 a0_2 a0_3 a0_4 a0_5 l0_6)) else (inode_Check.j0 k false a0_0 a0_1 a0_2 a0_3 a0_4 a0_5 l0_6)) else (inode_Check.j0 k false a0_0 a0_1 a0_2 a0_3 a0_4 a0_5 l0_6)) else (inode_Check.j0 k false a0_0 a0_1 a0_2 a0_3 a0_4 a0_5 l0_6)) else (inode_Check.j0 k false a0_0 a0_1 a0_2 a0_3 a0_4 a0_5 l0_6)) else (inode_Check.j0 k false a0_0 a0_1 a0_2 a0_3 a0_4 a0_5 l0_6)) else (inode_Check.j0 k false a0_0 a0_1 a0_2 a0_3 a0_4 a0_5 l0_6)) else (inode_Check.j0 k false a0_0 a0_1 a0_2 a0_3 a0_4 a0_5 l0_6)
theorem inode_Check.mono_l:∀ k,(∀ y0 y1 y2 y3 y4 y5 y6 y7,LeO (inode_Check.j0 k y0 y1 y2 y3 y4 y5 y6 y7) (inode_Check.j0 (k + 1) y0 y1 y2 y3 y4 y5 y6 y7))
 | 0=>fun _ _ _ _ _ _ _ _ r h=>by simp [inode_Check.j0] at h
 | k + 1=>by
  have ih0:=inode_Check.mono_l k
  ·intro y0 y1 y2 y3 y4 y5 y6 y7
   unfold inode_Check.j0
   repeat' first
   | (with_reducible exact ih0 _ _ _ _ _ _ _ _)
   | (with_reducible exact extent_Check.mono _ _)
   | (with_reducible exact inode_entries.mono _ _)
   | (with_reducible exact LeO.refl _)
   | (with_reducible exact LeO.none _)
   | (with_reducible refine LeO.ite ?_ ?_)
   | (with_reducible refine LeO.bind ?_ (fun _=>?_))
   | exact ih0 _ _ _ _ _ _ _ _
   | exact extent_Check.mono _ _
   | exact inode_entries.mono _ _
   | exact LeO.none _
   | refine LeO.ite ?_ ?_
   | refine LeO.bind ?_ (fun _=>?_)
theorem inode_Check.mono:∀ a0 a1 a2 a3 a4 a5 a6 k,LeO (inode_Check.f k a0 a1 a2 a3 a4 a5 a6) (inode_Check.f (k + 1) a0 a1 a2 a3 a4 a5 a6):=by
 intro a0 a1 a2 a3 a4 a5 a6 k
 have ih0:=inode_Check.mono_l k
 unfold inode_Check.f
 repeat' first
   | (with_reducible exact ih0 _ _ _ _ _ _ _ _)
   | (with_reducible exact extent_Check.mono _ _)
   | (with_reducible exact inode_entries.mono _ _)
   | (with_reducible exact LeO.refl _)
   | (with_reducible exact LeO.none _)
   | (with_reducible refine LeO.ite ?_ ?_)
   | (with_reducible refine LeO.bind ?_ (fun _=>?_))
   | exact ih0 _ _ _ _ _ _ _ _
   | exact extent_Check.mono _ _
   | exact inode_entries.mono _ _
   | exact LeO.none _
   | refine LeO.ite ?_ ?_
   | refine LeO.bind ?_ (fun _=>?_)
set_option maxHeartbeats 8000000 in
set_option maxRecDepth 100000 in
theorem inode_Check.calls (k:Nat) (a0_0:Int) (a0_1:Int) (a0_2:Int) (a0_3:Int) (a0_4:Int) (a0_5:Int) (A0_6:Option Addr) (c0_6:Nat) (l0_6:List (S51)) (r:Int) (w:World) (hr0_6:Kd.C k51 w A0_6 l0_6.length l0_6) (hc0_6:l0_6.length≤c0_6) (h:inode_Check.f k a0_0 a0_1 a0_2 a0_3 a0_4 a0_5 l0_6=some r) :
  Calls Try.prog 14 #[.agg #[.int .i64 a0_0,.int .i64 a0_1,.int .i64 a0_2,.int .i64 a0_3,.int .i64 a0_4,.int .i64 a0_5,.slice A0_6 l0_6.length c0_6]] w fun e w'=>e=.returned (.int .i64 r)∧Below w.heap.size w w':=by
 have hu24:=Try.underlying24
 have HR0_6:=zm hr0_6
 have HC0_6:=zm hc0_6
 clear hr0_6 hc0_6
 have HB:=zm (Below.refl w.heap.size w)
 have H:(if a0_0 ≥ 0 then (if a0_0≤2 then (if a0_1 ≥ 0 then (if a0_1≤1000 then (if a0_2 ≥ 0 then (if a0_2≤16777216 then (if a0_3 ≥ 0 then (if a0_3≤65536 then (if a0_4 ≥ 0 then (if a0_4≤4294967295 then (if a0_5 ≥ 0 then (if a0_5≤2 then (inode_Check.j0 k (decide ((l0_6.length:Int)≤4)) a0_0 a0_1 a0_2 a0_3 a0_4 a0_5 l0_6) else (inode_Check.j0 k false a0_0 a0_1 a0_2 a0_3 a0_4 a0_5 l0_6)) else (inode_Check.j0 k false a0_0 a0_1 a0_2 a0_3 a0_4 a0_5 l0_6)) else (inode_Check.j0 k false a0_0 a0_1 a0_2 a0_3 a0_4 a0_5 l0_6)) else (inode_Check.j0 k false a0_0 a0_1 a0_2 a0_3 a0_4 a0_5 l0_6)) else (inode_Check.j0 k false a0_0 a0_1 a0_2 a0_3 a0_4 a0_5 l0_6)) else (inode_Check.j0 k false a0_0 a0_1 a0_2 a0_3 a0_4 a0_5 l0_6)) else (inode_Check.j0 k false a0_0 a0_1 a0_2 a0_3 a0_4 a0_5 l0_6)) else (inode_Check.j0 k false a0_0 a0_1 a0_2 a0_3 a0_4 a0_5 l0_6)) else (inode_Check.j0 k false a0_0 a0_1 a0_2 a0_3 a0_4 a0_5 l0_6)) else (inode_Check.j0 k false a0_0 a0_1 a0_2 a0_3 a0_4 a0_5 l0_6)) else (inode_Check.j0 k false a0_0 a0_1 a0_2 a0_3 a0_4 a0_5 l0_6)) else (inode_Check.j0 k false a0_0 a0_1 a0_2 a0_3 a0_4 a0_5 l0_6))=some r:=h
 clear h
 have HC2:=zm H
 clear H
 go_enter Try.func14,Try.ntmps14
 go_upto_region 1 with (first|((with_reducible refine gate_dst (N:=1) rfl ?_);(try (refine gate_guard (by rfl) ?_;dsimp only));refine zbx 1 #[.int .i64 a0_0,.int .i64 a0_1,.int .i64 a0_2,.int .i64 a0_3,.int .i64 a0_4,.int .i64 a0_5,.slice A0_6 l0_6.length c0_6] 24 ?_;intro gb115 hg w3 hbox hb;have n0_:=zkH HB hb;have n1_:=zm (hbox);have n2_:=zkG HB hg;have n3_:=zkG HB hg;clear HB;have HB:=n0_;have BK115:=n1_;have GW115:=n2_;have GE115:=n3_;clear n0_ n1_ n2_ n3_;clear hb hbox hg))
 (try simp only [Act.put,List.setIfInBounds_toArray,List.set_cons_zero,List.set_cons_succ])
 go_cut [3] (fun v3 wc=>∃ (kq:Nat) (x3_1:Bool),v3=.bool x3_1∧Aside0 (inode_Check.j0 kq x3_1 a0_0 a0_1 a0_2 a0_3 a0_4 a0_5 l0_6=some r)∧Aside0 (kq≤k)∧Aside0 (wc.heap[gb115]?=some (.cells #[.int .i64 a0_0,.int .i64 a0_1,.int .i64 a0_2,.int .i64 a0_3,.int .i64 a0_4,.int .i64 a0_5,(.slice A0_6 l0_6.length c0_6)] 24 (0,0)))∧Aside0 (Below w.heap.size w wc))
 case first =>
  have H:=HC2.out
  clear HC2
  by_cases c4:a0_0 ≥ 0
  ·rw [if_pos c4] at H
   have c4b0:decide (0≤a0_0)=true:=decide_eq_true c4
   clear c4
   (first|rw [c4b0]|(simp only [i64_w,i32_w];rw [c4b0])|skip)
   by_cases c5:a0_0≤2
   ·rw [if_pos c5] at H
    have c5b0:decide (a0_0≤2)=true:=decide_eq_true c5
    clear c5
    by_cases c6:a0_1 ≥ 0
    ·rw [if_pos c6] at H
     have c6b0:decide (0≤a0_1)=true:=decide_eq_true c6
     clear c6
     by_cases c7:a0_1≤1000
     ·rw [if_pos c7] at H
      have c7b0:decide (a0_1≤1000)=true:=decide_eq_true c7
      clear c7
      by_cases c8:a0_2 ≥ 0
      ·rw [if_pos c8] at H
       have c8b0:decide (0≤a0_2)=true:=decide_eq_true c8
       clear c8
       by_cases c9:a0_2≤16777216
       ·rw [if_pos c9] at H
        have c9b0:decide (a0_2≤16777216)=true:=decide_eq_true c9
        clear c9
        by_cases c10:a0_3 ≥ 0
        ·rw [if_pos c10] at H
         have c10b0:decide (0≤a0_3)=true:=decide_eq_true c10
         clear c10
         by_cases c11:a0_3≤65536
         ·rw [if_pos c11] at H
          have c11b0:decide (a0_3≤65536)=true:=decide_eq_true c11
          clear c11
          by_cases c12:a0_4 ≥ 0
          ·rw [if_pos c12] at H
           have c12b0:decide (0≤a0_4)=true:=decide_eq_true c12
           clear c12
           by_cases c13:a0_4≤4294967295
           ·rw [if_pos c13] at H
            have c13b0:decide (a0_4≤4294967295)=true:=decide_eq_true c13
            clear c13
            by_cases c14:a0_5 ≥ 0
            ·rw [if_pos c14] at H
             have c14b0:decide (0≤a0_5)=true:=decide_eq_true c14
             clear c14
             by_cases c15:a0_5≤2
             ·rw [if_pos c15] at H
              have c15b0:decide (a0_5≤2)=true:=decide_eq_true c15
              clear c15
              have H':=zm H
              clear H
              obtain ⟨hcz16_0,hcz16_1,hcz16_2,hcz16_3,hcz16_4,hcz16_5,hcz16_6,hfz16_0,hfz16_1,hfz16_2,hfz16_3,hfz16_4,hfz16_5,hfz16_6⟩:=zc7 BK115.out
              go_wp2
              go_meet
              case rel=>exact ⟨_,(decide ((l0_6.length:Int)≤4)),zs_,H',⟨by first|omega|exact Nat.le_refl _⟩,⟨zx_⟩,⟨zb_⟩⟩
             ·rw [if_neg c15] at H
              have c15b0:decide (a0_5≤2)=false:=decide_eq_false c15
              clear c15
              have H':=zm H
              clear H
              obtain ⟨hcz17_0,hcz17_1,hcz17_2,hcz17_3,hcz17_4,hcz17_5,hcz17_6,hfz17_0,hfz17_1,hfz17_2,hfz17_3,hfz17_4,hfz17_5,hfz17_6⟩:=zc7 BK115.out
              go_wp2
              go_meet
              case rel=>exact ⟨_,(false),zs_,H',⟨by first|omega|exact Nat.le_refl _⟩,⟨zx_⟩,⟨zb_⟩⟩
            ·rw [if_neg c14] at H
             have c14b0:decide (0≤a0_5)=false:=decide_eq_false c14
             clear c14
             have H':=zm H
             clear H
             obtain ⟨hcz18_0,hcz18_1,hcz18_2,hcz18_3,hcz18_4,hcz18_5,hcz18_6,hfz18_0,hfz18_1,hfz18_2,hfz18_3,hfz18_4,hfz18_5,hfz18_6⟩:=zc7 BK115.out
             go_wp2
             go_meet
             case rel=>exact ⟨_,(false),zs_,H',⟨by first|omega|exact Nat.le_refl _⟩,⟨zx_⟩,⟨zb_⟩⟩
           ·rw [if_neg c13] at H
            have c13b0:decide (a0_4≤4294967295)=false:=decide_eq_false c13
            clear c13
            have H':=zm H
            clear H
            obtain ⟨hcz19_0,hcz19_1,hcz19_2,hcz19_3,hcz19_4,hcz19_5,hcz19_6,hfz19_0,hfz19_1,hfz19_2,hfz19_3,hfz19_4,hfz19_5,hfz19_6⟩:=zc7 BK115.out
            go_wp2
            go_meet
            case rel=>exact ⟨_,(false),zs_,H',⟨by first|omega|exact Nat.le_refl _⟩,⟨zx_⟩,⟨zb_⟩⟩
          ·rw [if_neg c12] at H
           have c12b0:decide (0≤a0_4)=false:=decide_eq_false c12
           clear c12
           have H':=zm H
           clear H
           obtain ⟨hcz20_0,hcz20_1,hcz20_2,hcz20_3,hcz20_4,hcz20_5,hcz20_6,hfz20_0,hfz20_1,hfz20_2,hfz20_3,hfz20_4,hfz20_5,hfz20_6⟩:=zc7 BK115.out
           go_wp2
           go_meet
           case rel=>exact ⟨_,(false),zs_,H',⟨by first|omega|exact Nat.le_refl _⟩,⟨zx_⟩,⟨zb_⟩⟩
         ·rw [if_neg c11] at H
          have c11b0:decide (a0_3≤65536)=false:=decide_eq_false c11
          clear c11
          have H':=zm H
          clear H
          obtain ⟨hcz21_0,hcz21_1,hcz21_2,hcz21_3,hcz21_4,hcz21_5,hcz21_6,hfz21_0,hfz21_1,hfz21_2,hfz21_3,hfz21_4,hfz21_5,hfz21_6⟩:=zc7 BK115.out
          go_wp2
          go_meet
          case rel=>exact ⟨_,(false),zs_,H',⟨by first|omega|exact Nat.le_refl _⟩,⟨zx_⟩,⟨zb_⟩⟩
        ·rw [if_neg c10] at H
         have c10b0:decide (0≤a0_3)=false:=decide_eq_false c10
         clear c10
         have H':=zm H
         clear H
         obtain ⟨hcz22_0,hcz22_1,hcz22_2,hcz22_3,hcz22_4,hcz22_5,hcz22_6,hfz22_0,hfz22_1,hfz22_2,hfz22_3,hfz22_4,hfz22_5,hfz22_6⟩:=zc7 BK115.out
         go_wp2
         go_meet
         case rel=>exact ⟨_,(false),zs_,H',⟨by first|omega|exact Nat.le_refl _⟩,⟨zx_⟩,⟨zb_⟩⟩
       ·rw [if_neg c9] at H
        have c9b0:decide (a0_2≤16777216)=false:=decide_eq_false c9
        clear c9
        have H':=zm H
        clear H
        obtain ⟨hcz23_0,hcz23_1,hcz23_2,hcz23_3,hcz23_4,hcz23_5,hcz23_6,hfz23_0,hfz23_1,hfz23_2,hfz23_3,hfz23_4,hfz23_5,hfz23_6⟩:=zc7 BK115.out
        go_wp2
        go_meet
        case rel=>exact ⟨_,(false),zs_,H',⟨by first|omega|exact Nat.le_refl _⟩,⟨zx_⟩,⟨zb_⟩⟩
      ·rw [if_neg c8] at H
       have c8b0:decide (0≤a0_2)=false:=decide_eq_false c8
       clear c8
       have H':=zm H
       clear H
       obtain ⟨hcz24_0,hcz24_1,hcz24_2,hcz24_3,hcz24_4,hcz24_5,hcz24_6,hfz24_0,hfz24_1,hfz24_2,hfz24_3,hfz24_4,hfz24_5,hfz24_6⟩:=zc7 BK115.out
       go_wp2
       go_meet
       case rel=>exact ⟨_,(false),zs_,H',⟨by first|omega|exact Nat.le_refl _⟩,⟨zx_⟩,⟨zb_⟩⟩
     ·rw [if_neg c7] at H
      have c7b0:decide (a0_1≤1000)=false:=decide_eq_false c7
      clear c7
      have H':=zm H
      clear H
      obtain ⟨hcz25_0,hcz25_1,hcz25_2,hcz25_3,hcz25_4,hcz25_5,hcz25_6,hfz25_0,hfz25_1,hfz25_2,hfz25_3,hfz25_4,hfz25_5,hfz25_6⟩:=zc7 BK115.out
      go_wp2
      go_meet
      case rel=>exact ⟨_,(false),zs_,H',⟨by first|omega|exact Nat.le_refl _⟩,⟨zx_⟩,⟨zb_⟩⟩
    ·rw [if_neg c6] at H
     have c6b0:decide (0≤a0_1)=false:=decide_eq_false c6
     clear c6
     have H':=zm H
     clear H
     obtain ⟨hcz26_0,hcz26_1,hcz26_2,hcz26_3,hcz26_4,hcz26_5,hcz26_6,hfz26_0,hfz26_1,hfz26_2,hfz26_3,hfz26_4,hfz26_5,hfz26_6⟩:=zc7 BK115.out
     go_wp2
     go_meet
     case rel=>exact ⟨_,(false),zs_,H',⟨by first|omega|exact Nat.le_refl _⟩,⟨zx_⟩,⟨zb_⟩⟩
   ·rw [if_neg c5] at H
    have c5b0:decide (a0_0≤2)=false:=decide_eq_false c5
    clear c5
    have H':=zm H
    clear H
    obtain ⟨hcz27_0,hcz27_1,hcz27_2,hcz27_3,hcz27_4,hcz27_5,hcz27_6,hfz27_0,hfz27_1,hfz27_2,hfz27_3,hfz27_4,hfz27_5,hfz27_6⟩:=zc7 BK115.out
    go_wp2
    go_meet
    case rel=>exact ⟨_,(false),zs_,H',⟨by first|omega|exact Nat.le_refl _⟩,⟨zx_⟩,⟨zb_⟩⟩
  ·rw [if_neg c4] at H
   have c4b0:decide (0≤a0_0)=false:=decide_eq_false c4
   clear c4
   (first|rw [c4b0]|(simp only [i64_w,i32_w];rw [c4b0])|skip)
   have H':=zm H
   clear H
   obtain ⟨hcz28_0,hcz28_1,hcz28_2,hcz28_3,hcz28_4,hcz28_5,hcz28_6,hfz28_0,hfz28_1,hfz28_2,hfz28_3,hfz28_4,hfz28_5,hfz28_6⟩:=zc7 BK115.out
   go_wp2
   go_meet
   case rel=>exact ⟨_,(false),zs_,H',⟨by first|omega|exact Nat.le_refl _⟩,⟨zx_⟩,⟨zb_⟩⟩
 case rest =>
  clear HC2
  try clear c1
  try clear p2
  try clear c4
  try clear c4b0
  try clear c5
  try clear c5b0
  try clear c6
  try clear c6b0
  try clear c7
  try clear c7b0
  try clear c8
  try clear c8b0
  try clear c9
  try clear c9b0
  try clear c10
  try clear c10b0
  try clear c11
  try clear c11b0
  try clear c12
  try clear c12b0
  try clear c13
  try clear c13b0
  try clear c14
  try clear c14b0
  try clear c15
  try clear c15b0
  try clear hcz16_0
  try clear hcz16_1
  try clear hcz16_2
  try clear hcz16_3
  try clear hcz16_4
  try clear hcz16_5
  try clear hcz16_6
  try clear hcz17_0
  try clear hcz17_1
  try clear hcz17_2
  try clear hcz17_3
  try clear hcz17_4
  try clear hcz17_5
  try clear hcz17_6
  try clear hcz18_0
  try clear hcz18_1
  try clear hcz18_2
  try clear hcz18_3
  try clear hcz18_4
  try clear hcz18_5
  try clear hcz18_6
  try clear hcz19_0
  try clear hcz19_1
  try clear hcz19_2
  try clear hcz19_3
  try clear hcz19_4
  try clear hcz19_5
  try clear hcz19_6
  try clear hcz20_0
  try clear hcz20_1
  try clear hcz20_2
  try clear hcz20_3
  try clear hcz20_4
  try clear hcz20_5
  try clear hcz20_6
  try clear hcz21_0
  try clear hcz21_1
  try clear hcz21_2
  try clear hcz21_3
  try clear hcz21_4
  try clear hcz21_5
  try clear hcz21_6
  try clear hcz22_0
  try clear hcz22_1
  try clear hcz22_2
  try clear hcz22_3
  try clear hcz22_4
  try clear hcz22_5
  try clear hcz22_6
  try clear hcz23_0
  try clear hcz23_1
  try clear hcz23_2
  try clear hcz23_3
  try clear hcz23_4
  try clear hcz23_5
  try clear hcz23_6
  try clear hcz24_0
  try clear hcz24_1
  try clear hcz24_2
  try clear hcz24_3
  try clear hcz24_4
  try clear hcz24_5
  try clear hcz24_6
  try clear hcz25_0
  try clear hcz25_1
  try clear hcz25_2
  try clear hcz25_3
  try clear hcz25_4
  try clear hcz25_5
  try clear hcz25_6
  try clear hcz26_0
  try clear hcz26_1
  try clear hcz26_2
  try clear hcz26_3
  try clear hcz26_4
  try clear hcz26_5
  try clear hcz26_6
  try clear hcz27_0
  try clear hcz27_1
  try clear hcz27_2
  try clear hcz27_3
  try clear hcz27_4
  try clear hcz27_5
  try clear hcz27_6
  try clear hcz28_0
  try clear hcz28_1
  try clear hcz28_2
  try clear hcz28_3
  try clear hcz28_4
  try clear hcz28_5
  try clear hcz28_6
  try clear hfz16_0
  try clear hfz16_1
  try clear hfz16_2
  try clear hfz16_3
  try clear hfz16_4
  try clear hfz16_5
  try clear hfz16_6
  try clear hfz17_0
  try clear hfz17_1
  try clear hfz17_2
  try clear hfz17_3
  try clear hfz17_4
  try clear hfz17_5
  try clear hfz17_6
  try clear hfz18_0
  try clear hfz18_1
  try clear hfz18_2
  try clear hfz18_3
  try clear hfz18_4
  try clear hfz18_5
  try clear hfz18_6
  try clear hfz19_0
  try clear hfz19_1
  try clear hfz19_2
  try clear hfz19_3
  try clear hfz19_4
  try clear hfz19_5
  try clear hfz19_6
  try clear hfz20_0
  try clear hfz20_1
  try clear hfz20_2
  try clear hfz20_3
  try clear hfz20_4
  try clear hfz20_5
  try clear hfz20_6
  try clear hfz21_0
  try clear hfz21_1
  try clear hfz21_2
  try clear hfz21_3
  try clear hfz21_4
  try clear hfz21_5
  try clear hfz21_6
  try clear hfz22_0
  try clear hfz22_1
  try clear hfz22_2
  try clear hfz22_3
  try clear hfz22_4
  try clear hfz22_5
  try clear hfz22_6
  try clear hfz23_0
  try clear hfz23_1
  try clear hfz23_2
  try clear hfz23_3
  try clear hfz23_4
  try clear hfz23_5
  try clear hfz23_6
  try clear hfz24_0
  try clear hfz24_1
  try clear hfz24_2
  try clear hfz24_3
  try clear hfz24_4
  try clear hfz24_5
  try clear hfz24_6
  try clear hfz25_0
  try clear hfz25_1
  try clear hfz25_2
  try clear hfz25_3
  try clear hfz25_4
  try clear hfz25_5
  try clear hfz25_6
  try clear hfz26_0
  try clear hfz26_1
  try clear hfz26_2
  try clear hfz26_3
  try clear hfz26_4
  try clear hfz26_5
  try clear hfz26_6
  try clear hfz27_0
  try clear hfz27_1
  try clear hfz27_2
  try clear hfz27_3
  try clear hfz27_4
  try clear hfz27_5
  try clear hfz27_6
  try clear hfz28_0
  try clear hfz28_1
  try clear hfz28_2
  try clear hfz28_3
  try clear hfz28_4
  try clear hfz28_5
  try clear hfz28_6
  obtain ⟨kq,x3_1,rfl,HA,HJ1,BK115,HB⟩:=hcut
  cases kq with
  | zero=>exact absurd HA.out (by simp [inode_Check.j0])
  | succ kj1 =>
   have H:=HA.out
   clear HA
   simp only [inode_Check.j0] at H
   by_cases c29:x3_1=true
   ·subst c29
    have H1:(if a0_0=0 then (if a0_1=0 then (if a0_2=0 then (if a0_3=0 then (if a0_5=0 then (if ((l0_6.length:Int)=0) then (if a0_0=2 then (if (Int.tmod a0_2 256)=0 then (some 0) else (some 140)) else (some 0)) else (some 140)) else (some 140)) else (some 140)) else (some 140)) else (some 140)) else (if a0_5=0 then ((extent_Check.f kj1 l0_6).bind fun t116=>(if t116=0 then (if a0_0=2 then (if (Int.tmod a0_2 256)=0 then (some 0) else (some 140)) else (some 0)) else (some 140))) else ((inode_entries.f kj1 l0_6).bind fun t117=>(if t117=true then (if a0_0=2 then (if (Int.tmod a0_2 256)=0 then (some 0) else (some 140)) else (some 0)) else (some 140)))))=some r:=by rw [if_pos rfl] at H;exact H
    clear H
    have H:=H1
    clear H1
    by_cases c30:a0_0=0
    ·rw [if_pos c30] at H
     have c30b0:(a0_0 == 0)=true:=beq_iff_eq.mpr c30
     have c30b1:(a0_0 != 0)=false:=bne_eq_false_iff_eq.mpr c30
     clear c30
     by_cases c31:a0_1=0
     ·rw [if_pos c31] at H
      have c31b0:(a0_1 == 0)=true:=beq_iff_eq.mpr c31
      have c31b1:(a0_1 != 0)=false:=bne_eq_false_iff_eq.mpr c31
      clear c31
      by_cases c32:a0_2=0
      ·rw [if_pos c32] at H
       have c32b0:(a0_2 == 0)=true:=beq_iff_eq.mpr c32
       have c32b1:(a0_2 != 0)=false:=bne_eq_false_iff_eq.mpr c32
       clear c32
       by_cases c33:a0_3=0
       ·rw [if_pos c33] at H
        have c33b0:(a0_3 == 0)=true:=beq_iff_eq.mpr c33
        have c33b1:(a0_3 != 0)=false:=bne_eq_false_iff_eq.mpr c33
        clear c33
        by_cases c34:a0_5=0
        ·rw [if_pos c34] at H
         have c34b0:(a0_5 == 0)=true:=beq_iff_eq.mpr c34
         have c34b1:(a0_5 != 0)=false:=bne_eq_false_iff_eq.mpr c34
         clear c34
         by_cases c35:((l0_6.length:Int)=0)
         ·rw [if_pos c35] at H
          have c35b0:((l0_6.length:Int) == 0)=true:=beq_iff_eq.mpr c35
          have c35b1:((l0_6.length:Int) != 0)=false:=bne_eq_false_iff_eq.mpr c35
          clear c35
          by_cases c36:a0_0=2
          ·rw [if_pos c36] at H
           have c36b0:(a0_0 == 2)=true:=beq_iff_eq.mpr c36
           have c36b1:(a0_0 != 2)=false:=bne_eq_false_iff_eq.mpr c36
           clear c36
           by_cases c37:(Int.tmod a0_2 256)=0
           ·rw [if_pos c37] at H
            have c37b0:((Int.tmod a0_2 256) == 0)=true:=beq_iff_eq.mpr c37
            have c37b1:((Int.tmod a0_2 256) != 0)=false:=bne_eq_false_iff_eq.mpr c37
            clear c37
            obtain rfl:=Option.some.inj H
            obtain ⟨hcz38_0,hcz38_1,hcz38_2,hcz38_3,hcz38_4,hcz38_5,hcz38_6,hfz38_0,hfz38_1,hfz38_2,hfz38_3,hfz38_4,hfz38_5,hfz38_6⟩:=zc7 BK115.out
            go_wp2
            go_ret
            exact ⟨ze_,zb_⟩
           ·rw [if_neg c37] at H
            have c37b0:((Int.tmod a0_2 256) == 0)=false:=beq_eq_false_iff_ne.mpr c37
            have c37b1:((Int.tmod a0_2 256) != 0)=true:=bne_iff_ne.mpr c37
            obtain rfl:=Option.some.inj H
            obtain ⟨hcz39_0,hcz39_1,hcz39_2,hcz39_3,hcz39_4,hcz39_5,hcz39_6,hfz39_0,hfz39_1,hfz39_2,hfz39_3,hfz39_4,hfz39_5,hfz39_6⟩:=zc7 BK115.out
            go_wp2
            go_ret
            exact ⟨ze_,zb_⟩
          ·rw [if_neg c36] at H
           have c36b0:(a0_0 == 2)=false:=beq_eq_false_iff_ne.mpr c36
           have c36b1:(a0_0 != 2)=true:=bne_iff_ne.mpr c36
           obtain rfl:=Option.some.inj H
           obtain ⟨hcz40_0,hcz40_1,hcz40_2,hcz40_3,hcz40_4,hcz40_5,hcz40_6,hfz40_0,hfz40_1,hfz40_2,hfz40_3,hfz40_4,hfz40_5,hfz40_6⟩:=zc7 BK115.out
           go_wp2
           go_ret
           exact ⟨ze_,zb_⟩
         ·rw [if_neg c35] at H
          have c35b0:((l0_6.length:Int) == 0)=false:=beq_eq_false_iff_ne.mpr c35
          have c35b1:((l0_6.length:Int) != 0)=true:=bne_iff_ne.mpr c35
          have c35b2:¬ (l0_6=[]):=fun h_=>c35 (by rw [h_];rfl)
          obtain rfl:=Option.some.inj H
          obtain ⟨hcz41_0,hcz41_1,hcz41_2,hcz41_3,hcz41_4,hcz41_5,hcz41_6,hfz41_0,hfz41_1,hfz41_2,hfz41_3,hfz41_4,hfz41_5,hfz41_6⟩:=zc7 BK115.out
          go_wp2
          go_ret
          exact ⟨ze_,zb_⟩
        ·rw [if_neg c34] at H
         have c34b0:(a0_5 == 0)=false:=beq_eq_false_iff_ne.mpr c34
         have c34b1:(a0_5 != 0)=true:=bne_iff_ne.mpr c34
         obtain rfl:=Option.some.inj H
         obtain ⟨hcz42_0,hcz42_1,hcz42_2,hcz42_3,hcz42_4,hcz42_5,hcz42_6,hfz42_0,hfz42_1,hfz42_2,hfz42_3,hfz42_4,hfz42_5,hfz42_6⟩:=zc7 BK115.out
         go_wp2
         go_ret
         exact ⟨ze_,zb_⟩
       ·rw [if_neg c33] at H
        have c33b0:(a0_3 == 0)=false:=beq_eq_false_iff_ne.mpr c33
        have c33b1:(a0_3 != 0)=true:=bne_iff_ne.mpr c33
        obtain rfl:=Option.some.inj H
        obtain ⟨hcz43_0,hcz43_1,hcz43_2,hcz43_3,hcz43_4,hcz43_5,hcz43_6,hfz43_0,hfz43_1,hfz43_2,hfz43_3,hfz43_4,hfz43_5,hfz43_6⟩:=zc7 BK115.out
        go_wp2
        go_ret
        exact ⟨ze_,zb_⟩
      ·rw [if_neg c32] at H
       have c32b0:(a0_2 == 0)=false:=beq_eq_false_iff_ne.mpr c32
       have c32b1:(a0_2 != 0)=true:=bne_iff_ne.mpr c32
       obtain rfl:=Option.some.inj H
       obtain ⟨hcz44_0,hcz44_1,hcz44_2,hcz44_3,hcz44_4,hcz44_5,hcz44_6,hfz44_0,hfz44_1,hfz44_2,hfz44_3,hfz44_4,hfz44_5,hfz44_6⟩:=zc7 BK115.out
       go_wp2
       go_ret
       exact ⟨ze_,zb_⟩
     ·rw [if_neg c31] at H
      have c31b0:(a0_1 == 0)=false:=beq_eq_false_iff_ne.mpr c31
      have c31b1:(a0_1 != 0)=true:=bne_iff_ne.mpr c31
      obtain rfl:=Option.some.inj H
      obtain ⟨hcz45_0,hcz45_1,hcz45_2,hcz45_3,hcz45_4,hcz45_5,hcz45_6,hfz45_0,hfz45_1,hfz45_2,hfz45_3,hfz45_4,hfz45_5,hfz45_6⟩:=zc7 BK115.out
      go_wp2
      go_ret
      exact ⟨ze_,zb_⟩
    ·rw [if_neg c30] at H
     have c30b0:(a0_0 == 0)=false:=beq_eq_false_iff_ne.mpr c30
     have c30b1:(a0_0 != 0)=true:=bne_iff_ne.mpr c30
     by_cases c46:a0_5=0
     ·rw [if_pos c46] at H
      have c46b0:(a0_5 == 0)=true:=beq_iff_eq.mpr c46
      have c46b1:(a0_5 != 0)=false:=bne_eq_false_iff_eq.mpr c46
      clear c46
      replace H:=Option.bind_eq_some_iff.mp H
      obtain ⟨t116,A470,H⟩:=H
      replace H:(if t116=0 then (if a0_0=2 then (if (Int.tmod a0_2 256)=0 then (some 0) else (some 140)) else (some 0)) else (some 140))=some r:=H
      have A47:=zm A470
      clear A470
      by_cases c48:t116=0
      ·rw [if_pos c48] at H
       have c48b0:(t116 == 0)=true:=beq_iff_eq.mpr c48
       have c48b1:(t116 != 0)=false:=bne_eq_false_iff_eq.mpr c48
       clear c48
       by_cases c49:a0_0=2
       ·rw [if_pos c49] at H
        have c49b0:(a0_0 == 2)=true:=beq_iff_eq.mpr c49
        have c49b1:(a0_0 != 2)=false:=bne_eq_false_iff_eq.mpr c49
        clear c49
        by_cases c50:(Int.tmod a0_2 256)=0
        ·rw [if_pos c50] at H
         have c50b0:((Int.tmod a0_2 256) == 0)=true:=beq_iff_eq.mpr c50
         have c50b1:((Int.tmod a0_2 256) != 0)=false:=bne_eq_false_iff_eq.mpr c50
         clear c50
         obtain rfl:=Option.some.inj H
         obtain ⟨hcz51_0,hcz51_1,hcz51_2,hcz51_3,hcz51_4,hcz51_5,hcz51_6,hfz51_0,hfz51_1,hfz51_2,hfz51_3,hfz51_4,hfz51_5,hfz51_6⟩:=zc7 BK115.out
         go_wp2_with (first|((with_reducible refine gate_callee (f:=39) rfl ?_);refine goesL_ (some 108) rfl rfl Try.func39 (by kernel_rfl) rfl #[.slice A0_6 l0_6.length c0_6] rfl (by (try simp only [List.map_toArray,List.map_cons,List.map_nil]);first|done|rfl|(simp only [List.length_drop,List.length_take];rfl)) ?_;(with_reducible refine (extent_Check.calls kj1 _ _ l0_6 t116 _ ?side1 ?side2 A47.out).mono ?_);(case side1=>exact zC HR0_6);(case side2=>exact HC0_6.out);rintro e w52 ⟨rfl,hb⟩;refine ⟨_,rfl,?_⟩;have n0_:=zkB BK115 hb;have n1_:=zkH HB hb;clear BK115 HB;have BK115:=n0_;have HB:=n1_;clear n0_ n1_;(try clear hb);(try clear hb2);(try clear hk);(try clear hi);obtain ⟨hcz53_0,hcz53_1,hcz53_2,hcz53_3,hcz53_4,hcz53_5,hcz53_6,hfz53_0,hfz53_1,hfz53_2,hfz53_3,hfz53_4,hfz53_5,hfz53_6⟩:=zc7 BK115.out))
         go_ret
         exact ⟨ze_,zb_⟩
        ·rw [if_neg c50] at H
         have c50b0:((Int.tmod a0_2 256) == 0)=false:=beq_eq_false_iff_ne.mpr c50
         have c50b1:((Int.tmod a0_2 256) != 0)=true:=bne_iff_ne.mpr c50
         obtain rfl:=Option.some.inj H
         obtain ⟨hcz54_0,hcz54_1,hcz54_2,hcz54_3,hcz54_4,hcz54_5,hcz54_6,hfz54_0,hfz54_1,hfz54_2,hfz54_3,hfz54_4,hfz54_5,hfz54_6⟩:=zc7 BK115.out
         go_wp2_with (first|((with_reducible refine gate_callee (f:=39) rfl ?_);refine goesL_ (some 108) rfl rfl Try.func39 (by kernel_rfl) rfl #[.slice A0_6 l0_6.length c0_6] rfl (by (try simp only [List.map_toArray,List.map_cons,List.map_nil]);first|done|rfl|(simp only [List.length_drop,List.length_take];rfl)) ?_;(with_reducible refine (extent_Check.calls kj1 _ _ l0_6 t116 _ ?side1 ?side2 A47.out).mono ?_);(case side1=>exact zC HR0_6);(case side2=>exact HC0_6.out);rintro e w55 ⟨rfl,hb⟩;refine ⟨_,rfl,?_⟩;have n0_:=zkB BK115 hb;have n1_:=zkH HB hb;clear BK115 HB;have BK115:=n0_;have HB:=n1_;clear n0_ n1_;(try clear hb);(try clear hb2);(try clear hk);(try clear hi);obtain ⟨hcz56_0,hcz56_1,hcz56_2,hcz56_3,hcz56_4,hcz56_5,hcz56_6,hfz56_0,hfz56_1,hfz56_2,hfz56_3,hfz56_4,hfz56_5,hfz56_6⟩:=zc7 BK115.out))
         go_ret
         exact ⟨ze_,zb_⟩
       ·rw [if_neg c49] at H
        have c49b0:(a0_0 == 2)=false:=beq_eq_false_iff_ne.mpr c49
        have c49b1:(a0_0 != 2)=true:=bne_iff_ne.mpr c49
        obtain rfl:=Option.some.inj H
        obtain ⟨hcz57_0,hcz57_1,hcz57_2,hcz57_3,hcz57_4,hcz57_5,hcz57_6,hfz57_0,hfz57_1,hfz57_2,hfz57_3,hfz57_4,hfz57_5,hfz57_6⟩:=zc7 BK115.out
        go_wp2_with (first|((with_reducible refine gate_callee (f:=39) rfl ?_);refine goesL_ (some 108) rfl rfl Try.func39 (by kernel_rfl) rfl #[.slice A0_6 l0_6.length c0_6] rfl (by (try simp only [List.map_toArray,List.map_cons,List.map_nil]);first|done|rfl|(simp only [List.length_drop,List.length_take];rfl)) ?_;(with_reducible refine (extent_Check.calls kj1 _ _ l0_6 t116 _ ?side1 ?side2 A47.out).mono ?_);(case side1=>exact zC HR0_6);(case side2=>exact HC0_6.out);rintro e w58 ⟨rfl,hb⟩;refine ⟨_,rfl,?_⟩;have n0_:=zkB BK115 hb;have n1_:=zkH HB hb;clear BK115 HB;have BK115:=n0_;have HB:=n1_;clear n0_ n1_;(try clear hb);(try clear hb2);(try clear hk);(try clear hi);obtain ⟨hcz59_0,hcz59_1,hcz59_2,hcz59_3,hcz59_4,hcz59_5,hcz59_6,hfz59_0,hfz59_1,hfz59_2,hfz59_3,hfz59_4,hfz59_5,hfz59_6⟩:=zc7 BK115.out))
        go_ret
        exact ⟨ze_,zb_⟩
      ·rw [if_neg c48] at H
       have c48b0:(t116 == 0)=false:=beq_eq_false_iff_ne.mpr c48
       have c48b1:(t116 != 0)=true:=bne_iff_ne.mpr c48
       obtain rfl:=Option.some.inj H
       obtain ⟨hcz60_0,hcz60_1,hcz60_2,hcz60_3,hcz60_4,hcz60_5,hcz60_6,hfz60_0,hfz60_1,hfz60_2,hfz60_3,hfz60_4,hfz60_5,hfz60_6⟩:=zc7 BK115.out
       go_wp2_with (first|((with_reducible refine gate_callee (f:=39) rfl ?_);refine goesL_ (some 108) rfl rfl Try.func39 (by kernel_rfl) rfl #[.slice A0_6 l0_6.length c0_6] rfl (by (try simp only [List.map_toArray,List.map_cons,List.map_nil]);first|done|rfl|(simp only [List.length_drop,List.length_take];rfl)) ?_;(with_reducible refine (extent_Check.calls kj1 _ _ l0_6 t116 _ ?side1 ?side2 A47.out).mono ?_);(case side1=>exact zC HR0_6);(case side2=>exact HC0_6.out);rintro e w61 ⟨rfl,hb⟩;refine ⟨_,rfl,?_⟩;have n0_:=zkB BK115 hb;have n1_:=zkH HB hb;clear BK115 HB;have BK115:=n0_;have HB:=n1_;clear n0_ n1_;(try clear hb);(try clear hb2);(try clear hk);(try clear hi)))
       go_ret
       exact ⟨ze_,zb_⟩
     ·rw [if_neg c46] at H
      have c46b0:(a0_5 == 0)=false:=beq_eq_false_iff_ne.mpr c46
      have c46b1:(a0_5 != 0)=true:=bne_iff_ne.mpr c46
      replace H:=Option.bind_eq_some_iff.mp H
      obtain ⟨t117,A620,H⟩:=H
      replace H:(if t117=true then (if a0_0=2 then (if (Int.tmod a0_2 256)=0 then (some 0) else (some 140)) else (some 0)) else (some 140))=some r:=H
      have A62:=zm A620
      clear A620
      by_cases c63:t117=true
      ·subst c63
       have H1:(if a0_0=2 then (if (Int.tmod a0_2 256)=0 then (some 0) else (some 140)) else (some 0))=some r:=by rw [if_pos rfl] at H;exact H
       clear H
       have H:=H1
       clear H1
       by_cases c64:a0_0=2
       ·rw [if_pos c64] at H
        have c64b0:(a0_0 == 2)=true:=beq_iff_eq.mpr c64
        have c64b1:(a0_0 != 2)=false:=bne_eq_false_iff_eq.mpr c64
        clear c64
        by_cases c65:(Int.tmod a0_2 256)=0
        ·rw [if_pos c65] at H
         have c65b0:((Int.tmod a0_2 256) == 0)=true:=beq_iff_eq.mpr c65
         have c65b1:((Int.tmod a0_2 256) != 0)=false:=bne_eq_false_iff_eq.mpr c65
         clear c65
         obtain rfl:=Option.some.inj H
         obtain ⟨hcz66_0,hcz66_1,hcz66_2,hcz66_3,hcz66_4,hcz66_5,hcz66_6,hfz66_0,hfz66_1,hfz66_2,hfz66_3,hfz66_4,hfz66_5,hfz66_6⟩:=zc7 BK115.out
         go_wp2_with (first|((with_reducible refine gate_callee (f:=40) rfl ?_);refine goesL_ (some 70) rfl rfl Try.func40 (by kernel_rfl) rfl #[.slice A0_6 l0_6.length c0_6] rfl (by (try simp only [List.map_toArray,List.map_cons,List.map_nil]);first|done|rfl|(simp only [List.length_drop,List.length_take];rfl)) ?_;(with_reducible refine (inode_entries.calls kj1 _ _ l0_6 true _ ?side1 ?side2 A62.out).mono ?_);(case side1=>exact zC HR0_6);(case side2=>exact HC0_6.out);rintro e w67 ⟨rfl,hb⟩;refine ⟨_,rfl,?_⟩;have n0_:=zkB BK115 hb;have n1_:=zkH HB hb;clear BK115 HB;have BK115:=n0_;have HB:=n1_;clear n0_ n1_;(try clear hb);(try clear hb2);(try clear hk);(try clear hi);obtain ⟨hcz68_0,hcz68_1,hcz68_2,hcz68_3,hcz68_4,hcz68_5,hcz68_6,hfz68_0,hfz68_1,hfz68_2,hfz68_3,hfz68_4,hfz68_5,hfz68_6⟩:=zc7 BK115.out))
         go_ret
         exact ⟨ze_,zb_⟩
        ·rw [if_neg c65] at H
         have c65b0:((Int.tmod a0_2 256) == 0)=false:=beq_eq_false_iff_ne.mpr c65
         have c65b1:((Int.tmod a0_2 256) != 0)=true:=bne_iff_ne.mpr c65
         obtain rfl:=Option.some.inj H
         obtain ⟨hcz69_0,hcz69_1,hcz69_2,hcz69_3,hcz69_4,hcz69_5,hcz69_6,hfz69_0,hfz69_1,hfz69_2,hfz69_3,hfz69_4,hfz69_5,hfz69_6⟩:=zc7 BK115.out
         go_wp2_with (first|((with_reducible refine gate_callee (f:=40) rfl ?_);refine goesL_ (some 70) rfl rfl Try.func40 (by kernel_rfl) rfl #[.slice A0_6 l0_6.length c0_6] rfl (by (try simp only [List.map_toArray,List.map_cons,List.map_nil]);first|done|rfl|(simp only [List.length_drop,List.length_take];rfl)) ?_;(with_reducible refine (inode_entries.calls kj1 _ _ l0_6 true _ ?side1 ?side2 A62.out).mono ?_);(case side1=>exact zC HR0_6);(case side2=>exact HC0_6.out);rintro e w70 ⟨rfl,hb⟩;refine ⟨_,rfl,?_⟩;have n0_:=zkB BK115 hb;have n1_:=zkH HB hb;clear BK115 HB;have BK115:=n0_;have HB:=n1_;clear n0_ n1_;(try clear hb);(try clear hb2);(try clear hk);(try clear hi);obtain ⟨hcz71_0,hcz71_1,hcz71_2,hcz71_3,hcz71_4,hcz71_5,hcz71_6,hfz71_0,hfz71_1,hfz71_2,hfz71_3,hfz71_4,hfz71_5,hfz71_6⟩:=zc7 BK115.out))
         go_ret
         exact ⟨ze_,zb_⟩
       ·rw [if_neg c64] at H
        have c64b0:(a0_0 == 2)=false:=beq_eq_false_iff_ne.mpr c64
        have c64b1:(a0_0 != 2)=true:=bne_iff_ne.mpr c64
        obtain rfl:=Option.some.inj H
        obtain ⟨hcz72_0,hcz72_1,hcz72_2,hcz72_3,hcz72_4,hcz72_5,hcz72_6,hfz72_0,hfz72_1,hfz72_2,hfz72_3,hfz72_4,hfz72_5,hfz72_6⟩:=zc7 BK115.out
        go_wp2_with (first|((with_reducible refine gate_callee (f:=40) rfl ?_);refine goesL_ (some 70) rfl rfl Try.func40 (by kernel_rfl) rfl #[.slice A0_6 l0_6.length c0_6] rfl (by (try simp only [List.map_toArray,List.map_cons,List.map_nil]);first|done|rfl|(simp only [List.length_drop,List.length_take];rfl)) ?_;(with_reducible refine (inode_entries.calls kj1 _ _ l0_6 true _ ?side1 ?side2 A62.out).mono ?_);(case side1=>exact zC HR0_6);(case side2=>exact HC0_6.out);rintro e w73 ⟨rfl,hb⟩;refine ⟨_,rfl,?_⟩;have n0_:=zkB BK115 hb;have n1_:=zkH HB hb;clear BK115 HB;have BK115:=n0_;have HB:=n1_;clear n0_ n1_;(try clear hb);(try clear hb2);(try clear hk);(try clear hi);obtain ⟨hcz74_0,hcz74_1,hcz74_2,hcz74_3,hcz74_4,hcz74_5,hcz74_6,hfz74_0,hfz74_1,hfz74_2,hfz74_3,hfz74_4,hfz74_5,hfz74_6⟩:=zc7 BK115.out))
        go_ret
        exact ⟨ze_,zb_⟩
      ·replace c63:=Bool.eq_false_iff.mpr c63
       subst c63
       have H1:(some 140)=some r:=by rw [if_neg (show ¬ (false=true) by decide)] at H;exact H
       clear H
       have H:=H1
       clear H1
       obtain rfl:=Option.some.inj H
       obtain ⟨hcz75_0,hcz75_1,hcz75_2,hcz75_3,hcz75_4,hcz75_5,hcz75_6,hfz75_0,hfz75_1,hfz75_2,hfz75_3,hfz75_4,hfz75_5,hfz75_6⟩:=zc7 BK115.out
       go_wp2_with (first|((with_reducible refine gate_callee (f:=40) rfl ?_);refine goesL_ (some 70) rfl rfl Try.func40 (by kernel_rfl) rfl #[.slice A0_6 l0_6.length c0_6] rfl (by (try simp only [List.map_toArray,List.map_cons,List.map_nil]);first|done|rfl|(simp only [List.length_drop,List.length_take];rfl)) ?_;(with_reducible refine (inode_entries.calls kj1 _ _ l0_6 false _ ?side1 ?side2 A62.out).mono ?_);(case side1=>exact zC HR0_6);(case side2=>exact HC0_6.out);rintro e w76 ⟨rfl,hb⟩;refine ⟨_,rfl,?_⟩;have n0_:=zkB BK115 hb;have n1_:=zkH HB hb;clear BK115 HB;have BK115:=n0_;have HB:=n1_;clear n0_ n1_;(try clear hb);(try clear hb2);(try clear hk);(try clear hi)))
       go_ret
       exact ⟨ze_,zb_⟩
   ·replace c29:=Bool.eq_false_iff.mpr c29
    subst c29
    have H1:(some 140)=some r:=by rw [if_neg (show ¬ (false=true) by decide)] at H;exact H
    clear H
    have H:=H1
    clear H1
    obtain rfl:=Option.some.inj H
    go_wp2
    go_ret
    exact ⟨ze_,zb_⟩
end Go.Proofs.Ytjoojmodghpimaa.Print
end
section
namespace Go.Proofs.Ytjoojmodghpimaa.Print
open Go.RowKit Go.Proofs.YtjoojmodghpimaaW.PrintWords Go.Proofs.YtjoojmodghpimaaW.PrintLast Go.Proofs.YtjoojmodghpimaaW.PrintMore
attribute [local go_sem] max2_int min2_int max_two min_two max_three min_three max_four min_four   -- for this text's walks alone
attribute [local go_sem ↓] Go.Proofs.Ytjoojmodghpimaa.Sem.isSome_setCell
attribute [local go_sem] Go.Instr.field Go.asAgg
set_option linter.unusedVariables false
set_option linter.unusedSimpArgs false
-- NOT PRINTED: function 28 (inode_headWidths)
-- NOT PRINTED: function 29 (inode_rootWidths)
def seal_total.l0:Nat → Int → List Int → Int → Int → Option (Int × Int)
 | 0,_,_,_,_=>none
 | k + 1,x4,x10,x11,x12=>if x12 < x11 then (if 0≤x12 then (if x12 < (x10.length:Int) then (if (rd x10 x12) < 1 then (some (0,1)) else (if (rd x10 x12) > 64 then (some (0,1)) else (seal_total.l0 k (wrap64 (x4 + (rd x10 x12))) x10 x11 (wrap64 (x12 + 1))))) else (none)) else (none)) else (some (x4,0))
def seal_total.f (k:Nat) (l0:List Int):Option (Int × Int):=if (l0.length:Int) > 64 then (some (0,1)) else (seal_total.l0 k 0 l0 (l0.length:Int) 0)
theorem seal_total.mono_l:∀ k,(∀ y0 y1 y2 y3,LeO (seal_total.l0 k y0 y1 y2 y3) (seal_total.l0 (k + 1) y0 y1 y2 y3))
 | 0=>fun _ _ _ _ r h=>by simp [seal_total.l0] at h
 | k + 1=>by
  have ih0:=seal_total.mono_l k
  ·intro y0 y1 y2 y3
   unfold seal_total.l0
   repeat' first
   | (with_reducible exact ih0 _ _ _ _)
   | (with_reducible exact LeO.refl _)
   | (with_reducible exact LeO.none _)
   | (with_reducible refine LeO.ite ?_ ?_)
   | (with_reducible refine LeO.bind ?_ (fun _=>?_))
   | exact ih0 _ _ _ _
   | exact LeO.none _
   | refine LeO.ite ?_ ?_
   | refine LeO.bind ?_ (fun _=>?_)
theorem seal_total.mono:∀ a0 k,LeO (seal_total.f k a0) (seal_total.f (k + 1) a0):=by
 intro a0 k
 have ih0:=seal_total.mono_l k
 unfold seal_total.f
 repeat' first
   | (with_reducible exact ih0 _ _ _ _)
   | (with_reducible exact LeO.refl _)
   | (with_reducible exact LeO.none _)
   | (with_reducible refine LeO.ite ?_ ?_)
   | (with_reducible refine LeO.bind ?_ (fun _=>?_))
   | exact ih0 _ _ _ _
   | exact LeO.none _
   | refine LeO.ite ?_ ?_
   | refine LeO.bind ?_ (fun _=>?_)
set_option maxHeartbeats 8000000 in
set_option maxRecDepth 100000 in
theorem seal_total.calls (k:Nat) (A0:Option Addr) (c0:Nat) (l0:List Int) (r1:Int) (r2:Int) (w:World) (hr0:Kd.C (Kd.int .i64) w A0 l0.length l0) (hc0:l0.length≤c0) (h:seal_total.f k l0=some (r1,r2)) :
  Calls Try.prog 49 #[.slice A0 l0.length c0] w fun e w'=>e=.returned (.tuple #[.int .i64 r1,.int .i64 r2])∧Drawn0 w w':=by
 have HR0:=zm hr0
 have HC0:=zm hc0
 clear hr0 hc0
 have H:(if (l0.length:Int) > 64 then (some (0,1)) else (seal_total.l0 k 0 l0 (l0.length:Int) 0))=some (r1,r2):=h
 clear h
 by_cases c2:(l0.length:Int) > 64
 ·rw [if_pos c2] at H
  have c2b0:decide (64 < (l0.length:Int))=true:=decide_eq_true c2
  have c2b1:decide (64 < l0.length)=true:=decide_eq_true (by omega)
  clear c2
  simp only [Option.some.injEq,Prod.mk.injEq] at H
  obtain ⟨rfl,rfl⟩:=H
  go_enter Try.func49,Try.ntmps49
  go_wp2
  go_ret2
  exact ⟨by first|rfl|(simp;done)|(simp [*];done),by repeat (first|exact Drawn0.refl _|apply Drawn0.step)⟩
 ·rw [if_neg c2] at H
  have c2b0:decide (64 < (l0.length:Int))=false:=decide_eq_false c2
  have c2b1:decide (64 < l0.length)=false:=decide_eq_false (by omega)
  clear c2
  have H':=zm H
  clear H
  go_enter Try.func49,Try.ntmps49
  go_wp2
  go_loopg [4,12] k (fun kq v4 v12 w'=>∃ (x4_1:Int) (x12_1:Int),v4=.int .i64 x4_1∧v12=.int .i64 x12_1∧Aside0 (seal_total.l0 kq x4_1 l0 (l0.length:Int) x12_1=some (r1,r2))∧Aside0 (kq≤k)∧Drawn0 w w')
  case atStart=>exact ⟨(0),(0),zs_,zs_,H',⟨Nat.le_refl _⟩,by repeat (first|exact Drawn0.refl _|apply Drawn0.step)⟩
  case round =>
   clear H'
   try clear c2
   try clear c2b0
   try clear c2b1
   try clear p2
   obtain ⟨x4_1,x12_1,rfl,rfl,HA,HK1,⟨m1,rfl⟩⟩:=hrel
   cases gk with
   | zero=>exact absurd HA.out (by simp [seal_total.l0])
   | succ k1 =>
    have H:=HA.out
    clear HA
    simp only [seal_total.l0] at H
    by_cases c3:x12_1 < (l0.length:Int)
    ·rw [if_pos c3] at H
     have c3b0:decide (x12_1 < (l0.length:Int))=true:=decide_eq_true c3
     clear c3
     by_cases c4:0≤x12_1
     ·rw [if_pos c4] at H
      have c4b0:decide (0≤x12_1)=true:=decide_eq_true c4
      clear c4
      by_cases c5:x12_1 < (l0.length:Int)
      ·rw [if_pos c5] at H
       have c5b0:decide (x12_1 < (l0.length:Int))=true:=decide_eq_true c5
       clear c5
       by_cases c6:(rd l0 x12_1) < 1
       ·rw [if_pos c6] at H
        have c6b0:decide ((rd l0 x12_1) < 1)=true:=decide_eq_true c6
        clear c6
        simp only [Option.some.injEq,Prod.mk.injEq] at H
        obtain ⟨rfl,rfl⟩:=H
        have p118:0≤(x12_1:Int):=za_
        have q118:x12_1 < (l0.length:Int):=za_
        obtain ⟨ad118,e118,hx118_0⟩:=Kd.at_int HR0.out x12_1 p118 q118
        cases e118
        replace p118:=eq_true p118
        replace q118:=eq_true q118
        go_wp2
        go_ret2
        exact ⟨by first|rfl|(simp;done)|(simp [*];done),by repeat (first|exact Drawn0.refl _|apply Drawn0.step)⟩
       ·rw [if_neg c6] at H
        have c6b0:decide ((rd l0 x12_1) < 1)=false:=decide_eq_false c6
        clear c6
        by_cases c7:(rd l0 x12_1) > 64
        ·rw [if_pos c7] at H
         have c7b0:decide (64 < (rd l0 x12_1))=true:=decide_eq_true c7
         clear c7
         simp only [Option.some.injEq,Prod.mk.injEq] at H
         obtain ⟨rfl,rfl⟩:=H
         have p118:0≤(x12_1:Int):=za_
         have q118:x12_1 < (l0.length:Int):=za_
         obtain ⟨ad118,e118,hx118_0⟩:=Kd.at_int HR0.out x12_1 p118 q118
         cases e118
         replace p118:=eq_true p118
         replace q118:=eq_true q118
         go_wp2
         go_ret2
         exact ⟨by first|rfl|(simp;done)|(simp [*];done),by repeat (first|exact Drawn0.refl _|apply Drawn0.step)⟩
        ·rw [if_neg c7] at H
         have c7b0:decide (64 < (rd l0 x12_1))=false:=decide_eq_false c7
         clear c7
         have H':=zm H
         clear H
         have p118:0≤(x12_1:Int):=za_
         have q118:x12_1 < (l0.length:Int):=za_
         obtain ⟨ad118,e118,hx118_0⟩:=Kd.at_int HR0.out x12_1 p118 q118
         cases e118
         replace p118:=eq_true p118
         replace q118:=eq_true q118
         go_wp2
         go_roundg k1
         case measure=>have:=HK1.out;omega
         case rel=>exact ⟨(wrap64 (x4_1 + (rd l0 x12_1))),(wrap64 (x12_1 + 1)),zs_,zs_,H',⟨by have:=HK1.out;omega⟩,by repeat (first|exact Drawn0.refl _|apply Drawn0.step)⟩
      ·rw [if_neg c5] at H
       exact absurd H (by simp)
     ·rw [if_neg c4] at H
      exact absurd H (by simp)
    ·rw [if_neg c3] at H
     have c3b0:decide (x12_1 < (l0.length:Int))=false:=decide_eq_false c3
     clear c3
     simp only [Option.some.injEq,Prod.mk.injEq] at H
     obtain ⟨rfl,rfl⟩:=H
     go_wp2
     go_ret2
     exact ⟨by first|rfl|(simp;done)|(simp [*];done),by repeat (first|exact Drawn0.refl _|apply Drawn0.step)⟩
def seal_Width.f (k:Nat) (l0:List Int):Option (Int × Int):=(seal_total.f k l0).bind fun bt119=>(some (wrap64 (Int.tdiv (wrap64 (bt119.1 + 7)) 8),bt119.2))
theorem seal_Width.mono:∀ a0 k,LeO (seal_Width.f k a0) (seal_Width.f (k + 1) a0):=by
 intro a0 k
 unfold seal_Width.f
 repeat' first
   | (with_reducible exact seal_total.mono _ _)
   | (with_reducible exact LeO.refl _)
   | (with_reducible exact LeO.none _)
   | (with_reducible refine LeO.ite ?_ ?_)
   | (with_reducible refine LeO.bind ?_ (fun _=>?_))
   | exact seal_total.mono _ _
   | exact LeO.none _
   | refine LeO.ite ?_ ?_
   | refine LeO.bind ?_ (fun _=>?_)
set_option maxHeartbeats 8000000 in
set_option maxRecDepth 100000 in
theorem seal_Width.calls (k:Nat) (A0:Option Addr) (c0:Nat) (l0:List Int) (r1:Int) (r2:Int) (w:World) (hr0:Kd.C (Kd.int .i64) w A0 l0.length l0) (hc0:l0.length≤c0) (h:seal_Width.f k l0=some (r1,r2)) :
  Calls Try.prog 31 #[.slice A0 l0.length c0] w fun e w'=>e=.returned (.tuple #[.int .i64 r1,.int .i64 r2])∧Drawn0 w w':=by
 have HR0:=zm hr0
 have HC0:=zm hc0
 clear hr0 hc0
 have H:((seal_total.f k l0).bind fun bt119=>(some (wrap64 (Int.tdiv (wrap64 (bt119.1 + 7)) 8),bt119.2)))=some (r1,r2):=h
 clear h
 replace H:=Option.bind_eq_some_iff.mp H
 obtain ⟨⟨t119,t120⟩,A20,H⟩:=H
 replace H:(some (wrap64 (Int.tdiv (wrap64 (t119 + 7)) 8),t120))=some (r1,r2):=H
 have A2:=zm A20
 clear A20
 simp only [Option.some.injEq,Prod.mk.injEq] at H
 obtain ⟨rfl,rfl⟩:=H
 go_enter Try.func31,Try.ntmps31
 go_wp2_with (first|((with_reducible refine gate_callee (f:=49) rfl ?_);refine goesL_ (some 8) rfl rfl Try.func49 (by kernel_rfl) rfl #[.slice A0 l0.length c0] rfl (by (try simp only [List.map_toArray,List.map_cons,List.map_nil]);first|done|rfl|(simp only [List.length_drop,List.length_take];rfl)) ?_;(with_reducible refine (seal_total.calls k _ _ l0 t119 t120 _ ?side1 ?side2 A2.out).mono ?_);(case side1=>repeat (first|exact HR0.out|(with_reducible refine Kd.C_alloc ?_ _)|(with_reducible refine Kd.C_drewN ?_ _)|(with_reducible refine Kd.C_drew ?_)));(case side2=>exact HC0.out);rintro e w' ⟨rfl,⟨nd,rfl⟩⟩;refine ⟨_,rfl,?_⟩))
 go_ret2
 exact ⟨by first|rfl|(simp;done)|(simp [*];done),by repeat (first|exact Drawn0.refl _|apply Drawn0.step)⟩
def bits_Len64.j0:Nat → Int → Int → Option (Int)
 | 0,_,_=>none
 | k + 1,x0,x2=>if x0 ≥ 65536 then (if (x0 / 65536) ≥ 256 then (if 0≤(((x0 / 65536) / 256) % 256) then (if (((x0 / 65536) / 256) % 256) < 256 then (some (wrap64 ((wrap64 ((wrap64 (x2 + 16)) + 8)) + (wrap64 (bt (⟨#[0,1,2,2,3,3,3,3,4,4,4,4,4,4,4,4,5,5,5,5,5,5,5,5,5,5,5,5,5,5,5,5,6,6,6,6,6,6,6,6,6,6,6,6,6,6,6,6,6,6,6,6,6,6,6,6,6,6,6,6,6,6,6,6,7,7,7,7,7,7,7,7,7,7,7,7,7,7,7,7,7,7,7,7,7,7,7,7,7,7,7,7,7,7,7,7,7,7,7,7,7,7,7,7,7,7,7,7,7,7,7,7,7,7,7,7,7,7,7,7,7,7,7,7,7,7,7,7,8,8,8,8,8,8,8,8,8,8,8,8,8,8,8,8,8,8,8,8,8,8,8,8,8,8,8,8,8,8,8,8,8,8,8,8,8,8,8,8,8,8,8,8,8,8,8,8,8,8,8,8,8,8,8,8,8,8,8,8,8,8,8,8,8,8,8,8,8,8,8,8,8,8,8,8,8,8,8,8,8,8,8,8,8,8,8,8,8,8,8,8,8,8,8,8,8,8,8,8,8,8,8,8,8,8,8,8,8,8,8,8,8,8,8,8,8,8,8,8,8,8,8,8,8,8,8,8]⟩:ByteArray) (((x0 / 65536) / 256) % 256)))))) else (none)) else (none)) else (if 0≤((x0 / 65536) % 256) then (if ((x0 / 65536) % 256) < 256 then (some (wrap64 ((wrap64 (x2 + 16)) + (wrap64 (bt (⟨#[0,1,2,2,3,3,3,3,4,4,4,4,4,4,4,4,5,5,5,5,5,5,5,5,5,5,5,5,5,5,5,5,6,6,6,6,6,6,6,6,6,6,6,6,6,6,6,6,6,6,6,6,6,6,6,6,6,6,6,6,6,6,6,6,7,7,7,7,7,7,7,7,7,7,7,7,7,7,7,7,7,7,7,7,7,7,7,7,7,7,7,7,7,7,7,7,7,7,7,7,7,7,7,7,7,7,7,7,7,7,7,7,7,7,7,7,7,7,7,7,7,7,7,7,7,7,7,7,8,8,8,8,8,8,8,8,8,8,8,8,8,8,8,8,8,8,8,8,8,8,8,8,8,8,8,8,8,8,8,8,8,8,8,8,8,8,8,8,8,8,8,8,8,8,8,8,8,8,8,8,8,8,8,8,8,8,8,8,8,8,8,8,8,8,8,8,8,8,8,8,8,8,8,8,8,8,8,8,8,8,8,8,8,8,8,8,8,8,8,8,8,8,8,8,8,8,8,8,8,8,8,8,8,8,8,8,8,8,8,8,8,8,8,8,8,8,8,8,8,8,8,8,8,8,8,8]⟩:ByteArray) ((x0 / 65536) % 256)))))) else (none)) else (none))) else (if x0 ≥ 256 then (if 0≤((x0 / 256) % 256) then (if ((x0 / 256) % 256) < 256 then (some (wrap64 ((wrap64 (x2 + 8)) + (wrap64 (bt (⟨#[0,1,2,2,3,3,3,3,4,4,4,4,4,4,4,4,5,5,5,5,5,5,5,5,5,5,5,5,5,5,5,5,6,6,6,6,6,6,6,6,6,6,6,6,6,6,6,6,6,6,6,6,6,6,6,6,6,6,6,6,6,6,6,6,7,7,7,7,7,7,7,7,7,7,7,7,7,7,7,7,7,7,7,7,7,7,7,7,7,7,7,7,7,7,7,7,7,7,7,7,7,7,7,7,7,7,7,7,7,7,7,7,7,7,7,7,7,7,7,7,7,7,7,7,7,7,7,7,8,8,8,8,8,8,8,8,8,8,8,8,8,8,8,8,8,8,8,8,8,8,8,8,8,8,8,8,8,8,8,8,8,8,8,8,8,8,8,8,8,8,8,8,8,8,8,8,8,8,8,8,8,8,8,8,8,8,8,8,8,8,8,8,8,8,8,8,8,8,8,8,8,8,8,8,8,8,8,8,8,8,8,8,8,8,8,8,8,8,8,8,8,8,8,8,8,8,8,8,8,8,8,8,8,8,8,8,8,8,8,8,8,8,8,8,8,8,8,8,8,8,8,8,8,8,8,8]⟩:ByteArray) ((x0 / 256) % 256)))))) else (none)) else (none)) else (if 0≤((x0) % 256) then (if ((x0) % 256) < 256 then (some (wrap64 (x2 + (wrap64 (bt (⟨#[0,1,2,2,3,3,3,3,4,4,4,4,4,4,4,4,5,5,5,5,5,5,5,5,5,5,5,5,5,5,5,5,6,6,6,6,6,6,6,6,6,6,6,6,6,6,6,6,6,6,6,6,6,6,6,6,6,6,6,6,6,6,6,6,7,7,7,7,7,7,7,7,7,7,7,7,7,7,7,7,7,7,7,7,7,7,7,7,7,7,7,7,7,7,7,7,7,7,7,7,7,7,7,7,7,7,7,7,7,7,7,7,7,7,7,7,7,7,7,7,7,7,7,7,7,7,7,7,8,8,8,8,8,8,8,8,8,8,8,8,8,8,8,8,8,8,8,8,8,8,8,8,8,8,8,8,8,8,8,8,8,8,8,8,8,8,8,8,8,8,8,8,8,8,8,8,8,8,8,8,8,8,8,8,8,8,8,8,8,8,8,8,8,8,8,8,8,8,8,8,8,8,8,8,8,8,8,8,8,8,8,8,8,8,8,8,8,8,8,8,8,8,8,8,8,8,8,8,8,8,8,8,8,8,8,8,8,8,8,8,8,8,8,8,8,8,8,8,8,8,8,8,8,8,8,8]⟩:ByteArray) ((x0) % 256)))))) else (none)) else (none)))
def bits_Len64.f (k:Nat) (a0:Int):Option (Int):=if a0 ≥ 4294967296 then (bits_Len64.j0 k (a0 / 4294967296) 32) else (bits_Len64.j0 k a0 0)
theorem bits_Len64.mono_l:∀ k,(∀ y0 y1,LeO (bits_Len64.j0 k y0 y1) (bits_Len64.j0 (k + 1) y0 y1))
 | 0=>fun _ _ r h=>by simp [bits_Len64.j0] at h
 | k + 1=>by
  have ih0:=bits_Len64.mono_l k
  ·intro y0 y1
   unfold bits_Len64.j0
   repeat' first
   | (with_reducible exact ih0 _ _)
   | (with_reducible exact LeO.refl _)
   | (with_reducible exact LeO.none _)
   | (with_reducible refine LeO.ite ?_ ?_)
   | (with_reducible refine LeO.bind ?_ (fun _=>?_))
   | exact ih0 _ _
   | exact LeO.none _
   | refine LeO.ite ?_ ?_
   | refine LeO.bind ?_ (fun _=>?_)
theorem bits_Len64.mono:∀ a0 k,LeO (bits_Len64.f k a0) (bits_Len64.f (k + 1) a0):=by
 intro a0 k
 have ih0:=bits_Len64.mono_l k
 unfold bits_Len64.f
 repeat' first
   | (with_reducible exact ih0 _ _)
   | (with_reducible exact LeO.refl _)
   | (with_reducible exact LeO.none _)
   | (with_reducible refine LeO.ite ?_ ?_)
   | (with_reducible refine LeO.bind ?_ (fun _=>?_))
   | exact ih0 _ _
   | exact LeO.none _
   | refine LeO.ite ?_ ?_
   | refine LeO.bind ?_ (fun _=>?_)
set_option maxHeartbeats 8000000 in
set_option maxRecDepth 100000 in
theorem bits_Len64.calls (k:Nat) (a0:Int) (r:Int) (w:World) (h:bits_Len64.f k a0=some r) :
  Calls Try.prog 48 #[.int .u64 a0] w fun e w'=>e=.returned (.int .i64 r)∧Drawn0 w w':=by
 have H:(if a0 ≥ 4294967296 then (bits_Len64.j0 k (a0 / 4294967296) 32) else (bits_Len64.j0 k a0 0))=some r:=h
 clear h
 have HC2:=zm H
 clear H
 go_enter Try.func48,Try.ntmps48
 go_upto_if 4 with (fail)
 go_cut [0,2] (fun v0 v2 wc=>∃ (kq:Nat) (x0_1:Int) (x2_1:Int),v0=.int .u64 x0_1∧v2=.int .i64 x2_1∧Aside0 (bits_Len64.j0 kq x0_1 x2_1=some r)∧Aside0 (kq≤k)∧Drawn0 w wc)
 case first =>
  have H:=HC2.out
  clear HC2
  by_cases c3:a0 ≥ 4294967296
  ·rw [if_pos c3] at H
   have c3b0:decide (4294967296≤a0)=true:=decide_eq_true c3
   clear c3
   (first|rw [c3b0]|(simp only [i64_w,i32_w];rw [c3b0])|skip)
   have H':=zm H
   clear H
   go_wp2
   go_meet
   case rel=>exact ⟨_,(a0 / 4294967296),(32),zs_,zs_,H',⟨by first|omega|exact Nat.le_refl _⟩,by repeat (first|exact Drawn0.refl _|apply Drawn0.step)⟩
  ·rw [if_neg c3] at H
   have c3b0:decide (4294967296≤a0)=false:=decide_eq_false c3
   clear c3
   (first|rw [c3b0]|(simp only [i64_w,i32_w];rw [c3b0])|skip)
   have H':=zm H
   clear H
   go_wp2
   go_meet
   case rel=>exact ⟨_,(a0),(0),zs_,zs_,H',⟨by first|omega|exact Nat.le_refl _⟩,by repeat (first|exact Drawn0.refl _|apply Drawn0.step)⟩
 case rest =>
  clear HC2
  try clear p2
  try clear c3
  try clear c3b0
  obtain ⟨kq,x0_1,x2_1,rfl,rfl,HA,HJ1,⟨mc1,rfl⟩⟩:=hcut
  cases kq with
  | zero=>exact absurd HA.out (by simp [bits_Len64.j0])
  | succ kj1 =>
   have H:=HA.out
   clear HA
   simp only [bits_Len64.j0] at H
   by_cases c4:x0_1 ≥ 65536
   ·rw [if_pos c4] at H
    have c4b0:decide (65536≤x0_1)=true:=decide_eq_true c4
    clear c4
    by_cases c5:(x0_1 / 65536) ≥ 256
    ·rw [if_pos c5] at H
     have c5b0:decide (256≤(x0_1 / 65536))=true:=decide_eq_true c5
     clear c5
     obtain ⟨ji6,hji6⟩:∃ j_:Int,(((x0_1 / 65536) / 256) % 256)=j_:=⟨_,rfl⟩
     replace H:(if 0≤(ji6) then (if (ji6) < 256 then (some (wrap64 ((wrap64 ((wrap64 (x2_1 + 16)) + 8)) + (wrap64 (bt (⟨#[0,1,2,2,3,3,3,3,4,4,4,4,4,4,4,4,5,5,5,5,5,5,5,5,5,5,5,5,5,5,5,5,6,6,6,6,6,6,6,6,6,6,6,6,6,6,6,6,6,6,6,6,6,6,6,6,6,6,6,6,6,6,6,6,7,7,7,7,7,7,7,7,7,7,7,7,7,7,7,7,7,7,7,7,7,7,7,7,7,7,7,7,7,7,7,7,7,7,7,7,7,7,7,7,7,7,7,7,7,7,7,7,7,7,7,7,7,7,7,7,7,7,7,7,7,7,7,7,8,8,8,8,8,8,8,8,8,8,8,8,8,8,8,8,8,8,8,8,8,8,8,8,8,8,8,8,8,8,8,8,8,8,8,8,8,8,8,8,8,8,8,8,8,8,8,8,8,8,8,8,8,8,8,8,8,8,8,8,8,8,8,8,8,8,8,8,8,8,8,8,8,8,8,8,8,8,8,8,8,8,8,8,8,8,8,8,8,8,8,8,8,8,8,8,8,8,8,8,8,8,8,8,8,8,8,8,8,8,8,8,8,8,8,8,8,8,8,8,8,8,8,8,8,8,8,8]⟩:ByteArray) (ji6)))))) else (none)) else (none))=some r:=by first|(rw [hji6] at H;exact H)|(simp only [hji6] at H ⊢;exact H)
     by_cases c7:0≤(ji6)
     ·rw [if_pos c7] at H
      have c7b0:decide (0≤(ji6))=true:=decide_eq_true c7
      clear c7
      by_cases c8:(ji6) < 256
      ·rw [if_pos c8] at H
       have c8b0:decide ((ji6) < 256)=true:=decide_eq_true c8
       clear c8
       obtain rfl:=Option.some.inj H
       have p9:0≤((ji6):Int):=za_
       have q9:(ji6) < (256:Int):=za_
       have hx9:=bt_at (⟨#[0,1,2,2,3,3,3,3,4,4,4,4,4,4,4,4,5,5,5,5,5,5,5,5,5,5,5,5,5,5,5,5,6,6,6,6,6,6,6,6,6,6,6,6,6,6,6,6,6,6,6,6,6,6,6,6,6,6,6,6,6,6,6,6,7,7,7,7,7,7,7,7,7,7,7,7,7,7,7,7,7,7,7,7,7,7,7,7,7,7,7,7,7,7,7,7,7,7,7,7,7,7,7,7,7,7,7,7,7,7,7,7,7,7,7,7,7,7,7,7,7,7,7,7,7,7,7,7,8,8,8,8,8,8,8,8,8,8,8,8,8,8,8,8,8,8,8,8,8,8,8,8,8,8,8,8,8,8,8,8,8,8,8,8,8,8,8,8,8,8,8,8,8,8,8,8,8,8,8,8,8,8,8,8,8,8,8,8,8,8,8,8,8,8,8,8,8,8,8,8,8,8,8,8,8,8,8,8,8,8,8,8,8,8,8,8,8,8,8,8,8,8,8,8,8,8,8,8,8,8,8,8,8,8,8,8,8,8,8,8,8,8,8,8,8,8,8,8,8,8,8,8,8,8,8,8]⟩:ByteArray) (ji6)
       replace p9:=eq_true p9
       replace q9:=eq_true q9
       go_wp2
       go_ret
       exact ⟨by first|rfl|(simp;done)|(simp only [← hji6] <;> (first|rfl|simp))|(simp [*];done),by repeat (first|exact Drawn0.refl _|apply Drawn0.step)⟩
      ·rw [if_neg c8] at H
       exact absurd H (by simp)
     ·rw [if_neg c7] at H
      exact absurd H (by simp)
    ·rw [if_neg c5] at H
     have c5b0:decide (256≤(x0_1 / 65536))=false:=decide_eq_false c5
     clear c5
     obtain ⟨ji10,hji10⟩:∃ j_:Int,((x0_1 / 65536) % 256)=j_:=⟨_,rfl⟩
     replace H:(if 0≤(ji10) then (if (ji10) < 256 then (some (wrap64 ((wrap64 (x2_1 + 16)) + (wrap64 (bt (⟨#[0,1,2,2,3,3,3,3,4,4,4,4,4,4,4,4,5,5,5,5,5,5,5,5,5,5,5,5,5,5,5,5,6,6,6,6,6,6,6,6,6,6,6,6,6,6,6,6,6,6,6,6,6,6,6,6,6,6,6,6,6,6,6,6,7,7,7,7,7,7,7,7,7,7,7,7,7,7,7,7,7,7,7,7,7,7,7,7,7,7,7,7,7,7,7,7,7,7,7,7,7,7,7,7,7,7,7,7,7,7,7,7,7,7,7,7,7,7,7,7,7,7,7,7,7,7,7,7,8,8,8,8,8,8,8,8,8,8,8,8,8,8,8,8,8,8,8,8,8,8,8,8,8,8,8,8,8,8,8,8,8,8,8,8,8,8,8,8,8,8,8,8,8,8,8,8,8,8,8,8,8,8,8,8,8,8,8,8,8,8,8,8,8,8,8,8,8,8,8,8,8,8,8,8,8,8,8,8,8,8,8,8,8,8,8,8,8,8,8,8,8,8,8,8,8,8,8,8,8,8,8,8,8,8,8,8,8,8,8,8,8,8,8,8,8,8,8,8,8,8,8,8,8,8,8,8]⟩:ByteArray) (ji10)))))) else (none)) else (none))=some r:=by first|(rw [hji10] at H;exact H)|(simp only [hji10] at H ⊢;exact H)
     by_cases c11:0≤(ji10)
     ·rw [if_pos c11] at H
      have c11b0:decide (0≤(ji10))=true:=decide_eq_true c11
      clear c11
      by_cases c12:(ji10) < 256
      ·rw [if_pos c12] at H
       have c12b0:decide ((ji10) < 256)=true:=decide_eq_true c12
       clear c12
       obtain rfl:=Option.some.inj H
       have p13:0≤((ji10):Int):=za_
       have q13:(ji10) < (256:Int):=za_
       have hx13:=bt_at (⟨#[0,1,2,2,3,3,3,3,4,4,4,4,4,4,4,4,5,5,5,5,5,5,5,5,5,5,5,5,5,5,5,5,6,6,6,6,6,6,6,6,6,6,6,6,6,6,6,6,6,6,6,6,6,6,6,6,6,6,6,6,6,6,6,6,7,7,7,7,7,7,7,7,7,7,7,7,7,7,7,7,7,7,7,7,7,7,7,7,7,7,7,7,7,7,7,7,7,7,7,7,7,7,7,7,7,7,7,7,7,7,7,7,7,7,7,7,7,7,7,7,7,7,7,7,7,7,7,7,8,8,8,8,8,8,8,8,8,8,8,8,8,8,8,8,8,8,8,8,8,8,8,8,8,8,8,8,8,8,8,8,8,8,8,8,8,8,8,8,8,8,8,8,8,8,8,8,8,8,8,8,8,8,8,8,8,8,8,8,8,8,8,8,8,8,8,8,8,8,8,8,8,8,8,8,8,8,8,8,8,8,8,8,8,8,8,8,8,8,8,8,8,8,8,8,8,8,8,8,8,8,8,8,8,8,8,8,8,8,8,8,8,8,8,8,8,8,8,8,8,8,8,8,8,8,8,8]⟩:ByteArray) (ji10)
       replace p13:=eq_true p13
       replace q13:=eq_true q13
       go_wp2
       go_ret
       exact ⟨by first|rfl|(simp;done)|(simp only [← hji10] <;> (first|rfl|simp))|(simp [*];done),by repeat (first|exact Drawn0.refl _|apply Drawn0.step)⟩
      ·rw [if_neg c12] at H
       exact absurd H (by simp)
     ·rw [if_neg c11] at H
      exact absurd H (by simp)
   ·rw [if_neg c4] at H
    have c4b0:decide (65536≤x0_1)=false:=decide_eq_false c4
    clear c4
    by_cases c14:x0_1 ≥ 256
    ·rw [if_pos c14] at H
     have c14b0:decide (256≤x0_1)=true:=decide_eq_true c14
     clear c14
     obtain ⟨ji15,hji15⟩:∃ j_:Int,((x0_1 / 256) % 256)=j_:=⟨_,rfl⟩
     replace H:(if 0≤(ji15) then (if (ji15) < 256 then (some (wrap64 ((wrap64 (x2_1 + 8)) + (wrap64 (bt (⟨#[0,1,2,2,3,3,3,3,4,4,4,4,4,4,4,4,5,5,5,5,5,5,5,5,5,5,5,5,5,5,5,5,6,6,6,6,6,6,6,6,6,6,6,6,6,6,6,6,6,6,6,6,6,6,6,6,6,6,6,6,6,6,6,6,7,7,7,7,7,7,7,7,7,7,7,7,7,7,7,7,7,7,7,7,7,7,7,7,7,7,7,7,7,7,7,7,7,7,7,7,7,7,7,7,7,7,7,7,7,7,7,7,7,7,7,7,7,7,7,7,7,7,7,7,7,7,7,7,8,8,8,8,8,8,8,8,8,8,8,8,8,8,8,8,8,8,8,8,8,8,8,8,8,8,8,8,8,8,8,8,8,8,8,8,8,8,8,8,8,8,8,8,8,8,8,8,8,8,8,8,8,8,8,8,8,8,8,8,8,8,8,8,8,8,8,8,8,8,8,8,8,8,8,8,8,8,8,8,8,8,8,8,8,8,8,8,8,8,8,8,8,8,8,8,8,8,8,8,8,8,8,8,8,8,8,8,8,8,8,8,8,8,8,8,8,8,8,8,8,8,8,8,8,8,8,8]⟩:ByteArray) (ji15)))))) else (none)) else (none))=some r:=by first|(rw [hji15] at H;exact H)|(simp only [hji15] at H ⊢;exact H)
     by_cases c16:0≤(ji15)
     ·rw [if_pos c16] at H
      have c16b0:decide (0≤(ji15))=true:=decide_eq_true c16
      clear c16
      by_cases c17:(ji15) < 256
      ·rw [if_pos c17] at H
       have c17b0:decide ((ji15) < 256)=true:=decide_eq_true c17
       clear c17
       obtain rfl:=Option.some.inj H
       have p18:0≤((ji15):Int):=za_
       have q18:(ji15) < (256:Int):=za_
       have hx18:=bt_at (⟨#[0,1,2,2,3,3,3,3,4,4,4,4,4,4,4,4,5,5,5,5,5,5,5,5,5,5,5,5,5,5,5,5,6,6,6,6,6,6,6,6,6,6,6,6,6,6,6,6,6,6,6,6,6,6,6,6,6,6,6,6,6,6,6,6,7,7,7,7,7,7,7,7,7,7,7,7,7,7,7,7,7,7,7,7,7,7,7,7,7,7,7,7,7,7,7,7,7,7,7,7,7,7,7,7,7,7,7,7,7,7,7,7,7,7,7,7,7,7,7,7,7,7,7,7,7,7,7,7,8,8,8,8,8,8,8,8,8,8,8,8,8,8,8,8,8,8,8,8,8,8,8,8,8,8,8,8,8,8,8,8,8,8,8,8,8,8,8,8,8,8,8,8,8,8,8,8,8,8,8,8,8,8,8,8,8,8,8,8,8,8,8,8,8,8,8,8,8,8,8,8,8,8,8,8,8,8,8,8,8,8,8,8,8,8,8,8,8,8,8,8,8,8,8,8,8,8,8,8,8,8,8,8,8,8,8,8,8,8,8,8,8,8,8,8,8,8,8,8,8,8,8,8,8,8,8,8]⟩:ByteArray) (ji15)
       replace p18:=eq_true p18
       replace q18:=eq_true q18
       go_wp2
       go_ret
       exact ⟨by first|rfl|(simp;done)|(simp only [← hji15] <;> (first|rfl|simp))|(simp [*];done),by repeat (first|exact Drawn0.refl _|apply Drawn0.step)⟩
      ·rw [if_neg c17] at H
       exact absurd H (by simp)
     ·rw [if_neg c16] at H
      exact absurd H (by simp)
    ·rw [if_neg c14] at H
     have c14b0:decide (256≤x0_1)=false:=decide_eq_false c14
     clear c14
     obtain ⟨ji19,hji19⟩:∃ j_:Int,((x0_1) % 256)=j_:=⟨_,rfl⟩
     replace H:(if 0≤(ji19) then (if (ji19) < 256 then (some (wrap64 (x2_1 + (wrap64 (bt (⟨#[0,1,2,2,3,3,3,3,4,4,4,4,4,4,4,4,5,5,5,5,5,5,5,5,5,5,5,5,5,5,5,5,6,6,6,6,6,6,6,6,6,6,6,6,6,6,6,6,6,6,6,6,6,6,6,6,6,6,6,6,6,6,6,6,7,7,7,7,7,7,7,7,7,7,7,7,7,7,7,7,7,7,7,7,7,7,7,7,7,7,7,7,7,7,7,7,7,7,7,7,7,7,7,7,7,7,7,7,7,7,7,7,7,7,7,7,7,7,7,7,7,7,7,7,7,7,7,7,8,8,8,8,8,8,8,8,8,8,8,8,8,8,8,8,8,8,8,8,8,8,8,8,8,8,8,8,8,8,8,8,8,8,8,8,8,8,8,8,8,8,8,8,8,8,8,8,8,8,8,8,8,8,8,8,8,8,8,8,8,8,8,8,8,8,8,8,8,8,8,8,8,8,8,8,8,8,8,8,8,8,8,8,8,8,8,8,8,8,8,8,8,8,8,8,8,8,8,8,8,8,8,8,8,8,8,8,8,8,8,8,8,8,8,8,8,8,8,8,8,8,8,8,8,8,8,8]⟩:ByteArray) (ji19)))))) else (none)) else (none))=some r:=by first|(rw [hji19] at H;exact H)|(simp only [hji19] at H ⊢;exact H)
     by_cases c20:0≤(ji19)
     ·rw [if_pos c20] at H
      have c20b0:decide (0≤(ji19))=true:=decide_eq_true c20
      clear c20
      by_cases c21:(ji19) < 256
      ·rw [if_pos c21] at H
       have c21b0:decide ((ji19) < 256)=true:=decide_eq_true c21
       clear c21
       obtain rfl:=Option.some.inj H
       have p22:0≤((ji19):Int):=za_
       have q22:(ji19) < (256:Int):=za_
       have hx22:=bt_at (⟨#[0,1,2,2,3,3,3,3,4,4,4,4,4,4,4,4,5,5,5,5,5,5,5,5,5,5,5,5,5,5,5,5,6,6,6,6,6,6,6,6,6,6,6,6,6,6,6,6,6,6,6,6,6,6,6,6,6,6,6,6,6,6,6,6,7,7,7,7,7,7,7,7,7,7,7,7,7,7,7,7,7,7,7,7,7,7,7,7,7,7,7,7,7,7,7,7,7,7,7,7,7,7,7,7,7,7,7,7,7,7,7,7,7,7,7,7,7,7,7,7,7,7,7,7,7,7,7,7,8,8,8,8,8,8,8,8,8,8,8,8,8,8,8,8,8,8,8,8,8,8,8,8,8,8,8,8,8,8,8,8,8,8,8,8,8,8,8,8,8,8,8,8,8,8,8,8,8,8,8,8,8,8,8,8,8,8,8,8,8,8,8,8,8,8,8,8,8,8,8,8,8,8,8,8,8,8,8,8,8,8,8,8,8,8,8,8,8,8,8,8,8,8,8,8,8,8,8,8,8,8,8,8,8,8,8,8,8,8,8,8,8,8,8,8,8,8,8,8,8,8,8,8,8,8,8,8]⟩:ByteArray) (ji19)
       replace p22:=eq_true p22
       replace q22:=eq_true q22
       go_wp2
       go_ret
       exact ⟨by first|rfl|(simp;done)|(simp only [← hji19] <;> (first|rfl|simp))|(simp [*];done),by repeat (first|exact Drawn0.refl _|apply Drawn0.step)⟩
      ·rw [if_neg c21] at H
       exact absurd H (by simp)
     ·rw [if_neg c20] at H
      exact absurd H (by simp)
end Go.Proofs.Ytjoojmodghpimaa.Print
end
section
namespace Go.Proofs.Ytjoojmodghpimaa.Print
open Go.RowKit Go.Proofs.YtjoojmodghpimaaW.PrintWords Go.Proofs.YtjoojmodghpimaaW.PrintLast Go.Proofs.YtjoojmodghpimaaW.PrintMore
attribute [local go_sem] max2_int min2_int max_two min_two max_three min_three max_four min_four   -- for this text's walks alone
attribute [local go_sem ↓] Go.Proofs.Ytjoojmodghpimaa.Sem.isSome_setCell
attribute [local go_sem] Go.Instr.field Go.asAgg
set_option linter.unusedVariables false
set_option linter.unusedSimpArgs false
mutual
def seal_Pack.l0:Nat → List Int → List Int → Int → List Int → Int → Int → Option (List Int × Int)
 | 0,_,_,_,_,_,_=>none
 | k + 1,x1,x8,x9,x28,x29,x30=>if x30 < x29 then (if 0≤x30 then (if x30 < (x28.length:Int) then (if x30 < (x1.length:Int) then ((bits_Len64.f k (rd x1 x30)).bind fun t128=>(if t128 > (rd x28 x30) then (some (([]:List Int),1)) else (seal_Pack.l1 k x1 x8 x9 x30 (rd x28 x30) x28 x29 x30 (rd x28 x30) 0))) else (none)) else (none)) else (none)) else (some (x8,0))
def seal_Pack.l1:Nat → List Int → List Int → Int → Int → Int → List Int → Int → Int → Int → Int → Option (List Int × Int)
 | 0,_,_,_,_,_,_,_,_,_,_=>none
 | k + 1,x1,x8,x9,x10,x11,x28,x29,x30,x42,x43=>if x43 < x42 then (if 0≤(wrap64 (Int.tdiv x9 8)) then (if (wrap64 (Int.tdiv x9 8)) < (x8.length:Int) then (if 0≤x10 then (if x10 < (x1.length:Int) then (if 0≤(wrap64 ((wrap64 (x11 - 1)) - x43)) then (if 0≤(wrap64 (7 - (Int.tmod x9 8))) then (seal_Pack.l1 k x1 (x8.set ((wrap64 (Int.tdiv x9 8)):Int).toNat (Go.bits .or .u8 (rd x8 (wrap64 (Int.tdiv x9 8))) (shl .u8 ((Go.bits .and .u64 (shr .u64 (rd x1 x10) (wrap64 ((wrap64 (x11 - 1)) - x43))) 1) % 256) (wrap64 (7 - (Int.tmod x9 8)))))) (wrap64 (x9 + 1)) x10 x11 x28 x29 x30 x42 (wrap64 (x43 + 1))) else (none)) else (none)) else (none)) else (none)) else (none)) else (none)) else (seal_Pack.l0 k x1 x8 x9 x28 x29 (wrap64 (x30 + 1)))
end
def seal_Pack.f (k:Nat) (l0:List Int) (l1:List Int):Option (List Int × Int):=(seal_Width.f k l0).bind fun bt121=>(if bt121.2=0 then (if (l1.length:Int)=(l0.length:Int) then (if 0≤bt121.1 then (if (bt121.1:Int).toNat≤281474976710656 then (seal_Pack.l0 k l1 (List.replicate (bt121.1:Int).toNat 0) 0 l0 (l0.length:Int) 0) else (none)) else (none)) else (some (([]:List Int),1))) else (some (([]:List Int),bt121.2)))
theorem seal_Pack.mono_l:∀ k,(∀ y0 y1 y2 y3 y4 y5,LeO (seal_Pack.l0 k y0 y1 y2 y3 y4 y5) (seal_Pack.l0 (k + 1) y0 y1 y2 y3 y4 y5))∧(∀ y0 y1 y2 y3 y4 y5 y6 y7 y8 y9,LeO (seal_Pack.l1 k y0 y1 y2 y3 y4 y5 y6 y7 y8 y9) (seal_Pack.l1 (k + 1) y0 y1 y2 y3 y4 y5 y6 y7 y8 y9))
 | 0=>⟨fun _ _ _ _ _ _ r h=>by simp [seal_Pack.l0] at h,fun _ _ _ _ _ _ _ _ _ _ r h=>by simp [seal_Pack.l1] at h⟩
 | k + 1=>by
  obtain ⟨ih0,ih1⟩:=seal_Pack.mono_l k
  refine ⟨?_,?_⟩
  ·intro y0 y1 y2 y3 y4 y5
   unfold seal_Pack.l0
   repeat' first
   | (with_reducible exact ih0 _ _ _ _ _ _)
   | (with_reducible exact ih1 _ _ _ _ _ _ _ _ _ _)
   | (with_reducible exact bits_Len64.mono _ _)
   | (with_reducible exact seal_Width.mono _ _)
   | (with_reducible exact LeO.refl _)
   | (with_reducible exact LeO.none _)
   | (with_reducible refine LeO.ite ?_ ?_)
   | (with_reducible refine LeO.bind ?_ (fun _=>?_))
   | exact ih0 _ _ _ _ _ _
   | exact ih1 _ _ _ _ _ _ _ _ _ _
   | exact bits_Len64.mono _ _
   | exact seal_Width.mono _ _
   | exact LeO.none _
   | refine LeO.ite ?_ ?_
   | refine LeO.bind ?_ (fun _=>?_)
  ·intro y0 y1 y2 y3 y4 y5 y6 y7 y8 y9
   unfold seal_Pack.l1
   repeat' first
   | (with_reducible exact ih0 _ _ _ _ _ _)
   | (with_reducible exact ih1 _ _ _ _ _ _ _ _ _ _)
   | (with_reducible exact bits_Len64.mono _ _)
   | (with_reducible exact seal_Width.mono _ _)
   | (with_reducible exact LeO.refl _)
   | (with_reducible exact LeO.none _)
   | (with_reducible refine LeO.ite ?_ ?_)
   | (with_reducible refine LeO.bind ?_ (fun _=>?_))
   | exact ih0 _ _ _ _ _ _
   | exact ih1 _ _ _ _ _ _ _ _ _ _
   | exact bits_Len64.mono _ _
   | exact seal_Width.mono _ _
   | exact LeO.none _
   | refine LeO.ite ?_ ?_
   | refine LeO.bind ?_ (fun _=>?_)
theorem seal_Pack.mono:∀ a0 a1 k,LeO (seal_Pack.f k a0 a1) (seal_Pack.f (k + 1) a0 a1):=by
 intro a0 a1 k
 obtain ⟨ih0,ih1⟩:=seal_Pack.mono_l k
 unfold seal_Pack.f
 repeat' first
   | (with_reducible exact ih0 _ _ _ _ _ _)
   | (with_reducible exact ih1 _ _ _ _ _ _ _ _ _ _)
   | (with_reducible exact bits_Len64.mono _ _)
   | (with_reducible exact seal_Width.mono _ _)
   | (with_reducible exact LeO.refl _)
   | (with_reducible exact LeO.none _)
   | (with_reducible refine LeO.ite ?_ ?_)
   | (with_reducible refine LeO.bind ?_ (fun _=>?_))
   | exact ih0 _ _ _ _ _ _
   | exact ih1 _ _ _ _ _ _ _ _ _ _
   | exact bits_Len64.mono _ _
   | exact seal_Width.mono _ _
   | exact LeO.none _
   | refine LeO.ite ?_ ?_
   | refine LeO.bind ?_ (fun _=>?_)
def seal_Pack.T16:Bool × List (List Nat × List Nat):=(true,[([],[]),([],[]),([1],[1]),([0,2],[0,2]),([3],[3]),([],[]),([],[]),([5,6],[5,6]),([7],[7]),([],[]),([9],[9]),([],[]),([10,11],[10,11]),([8,12],[8,12]),([13],[13]),([14],[14]),([],[]),([16],[16]),([17],[17]),([15,18],[15,18]),([4,19],[4,19]),([0,2,0,1,2,3,4,5,6,7,8,9,10,11,12,13,14,15,16,17,18,19,20],[0,2]),([21,20,0,1,2,3,4,5,6,7,8,9,10,11,12,13,14,15,16,17,18,19,20],[20,21])])
def seal_Pack.B16:List Nat:=[0,0,2,7,15,0,0,96,224,0,512,0,3584,8160,16352,32736,0,65536,196608,524256,1048575,2097151,4194303]
theorem seal_Pack.tab16:rtab .any (opsOf Try.f30 16)=seal_Pack.T16:=by kernel_rfl
theorem seal_Pack.bits16:waitsOk seal_Pack.T16.2 seal_Pack.B16=true:=by kernel_rfl
set_option maxHeartbeats 8000000 in
set_option maxRecDepth 100000 in
theorem seal_Pack.calls (k:Nat) (A0:Option Addr) (c0:Nat) (l0:List Int) (A1:Option Addr) (c1:Nat) (l1:List Int) (r1:List Int) (r2:Int) (w:World) (hr0:Kd.C (Kd.int .i64) w A0 l0.length l0) (hc0:l0.length≤c0) (hr1:Kd.C (Kd.int .u64) w A1 l1.length l1) (hc1:l1.length≤c1) (h:seal_Pack.f k l0 l1=some (r1,r2)) :
  Calls Try.prog 30 #[.slice A0 l0.length c0,.slice A1 l1.length c1] w fun e w'=>∃ v0_:Value,e=.returned (.tuple #[v0_,.int .i64 r2])∧Kd.R (Kd.int .u8) 5 w' w.heap.size (fun _=>True) v0_ r1∧Below w.heap.size w w':=by
 have HR0:=zm hr0
 have HC0:=zm hc0
 clear hr0 hc0
 have HR1:=zm hr1
 have HC1:=zm hc1
 clear hr1 hc1
 have HB:=zm (Below.refl w.heap.size w)
 have H:((seal_Width.f k l0).bind fun bt121=>(if bt121.2=0 then (if (l1.length:Int)=(l0.length:Int) then (if 0≤bt121.1 then (if (bt121.1:Int).toNat≤281474976710656 then (seal_Pack.l0 k l1 (List.replicate (bt121.1:Int).toNat 0) 0 l0 (l0.length:Int) 0) else (none)) else (none)) else (some (([]:List Int),1))) else (some (([]:List Int),bt121.2))))=some (r1,r2):=h
 clear h
 replace H:=Option.bind_eq_some_iff.mp H
 obtain ⟨⟨t121,t122⟩,A30,H⟩:=H
 replace H:(if t122=0 then (if (l1.length:Int)=(l0.length:Int) then (if 0≤t121 then (if (t121:Int).toNat≤281474976710656 then (seal_Pack.l0 k l1 (List.replicate (t121:Int).toNat 0) 0 l0 (l0.length:Int) 0) else (none)) else (none)) else (some (([]:List Int),1))) else (some (([]:List Int),t122)))=some (r1,r2):=H
 have A3:=zm A30
 clear A30
 by_cases c4:t122=0
 ·rw [if_pos c4] at H
  have c4b0:(t122 == 0)=true:=beq_iff_eq.mpr c4
  have c4b1:(t122 != 0)=false:=bne_eq_false_iff_eq.mpr c4
  clear c4
  by_cases c5:(l1.length:Int)=(l0.length:Int)
  ·rw [if_pos c5] at H
   have c5b0:((l1.length:Int) == (l0.length:Int))=true:=beq_iff_eq.mpr c5
   have c5b1:((l1.length:Int) != (l0.length:Int))=false:=bne_eq_false_iff_eq.mpr c5
   have c5b2:(l1.length == l0.length)=true:=by first|simpa using c5|(simp at c5 ⊢;omega)
   clear c5
   by_cases c6:0≤t121
   ·rw [if_pos c6] at H
    have c6b0:=eq_true c6
    have c6b1:decide (0≤t121)=true:=decide_eq_true c6
    clear c6
    by_cases c7:(t121:Int).toNat≤281474976710656
    ·rw [if_pos c7] at H
     have c7b0:=eq_true c7
     have c7b1:decide ((t121:Int).toNat≤281474976710656)=true:=decide_eq_true c7
     clear c7
     obtain ⟨y123,hy123⟩:∃ y_:List Int,y_=(List.replicate (t121:Int).toNat 0):=⟨_,rfl⟩
     replace H:(seal_Pack.l0 k l1 y123 0 l0 (l0.length:Int) 0)=some (r1,r2):=by first|(rw [hy123];with_reducible exact H)|(have H2_:=(Option.bind_some _ _).symm.trans H;rw [hy123];with_reducible exact H2_)|(have H2_:=(Option.bind_some _ _).symm.trans H;with_reducible exact H2_)|with_reducible exact H|(rw [hy123];exact H)|exact H
     have Ny123:=zm hy123
     clear hy123
     have H':=zm H
     clear H
     go_enter Try.func30,Try.ntmps30
     go_wp2_with (first|((with_reducible refine gate_callee (f:=31) rfl ?_);refine goesL_ (some 15) rfl rfl Try.func31 (by kernel_rfl) rfl #[.slice A0 l0.length c0] rfl (by (try simp only [List.map_toArray,List.map_cons,List.map_nil]);first|done|rfl|(simp only [List.length_drop,List.length_take];rfl)) ?_;(with_reducible refine (seal_Width.calls k _ _ l0 t121 t122 _ ?side1 ?side2 A3.out).mono ?_);(case side1=>repeat (first|exact HR0.out|(with_reducible refine Kd.C_alloc ?_ _)|(with_reducible refine Kd.C_drewN ?_ _)|(with_reducible refine Kd.C_drew ?_)));(case side2=>exact HC0.out);rintro e w' ⟨rfl,⟨nd,rfl⟩⟩;refine ⟨_,rfl,?_⟩)|((with_reducible refine gate_dst (N:=27) rfl ?_);refine Kd.R_make (Kd.int .u8) _ 5 rfl (N:=27) rfl 25 _ _ rfl t121 rfl rfl Try.underlying25 (.int .u8 0) 1 info5 rfl (by decide) (by omega) 0 (ok:=fun _=>True) (okp:=fun _=>True) rfl (fun _ hk=>hk) trivial (za_) (Nat.le_trans (Nat.mul_le_mul_right _ (za_:t121.toNat≤281474976710656)) (by omega)) (Below.refl _ _) (Nat.le_refl _) ?_;intro v124 w8 ho9 hb hg_ hnew_;clear hg_ hnew_;(first|rw [← Ny123.out] at ho9|(simp only [Int.reduceToNat] at ho9;rw [← Ny123.out] at ho9));have n0_:=zm (Kd.R_lower ho9 (below_size (zb_)));have n1_:=zkH HB hb;clear HB;have HO125:=n0_;have HB:=n1_;clear n0_ n1_;clear hb ho9))
     go_loopg [9,30] k (fun kq v9 v30 w'=>∃ (x8_1:List Int) (x9_1:Int) (x30_1:Int),v9=.int .i64 x9_1∧v30=.int .i64 x30_1∧Aside0 (seal_Pack.l0 kq l1 x8_1 x9_1 l0 (l0.length:Int) x30_1=some (r1,r2))∧Aside0 (kq≤k)∧Aside0 (Kd.R (Kd.int .u8) 5 w' w.heap.size (fun _=>True) v124 x8_1)∧Aside0 (Below w.heap.size w w'))
     case atStart=>exact ⟨(y123),(0),(0),zs_,zs_,H',⟨Nat.le_refl _⟩,⟨by (with_reducible repeat (first|apply zrA|apply zrN|apply zrD));exact HO125.out⟩,⟨zb_⟩⟩
     case round =>
      clear H'
      try clear c1
      try clear p2
      try clear c3
      try clear c4
      try clear c4b0
      try clear c4b1
      try clear c5
      try clear c5b0
      try clear c5b1
      try clear c5b2
      try clear c6
      try clear c6b0
      try clear c6b1
      try clear c7
      try clear c7b0
      try clear c7b1
      obtain ⟨x8_1,x9_1,x30_1,rfl,rfl,HA,HK1,HO_8,HB⟩:=hrel
      cases gk with
      | zero=>exact absurd HA.out (by simp [seal_Pack.l0])
      | succ k1 =>
       have H:=HA.out
       clear HA
       simp only [seal_Pack.l0] at H
       by_cases c10:x30_1 < (l0.length:Int)
       ·rw [if_pos c10] at H
        have c10b0:decide (x30_1 < (l0.length:Int))=true:=decide_eq_true c10
        clear c10
        by_cases c11:0≤x30_1
        ·rw [if_pos c11] at H
         have c11b0:decide (0≤x30_1)=true:=decide_eq_true c11
         clear c11
         by_cases c12:x30_1 < (l0.length:Int)
         ·rw [if_pos c12] at H
          have c12b0:decide (x30_1 < (l0.length:Int))=true:=decide_eq_true c12
          clear c12
          by_cases c13:x30_1 < (l1.length:Int)
          ·rw [if_pos c13] at H
           have c13b0:decide (x30_1 < (l1.length:Int))=true:=decide_eq_true c13
           clear c13
           replace H:=Option.bind_eq_some_iff.mp H
           obtain ⟨t128,A140,H⟩:=H
           replace H:(if t128 > (rd l0 x30_1) then (some (([]:List Int),1)) else (seal_Pack.l1 k1 l1 x8_1 x9_1 x30_1 (rd l0 x30_1) l0 (l0.length:Int) x30_1 (rd l0 x30_1) 0))=some (r1,r2):=H
           have A14:=zm A140
           clear A140
           by_cases c15:t128 > (rd l0 x30_1)
           ·rw [if_pos c15] at H
            have c15b0:decide ((rd l0 x30_1) < t128)=true:=decide_eq_true c15
            clear c15
            simp only [Option.some.injEq,Prod.mk.injEq] at H
            obtain ⟨rfl,rfl⟩:=H
            have p126:0≤(x30_1:Int):=za_
            have q126:x30_1 < (l0.length:Int):=za_
            obtain ⟨ad126,e126,hx126_0⟩:=Kd.at_int HR0.out x30_1 p126 q126
            cases e126
            replace hx126_0:=zhx HB hx126_0
            replace p126:=eq_true p126
            replace q126:=eq_true q126
            have p127:0≤(x30_1:Int):=za_
            have q127:x30_1 < (l1.length:Int):=za_
            obtain ⟨ad127,e127,hx127_0⟩:=Kd.at_int HR1.out x30_1 p127 q127
            cases e127
            replace hx127_0:=zhx HB hx127_0
            replace p127:=eq_true p127
            replace q127:=eq_true q127
            go_wp2_with (first|((with_reducible refine gate_callee (f:=48) rfl ?_);refine goesL_ (some 39) rfl rfl Try.func48 (by kernel_rfl) rfl #[.int .u64 (rd l1 x30_1)] rfl (by (try simp only [List.map_toArray,List.map_cons,List.map_nil]);first|done|rfl|(simp only [List.length_drop,List.length_take];rfl)) ?_;(with_reducible refine (bits_Len64.calls k1 (rd l1 x30_1) t128 _ A14.out).mono ?_);rintro e w' ⟨rfl,⟨nd,rfl⟩⟩;refine ⟨_,rfl,?_⟩))
            go_ret2
            exact ⟨_,ze_,zr_,zb_⟩
           ·rw [if_neg c15] at H
            have c15b0:decide ((rd l0 x30_1) < t128)=false:=decide_eq_false c15
            clear c15
            have H':=zm H
            clear H
            have p126:0≤(x30_1:Int):=za_
            have q126:x30_1 < (l0.length:Int):=za_
            obtain ⟨ad126,e126,hx126_0⟩:=Kd.at_int HR0.out x30_1 p126 q126
            cases e126
            replace hx126_0:=zhx HB hx126_0
            replace p126:=eq_true p126
            replace q126:=eq_true q126
            have p127:0≤(x30_1:Int):=za_
            have q127:x30_1 < (l1.length:Int):=za_
            obtain ⟨ad127,e127,hx127_0⟩:=Kd.at_int HR1.out x30_1 p127 q127
            cases e127
            replace hx127_0:=zhx HB hx127_0
            replace p127:=eq_true p127
            replace q127:=eq_true q127
            go_wp2_with (first|((with_reducible refine gate_callee (f:=48) rfl ?_);refine goesL_ (some 39) rfl rfl Try.func48 (by kernel_rfl) rfl #[.int .u64 (rd l1 x30_1)] rfl (by (try simp only [List.map_toArray,List.map_cons,List.map_nil]);first|done|rfl|(simp only [List.length_drop,List.length_take];rfl)) ?_;(with_reducible refine (bits_Len64.calls k1 (rd l1 x30_1) t128 _ A14.out).mono ?_);rintro e w' ⟨rfl,⟨nd,rfl⟩⟩;refine ⟨_,rfl,?_⟩))
            go_loopg [9,43] k1 (fun kq v9 v43 w'=>∃ (x8_2:List Int) (x9_2:Int) (x43_2:Int),v9=.int .i64 x9_2∧v43=.int .i64 x43_2∧Aside0 (seal_Pack.l1 kq l1 x8_2 x9_2 x30_1 (rd l0 x30_1) l0 (l0.length:Int) x30_1 (rd l0 x30_1) x43_2=some (r1,r2))∧Aside0 (kq≤k1)∧Aside0 (Kd.R (Kd.int .u8) 5 w' w.heap.size (fun _=>True) v124 x8_2)∧Aside0 (Below w.heap.size w w'))
            case atStart=>exact ⟨(x8_1),(x9_1),(0),zs_,zs_,H',⟨Nat.le_refl _⟩,⟨by (with_reducible repeat (first|apply zrA|apply zrN|apply zrD));exact HO_8.out⟩,⟨zb_⟩⟩
            case round =>
             clear H'
             try clear c1
             try clear p1
             try clear q1
             try clear hx1
             try clear p2
             try clear c3
             try clear c4
             try clear c4b0
             try clear c4b1
             try clear c5
             try clear c5b0
             try clear c5b1
             try clear c5b2
             try clear c6
             try clear c6b0
             try clear c6b1
             try clear c7
             try clear c7b0
             try clear c7b1
             try clear c10
             try clear c10b0
             try clear c11
             try clear c11b0
             try clear c12
             try clear c12b0
             try clear p12
             try clear q12
             try clear hx12
             try clear c13
             try clear c13b0
             try clear c15
             try clear c15b0
             try clear hx126_0
             try clear hx127_0
             try clear p126
             try clear p127
             try clear p2
             try clear q126
             try clear q127
             obtain ⟨x8_2,x9_2,x43_2,rfl,rfl,HA,HK2,HO_8,HB⟩:=hrel
             cases gk with
             | zero=>exact absurd HA.out (by simp [seal_Pack.l1])
             | succ k2 =>
              have H:=HA.out
              clear HA
              simp only [seal_Pack.l1] at H
              by_cases c16:x43_2 < (rd l0 x30_1)
              ·rw [if_pos c16] at H
               have c16b0:decide (x43_2 < (rd l0 x30_1))=true:=decide_eq_true c16
               clear c16
               obtain ⟨ji17,hji17⟩:∃ j_:Int,(wrap64 (Int.tdiv x9_2 8))=j_:=⟨_,rfl⟩
               replace H:(if 0≤(ji17) then (if (ji17) < (x8_2.length:Int) then (if 0≤x30_1 then (if x30_1 < (l1.length:Int) then (if 0≤(wrap64 ((wrap64 ((rd l0 x30_1) - 1)) - x43_2)) then (if 0≤(wrap64 (7 - (Int.tmod x9_2 8))) then (seal_Pack.l1 k2 l1 (x8_2.set ((ji17):Int).toNat (Go.bits .or .u8 (rd x8_2 (ji17)) (shl .u8 ((Go.bits .and .u64 (shr .u64 (rd l1 x30_1) (wrap64 ((wrap64 ((rd l0 x30_1) - 1)) - x43_2))) 1) % 256) (wrap64 (7 - (Int.tmod x9_2 8)))))) (wrap64 (x9_2 + 1)) x30_1 (rd l0 x30_1) l0 (l0.length:Int) x30_1 (rd l0 x30_1) (wrap64 (x43_2 + 1))) else (none)) else (none)) else (none)) else (none)) else (none)) else (none))=some (r1,r2):=by first|(rw [hji17] at H;exact H)|(simp only [hji17] at H ⊢;exact H)
               have hji17w:(IntKind.i64.wrap (Int.tdiv x9_2 8))=ji17:=(i64_w _).trans hji17
               by_cases c18:0≤(ji17)
               ·rw [if_pos c18] at H
                have c18b0:decide (0≤(ji17))=true:=decide_eq_true c18
                clear c18
                by_cases c19:(ji17) < (x8_2.length:Int)
                ·rw [if_pos c19] at H
                 have c19b0:decide ((ji17) < (x8_2.length:Int))=true:=decide_eq_true c19
                 clear c19
                 by_cases c20:0≤x30_1
                 ·rw [if_pos c20] at H
                  have c20b0:decide (0≤x30_1)=true:=decide_eq_true c20
                  clear c20
                  by_cases c21:x30_1 < (l1.length:Int)
                  ·rw [if_pos c21] at H
                   have c21b0:decide (x30_1 < (l1.length:Int))=true:=decide_eq_true c21
                   clear c21
                   obtain ⟨ji22,hji22⟩:∃ j_:Int,(wrap64 ((wrap64 ((rd l0 x30_1) - 1)) - x43_2))=j_:=⟨_,rfl⟩
                   replace H:(if 0≤(ji22) then (if 0≤(wrap64 (7 - (Int.tmod x9_2 8))) then (seal_Pack.l1 k2 l1 (x8_2.set ((ji17):Int).toNat (Go.bits .or .u8 (rd x8_2 (ji17)) (shl .u8 ((Go.bits .and .u64 (shr .u64 (rd l1 x30_1) (ji22)) 1) % 256) (wrap64 (7 - (Int.tmod x9_2 8)))))) (wrap64 (x9_2 + 1)) x30_1 (rd l0 x30_1) l0 (l0.length:Int) x30_1 (rd l0 x30_1) (wrap64 (x43_2 + 1))) else (none)) else (none))=some (r1,r2):=by first|(rw [hji22] at H;exact H)|(simp only [hji22] at H ⊢;exact H)
                   have hji22w:(IntKind.i64.wrap ((wrap64 ((rd l0 x30_1) - 1)) - x43_2))=ji22:=(i64_w _).trans hji22
                   by_cases c23:0≤(ji22)
                   ·rw [if_pos c23] at H
                    have c23b0:=eq_true c23
                    have c23b1:decide (0≤(ji22))=true:=decide_eq_true c23
                    clear c23
                    obtain ⟨ji24,hji24⟩:∃ j_:Int,(shr .u64 (rd l1 x30_1) (ji22))=j_:=⟨_,rfl⟩
                    replace H:(if 0≤(wrap64 (7 - (Int.tmod x9_2 8))) then (seal_Pack.l1 k2 l1 (x8_2.set ((ji17):Int).toNat (Go.bits .or .u8 (rd x8_2 (ji17)) (shl .u8 ((Go.bits .and .u64 (ji24) 1) % 256) (wrap64 (7 - (Int.tmod x9_2 8)))))) (wrap64 (x9_2 + 1)) x30_1 (rd l0 x30_1) l0 (l0.length:Int) x30_1 (rd l0 x30_1) (wrap64 (x43_2 + 1))) else (none))=some (r1,r2):=by first|(rw [hji24] at H;exact H)|(simp only [hji24] at H ⊢;exact H)
                    have hji24_:((rd l1 x30_1) / 2 ^ min (ji22).toNat 64)=ji24:=hji24
                    have hji24z:(ji22)≤64 → ((rd l1 x30_1) / 2 ^ (ji22).toNat)=ji24:=shr_small hji24
                    obtain ⟨ji25,hji25⟩:∃ j_:Int,(wrap64 (7 - (Int.tmod x9_2 8)))=j_:=⟨_,rfl⟩
                    replace H:(if 0≤(ji25) then (seal_Pack.l1 k2 l1 (x8_2.set ((ji17):Int).toNat (Go.bits .or .u8 (rd x8_2 (ji17)) (shl .u8 ((Go.bits .and .u64 (ji24) 1) % 256) (ji25)))) (wrap64 (x9_2 + 1)) x30_1 (rd l0 x30_1) l0 (l0.length:Int) x30_1 (rd l0 x30_1) (wrap64 (x43_2 + 1))) else (none))=some (r1,r2):=by first|(rw [hji25] at H;exact H)|(simp only [hji25] at H ⊢;exact H)
                    have hji25w:(IntKind.i64.wrap (7 - (Int.tmod x9_2 8)))=ji25:=(i64_w _).trans hji25
                    by_cases c26:0≤(ji25)
                    ·rw [if_pos c26] at H
                     have c26b0:=eq_true c26
                     have c26b1:decide (0≤(ji25))=true:=decide_eq_true c26
                     clear c26
                     obtain ⟨ji27,hji27⟩:∃ j_:Int,(shl .u8 ((Go.bits .and .u64 (ji24) 1) % 256) (ji25))=j_:=⟨_,rfl⟩
                     replace H:(seal_Pack.l1 k2 l1 (x8_2.set ((ji17):Int).toNat (Go.bits .or .u8 (rd x8_2 (ji17)) (ji27))) (wrap64 (x9_2 + 1)) x30_1 (rd l0 x30_1) l0 (l0.length:Int) x30_1 (rd l0 x30_1) (wrap64 (x43_2 + 1)))=some (r1,r2):=by first|(rw [hji27] at H;exact H)|(simp only [hji27] at H ⊢;exact H)
                     have hji27_:(IntKind.u8.wrap (((Go.bits .and .u64 (ji24) 1) % 256) * 2 ^ min (ji25).toNat 8))=ji27:=hji27
                     have hji27z:(ji25)≤8 → (IntKind.u8.wrap (((Go.bits .and .u64 (ji24) 1) % 256) * 2 ^ (ji25).toNat))=ji27:=shl_small hji27
                     have hji27m:(((Go.bits .and .u64 (ji24) 1) % 256) * 2 ^ min (ji25).toNat 8) % 256=ji27:=(IntKind.wrap_u8 _).symm.trans hji27_
                     have hji27n:(ji25)≤8 → (((Go.bits .and .u64 (ji24) 1) % 256) * 2 ^ (ji25).toNat) % 256=ji27:=fun hle_=>(IntKind.wrap_u8 _).symm.trans (hji27z hle_)
                     obtain ⟨y131,hy131⟩:∃ y_:List Int,y_=(x8_2.set ((ji17):Int).toNat (Go.bits .or .u8 (rd x8_2 (ji17)) (ji27))):=⟨_,rfl⟩
                     replace H:(seal_Pack.l1 k2 l1 y131 (wrap64 (x9_2 + 1)) x30_1 (rd l0 x30_1) l0 (l0.length:Int) x30_1 (rd l0 x30_1) (wrap64 (x43_2 + 1)))=some (r1,r2):=by first|(rw [hy131];with_reducible exact H)|(have H2_:=(Option.bind_some _ _).symm.trans H;rw [hy131];with_reducible exact H2_)|(have H2_:=(Option.bind_some _ _).symm.trans H;with_reducible exact H2_)|with_reducible exact H|(rw [hy131];exact H)|exact H
                     have Ny131:=zm hy131
                     clear hy131
                     have H':=zm H
                     clear H
                     try go_wp2
                     have n0_:=zm (zrD HO_8.out)
                     have n1_:=zm (zlD HB.out)
                     clear HO_8 HB
                     have HO_8:=n0_
                     have HB:=n1_
                     clear n0_ n1_
                     obtain ⟨Ao30,co30,eo30⟩:=Kd.R_slice HO_8.out
                     (first|subst eo30|(injection eo30 with f1_ f2_ f3_;have f4_:=f1_.symm;have f5_:=f3_.symm;clear f1_ f2_ f3_;subst f4_;subst f5_))
                     have p129:0≤((ji17):Int):=za_
                     have q129:(ji17) < (x8_2.length:Int):=za_
                     obtain ⟨ad129,e129,hx129_0⟩:=Kd.at_int (Kd.R_reads' HO_8.out).2.2 (ji17) p129 q129
                     cases e129
                     replace p129:=eq_true p129
                     replace q129:=eq_true q129
                     have p130:0≤(x30_1:Int):=za_
                     have q130:x30_1 < (l1.length:Int):=za_
                     obtain ⟨ad130,e130,hx130_0⟩:=Kd.at_int HR1.out x30_1 p130 q130
                     have hw130_0:=hx130_0
                     obtain rfl:ad127=ad130:=(by injection e130)
                     replace hx130_0:=zhx HB hx130_0
                     replace p130:=eq_true p130
                     replace q130:=eq_true q130
                     have p28:0≤((ji17):Int):=za_
                     have q28:((ji17):Int) < ((x8_2.length:Int):Int):=za_
                     obtain ⟨go28,co28,eo28,gb28,gl28,cl28,HG28⟩:=Kd.R_form HO_8.out (by omega)
                     (first|cases eo28|(injection eo28 with ea_ en_ ec_;(first|subst ea_|(injection ea_ with ea_;subst ea_));subst ec_;clear en_))
                     have GB28:=zm gb28
                     have GG28:=zm HG28
                     clear gb28 gl28 HG28
                     (first|simp only [add_plain] at hx129_0|skip)
                     obtain ⟨hx28_0,hf28_0⟩:=Kd.R_celln 0 HO_8.out ((ji17):Int) p28 q28
                     replace p28:=eq_true p28
                     replace q28:=eq_true q28
                     have HP31:=Kd.R_putn HO_8.out ((ji17):Int) (Go.bits .or .u8 (rd x8_2 (ji17)) (ji27))
                     rw [← Ny131.out] at HP31
                     have HQ31:=zm HP31
                     clear HP31
                     refine start_ (n:=23) (S:=fun w'=>w'.cell? ⟨go28,((ji17)).toNat,none⟩=some (.int .u8 (rd x8_2 (ji17)))∧w'.cell? (ad127.add (x30_1).toNat)=some (.int .u64 (rd l1 x30_1))) (ds:=[22]) (Array.replicate 23 false) (by kernel_rfl) rfl rfl ⟨hx129_0,(zhx HB hw130_0)⟩ (fun hHeld=>?_);refine with_tabW seal_Pack.tab16 seal_Pack.bits16 (fun HT_ HW_=>?_)
                     generalize wr.drew=w29 at HO_8 HB GG28 HQ31 hf28_0 hx129_0 hx130_0 hx28_0 hHeld ⊢
                     refine zpu 0 ?_
                     refine zpu 1 ?_
                     refine zpu 2 ?_
                     refine zpu 3 ?_
                     refine zpu 5 ?_
                     refine zpu 6 ?_
                     refine zpu 7 ?_
                     refine zpu 9 ?_
                     refine zpu 10 ?_
                     refine zpu 11 ?_
                     refine zpu 12 ?_
                     refine zpu 16 ?_
                     refine zpu 17 ?_
                     refine zpu 18 ?_
                     refine zta 4 hHeld ?_
                     refine zta 8 hHeld ?_
                     refine zpu 13 ?_
                     refine zpu 14 ?_
                     refine zpu 15 ?_
                     refine zpu 19 ?_
                     refine zpu 20 ?_
                     refine zpu 21 ?_
                     refine zla 22 none (fun K hK=>?_)
                     refine skip_ (w1:=?_) (by rfl) rfl ?_ ?_
                     rotate_left
                     ·go_simp
                      rfl
                     refine hK.out _ _ ?_
                     clear hK K
                     refine zdo ?_
                     try go_wp2
                     go_roundg k2
                     case measure=>have:=HK1.out;have:=HK2.out;omega
                     case rel=>exact ⟨(y131),(wrap64 (x9_2 + 1)),(wrap64 (x43_2 + 1)),zs_,zs_,H',⟨by have:=HK1.out;have:=HK2.out;omega⟩,⟨by (with_reducible repeat (first|apply zrA|apply zrN|apply zrD));exact HQ31.out⟩,⟨by repeat (first|(with_reducible first|exact HB.out|apply zlA|apply zlN|apply zlD|refine zlS ?_ GB28.out)|exact HB.out)⟩⟩
                    ·rw [if_neg c26] at H
                     exact absurd H (by simp)
                   ·rw [if_neg c23] at H
                    exact absurd H (by simp)
                  ·rw [if_neg c21] at H
                   exact absurd H (by simp)
                 ·rw [if_neg c20] at H
                  exact absurd H (by simp)
                ·rw [if_neg c19] at H
                 exact absurd H (by simp)
               ·rw [if_neg c18] at H
                exact absurd H (by simp)
              ·rw [if_neg c16] at H
               have c16b0:decide (x43_2 < (rd l0 x30_1))=false:=decide_eq_false c16
               clear c16
               have H':=zm H
               clear H
               go_wp2
               go_roundg k2
               case measure=>have:=HK1.out;have:=HK2.out;omega
               case rel=>exact ⟨(x8_2),(x9_2),(wrap64 (x30_1 + 1)),zs_,zs_,H',⟨by have:=HK1.out;have:=HK2.out;omega⟩,⟨by (with_reducible repeat (first|apply zrA|apply zrN|apply zrD));exact HO_8.out⟩,⟨zb_⟩⟩
          ·rw [if_neg c13] at H
           exact absurd H (by simp)
         ·rw [if_neg c12] at H
          exact absurd H (by simp)
        ·rw [if_neg c11] at H
         exact absurd H (by simp)
       ·rw [if_neg c10] at H
        have c10b0:decide (x30_1 < (l0.length:Int))=false:=decide_eq_false c10
        clear c10
        simp only [Option.some.injEq,Prod.mk.injEq] at H
        obtain ⟨rfl,rfl⟩:=H
        go_wp2
        go_ret2
        exact ⟨_,ze_,by (with_reducible repeat (first|apply zrA|apply zrN|apply zrD));exact HO_8.out,zb_⟩
    ·rw [if_neg c7] at H
     exact absurd H (by simp)
   ·rw [if_neg c6] at H
    exact absurd H (by simp)
  ·rw [if_neg c5] at H
   have c5b0:((l1.length:Int) == (l0.length:Int))=false:=beq_eq_false_iff_ne.mpr c5
   have c5b1:((l1.length:Int) != (l0.length:Int))=true:=bne_iff_ne.mpr c5
   have c5b2:(l1.length == l0.length)=false:=by first|simpa using c5|(simp at c5 ⊢;omega)
   simp only [Option.some.injEq,Prod.mk.injEq] at H
   obtain ⟨rfl,rfl⟩:=H
   go_enter Try.func30,Try.ntmps30
   go_wp2_with (first|((with_reducible refine gate_callee (f:=31) rfl ?_);refine goesL_ (some 15) rfl rfl Try.func31 (by kernel_rfl) rfl #[.slice A0 l0.length c0] rfl (by (try simp only [List.map_toArray,List.map_cons,List.map_nil]);first|done|rfl|(simp only [List.length_drop,List.length_take];rfl)) ?_;(with_reducible refine (seal_Width.calls k _ _ l0 t121 t122 _ ?side1 ?side2 A3.out).mono ?_);(case side1=>repeat (first|exact HR0.out|(with_reducible refine Kd.C_alloc ?_ _)|(with_reducible refine Kd.C_drewN ?_ _)|(with_reducible refine Kd.C_drew ?_)));(case side2=>exact HC0.out);rintro e w' ⟨rfl,⟨nd,rfl⟩⟩;refine ⟨_,rfl,?_⟩))
   go_ret2
   exact ⟨_,ze_,zr_,zb_⟩
 ·rw [if_neg c4] at H
  have c4b0:(t122 == 0)=false:=beq_eq_false_iff_ne.mpr c4
  have c4b1:(t122 != 0)=true:=bne_iff_ne.mpr c4
  simp only [Option.some.injEq,Prod.mk.injEq] at H
  obtain ⟨rfl,rfl⟩:=H
  go_enter Try.func30,Try.ntmps30
  go_wp2_with (first|((with_reducible refine gate_callee (f:=31) rfl ?_);refine goesL_ (some 15) rfl rfl Try.func31 (by kernel_rfl) rfl #[.slice A0 l0.length c0] rfl (by (try simp only [List.map_toArray,List.map_cons,List.map_nil]);first|done|rfl|(simp only [List.length_drop,List.length_take];rfl)) ?_;(with_reducible refine (seal_Width.calls k _ _ l0 t121 t122 _ ?side1 ?side2 A3.out).mono ?_);(case side1=>repeat (first|exact HR0.out|(with_reducible refine Kd.C_alloc ?_ _)|(with_reducible refine Kd.C_drewN ?_ _)|(with_reducible refine Kd.C_drew ?_)));(case side2=>exact HC0.out);rintro e w' ⟨rfl,⟨nd,rfl⟩⟩;refine ⟨_,rfl,?_⟩))
  go_ret2
  exact ⟨_,ze_,zr_,zb_⟩
end Go.Proofs.Ytjoojmodghpimaa.Print
end
section
namespace Go.Proofs.Ytjoojmodghpimaa.Print
open Go.RowKit Go.Proofs.YtjoojmodghpimaaW.PrintWords Go.Proofs.YtjoojmodghpimaaW.PrintLast Go.Proofs.YtjoojmodghpimaaW.PrintMore
attribute [local go_sem] max2_int min2_int max_two min_two max_three min_three max_four min_four   -- for this text's walks alone
attribute [local go_sem ↓] Go.Proofs.Ytjoojmodghpimaa.Sem.isSome_setCell
attribute [local go_sem] Go.Instr.field Go.asAgg
set_option linter.unusedVariables false
set_option linter.unusedSimpArgs false
-- CX
set_option maxRecDepth 100000 in
theorem inode_headWidths.calls (w:World):Calls Try.prog 28 #[] w fun e w'=>e=.returned (.agg #[.int .i64 8,.int .i64 8,.int .i64 8,.int .i64 8,.int .i64 32,.int .i64 64,.int .i64 32,.int .i64 32])∧Below w.heap.size w w':=by
 have hu:=Try.underlying52
 go_enter Try.func28,Try.ntmps28
 go_wp2
 exact bodyPost_ret (results_cell_row rfl _ _ w.heap.size 52 #[.int .i64 8,.int .i64 8,.int .i64 8,.int .i64 8,.int .i64 32,.int .i64 64,.int .i64 32,.int .i64 32] (0,0) _ rfl (heap_alloc_new w _) Try.underlying52 rfl (by kernel_rfl)) rfl ⟨rfl,zlA (Below.refl _ _) _⟩
set_option maxRecDepth 100000 in
theorem inode_rootWidths.calls (w:World):Calls Try.prog 29 #[] w fun e w'=>e=.returned (.agg #[.int .i64 24,.int .i64 16,.int .i64 32])∧Below w.heap.size w w':=by
 have hu:=Try.underlying54
 go_enter Try.func29,Try.ntmps29
 go_wp2
 exact bodyPost_ret (results_cell_row rfl _ _ w.heap.size 54 #[.int .i64 24,.int .i64 16,.int .i64 32] (0,0) _ rfl (heap_alloc_new w _) Try.underlying54 rfl (by kernel_rfl)) rfl ⟨rfl,zlA (Below.refl _ _) _⟩
def inode_Encode.go (k:Nat):List S51 → List Int → Option (List Int)
 | [],b=>some b
 | x :: xs,b=>(seal_Pack.f k [24,16,32] [IntKind.u64.wrap x.f0,IntKind.u64.wrap x.f1,IntKind.u64.wrap x.f2]).bind fun p=>if p.2=0 then (if b.length + p.1.length < 140737488355328 then inode_Encode.go k xs (b ++ p.1) else none) else none
def inode_Encode.f (k:Nat) (a0_0:Int) (a0_1:Int) (a0_2:Int) (a0_3:Int) (a0_4:Int) (a0_5:Int) (l0_6:List (S51)):Option (List Int × Int) :=
 (inode_Check.f k a0_0 a0_1 a0_2 a0_3 a0_4 a0_5 l0_6).bind fun e=>if e=0 then
 (seal_Pack.f k [8,8,8,8,32,64,32,32] [IntKind.u64.wrap a0_0,IntKind.u64.wrap a0_5,IntKind.u64.wrap (l0_6.length:Int),0,IntKind.u64.wrap a0_1,IntKind.u64.wrap a0_2,IntKind.u64.wrap a0_3,IntKind.u64.wrap a0_4]).bind fun p=>if p.2=0 then
 (inode_Encode.go k l0_6 p.1).bind fun b=>if b.length≤64 then some (b ++ List.replicate (64 - b.length) 0,0) else none else none
 else some ([],e)
theorem inode_Encode.go_mono (k:Nat):∀ (l:List S51) (b:List Int),LeO (inode_Encode.go k l b) (inode_Encode.go (k + 1) l b)
 | [],b=>LeO.refl _
 | x :: xs,b=>by
  unfold inode_Encode.go
  exact LeO.bind (seal_Pack.mono _ _ k) (fun p=>LeO.ite (LeO.ite (inode_Encode.go_mono k xs _) (LeO.refl _)) (LeO.refl _))
theorem inode_Encode.mono:∀ a0 a1 a2 a3 a4 a5 a6 k,LeO (inode_Encode.f k a0 a1 a2 a3 a4 a5 a6) (inode_Encode.f (k + 1) a0 a1 a2 a3 a4 a5 a6):=by
 intro a0 a1 a2 a3 a4 a5 a6 k
 unfold inode_Encode.f
 exact LeO.bind (inode_Check.mono _ _ _ _ _ _ _ k) (fun e=>LeO.ite (LeO.bind (seal_Pack.mono _ _ k) (fun p=>LeO.ite (LeO.bind (inode_Encode.go_mono k _ _) (fun b=>LeO.refl _)) (LeO.refl _))) (LeO.refl _))
section
variable {ops : Array Oper} {rest : List Oper} {o : Oper} {a : Act} {Q : Exit → Act → World → Prop} {W : World} {g : Nat} {p : Operand} {x0 x1 x2 x3 x4 x5 x6 : Value}
theorem IE_ldrun (hop:o.op=.load 24 p) (hp:a.eval p=.pointer (some ⟨g,0,none⟩)) (hb:W.heap[g]?=some (.cells #[x0,x1,x2,x3,x4,x5,x6] 24 (0,0))) :
  (execOp a.eval o).run Try.prog W=.ok (.value (.agg #[x0,x1,x2,x3,x4,x5,x6])) W:=by
 have hu24:=Try.underlying24
 have c0:W.cell? ⟨g,0,none⟩=some x0:=(blk_cell hb 0).trans rfl
 have c1:W.cell? ⟨g,1,none⟩=some x1:=(blk_cell hb 1).trans rfl
 have c2:W.cell? ⟨g,2,none⟩=some x2:=(blk_cell hb 2).trans rfl
 have c3:W.cell? ⟨g,3,none⟩=some x3:=(blk_cell hb 3).trans rfl
 have c4:W.cell? ⟨g,4,none⟩=some x4:=(blk_cell hb 4).trans rfl
 have c5:W.cell? ⟨g,5,none⟩=some x5:=(blk_cell hb 5).trans rfl
 have c6:W.cell? ⟨g,6,none⟩=some x6:=(blk_cell hb 6).trans rfl
 simp only [execOp,hop,hp]
 go_simp
theorem IE_ld (hop:o.op=.load 24 p) (hgd:o.guard=none) (hp:a.eval p=.pointer (some ⟨g,0,none⟩)) (hb:W.heap[g]?=some (.cells #[x0,x1,x2,x3,x4,x5,x6] 24 (0,0)))
  (h:wpList Try.prog ops Q rest (a.put o.dst (.agg #[x0,x1,x2,x3,x4,x5,x6])) W):wpList Try.prog ops Q (o :: rest) a W:=Kd.event_run hgd (IE_ldrun hop hp hb) h
theorem IE_c3 {j t:Nat} {cs:Array Value} {v:Value} (hop:o.op=.load 3 p) (hp:a.eval p=.pointer (some ⟨g,j,none⟩)) (hb:W.heap[g]?=some (.cells cs t (0,0))) (hj:cs[j]?=some v):(execOp a.eval o).run Try.prog W=.ok (.value v) W:=by
 have c0:W.cell? ⟨g,j,none⟩=some v:=(blk_cell hb j).trans hj
 simp only [execOp,hop,hp]
 go_simp
theorem IE_c2 {j t:Nat} {cs:Array Value} {v:Value} (hop:o.op=.load 2 p) (hp:a.eval p=.pointer (some ⟨g,j,none⟩)) (hb:W.heap[g]?=some (.cells cs t (0,0))) (hj:cs[j]?=some v):(execOp a.eval o).run Try.prog W=.ok (.value v) W:=by
 have c0:W.cell? ⟨g,j,none⟩=some v:=(blk_cell hb j).trans hj
 simp only [execOp,hop,hp]
 go_simp
theorem IE_c22 {j t:Nat} {cs:Array Value} {v:Value} (hop:o.op=.load 22 p) (hp:a.eval p=.pointer (some ⟨g,j,none⟩)) (hb:W.heap[g]?=some (.cells cs t (0,0))) (hj:cs[j]?=some v):(execOp a.eval o).run Try.prog W=.ok (.value v) W:=by
 have c0:W.cell? ⟨g,j,none⟩=some v:=(blk_cell hb j).trans hj
 simp only [execOp,hop,hp]
 go_simp
theorem IE_lit8 {y0 y1 y2 y3 y4 y5 y6 y7:Operand} {n0 n1 n2 n3 n4 n5 n6 n7:Int} (hop:o.op=.buildSlice 61 8 #[(0,y0),(1,y1),(2,y2),(3,y3),(4,y4),(5,y5),(6,y6),(7,y7)]) (h0:a.eval y0=.int .u64 n0) (h1:a.eval y1=.int .u64 n1) (h2:a.eval y2=.int .u64 n2) (h3:a.eval y3=.int .u64 n3) (h4:a.eval y4=.int .u64 n4) (h5:a.eval y5=.int .u64 n5) (h6:a.eval y6=.int .u64 n6) (h7:a.eval y7=.int .u64 n7) :
  (execOp a.eval o).run Try.prog W=.ok (.value (.slice (some ⟨W.heap.size,0,none⟩) 8 8)) (W.alloc (.cells #[.int .u64 n0,.int .u64 n1,.int .u64 n2,.int .u64 n3,.int .u64 n4,.int .u64 n5,.int .u64 n6,.int .u64 n7] 58 (0,0))):=by
 generalize hE:a.eval=ev at h0 h1 h2 h3 h4 h5 h6 h7 ⊢
 simp only [execOp,hop]
 go_simp
theorem IE_lit3 {y0 y1 y2:Operand} {n0 n1 n2:Int} (hop:o.op=.buildSlice 61 3 #[(0,y0),(1,y1),(2,y2)]) (h0:a.eval y0=.int .u64 n0) (h1:a.eval y1=.int .u64 n1) (h2:a.eval y2=.int .u64 n2) :
  (execOp a.eval o).run Try.prog W=.ok (.value (.slice (some ⟨W.heap.size,0,none⟩) 3 3)) (W.alloc (.cells #[.int .u64 n0,.int .u64 n1,.int .u64 n2] 58 (0,0))):=by
 generalize hE:a.eval=ev at h0 h1 h2 ⊢
 simp only [execOp,hop]
 go_simp
theorem IE_st8 {x:Operand} {m0 m1 m2 m3 m4 m5 m6 m7:Value} (hop:o.op=.store 52 p x) (hp:a.eval p=.pointer (some ⟨g,0,none⟩)) (hx:a.eval x=.agg #[.int .i64 8,.int .i64 8,.int .i64 8,.int .i64 8,.int .i64 32,.int .i64 64,.int .i64 32,.int .i64 32]) (hb:W.heap[g]?=some (.cells #[m0,m1,m2,m3,m4,m5,m6,m7] 52 (0,0))) :
  (execOp a.eval o).run Try.prog W=.ok .skip (Cw.setL W g 0 [.int .i64 8,.int .i64 8,.int .i64 8,.int .i64 8,.int .i64 32,.int .i64 64,.int .i64 32,.int .i64 32]):=by
 have hu:=Try.underlying52
 have c0:W.cell? ⟨g,0,none⟩=some m0:=(blk_cell hb 0).trans rfl
 have c1:W.cell? ⟨g,1,none⟩=some m1:=(blk_cell hb 1).trans rfl
 have c2:W.cell? ⟨g,2,none⟩=some m2:=(blk_cell hb 2).trans rfl
 have c3:W.cell? ⟨g,3,none⟩=some m3:=(blk_cell hb 3).trans rfl
 have c4:W.cell? ⟨g,4,none⟩=some m4:=(blk_cell hb 4).trans rfl
 have c5:W.cell? ⟨g,5,none⟩=some m5:=(blk_cell hb 5).trans rfl
 have c6:W.cell? ⟨g,6,none⟩=some m6:=(blk_cell hb 6).trans rfl
 have c7:W.cell? ⟨g,7,none⟩=some m7:=(blk_cell hb 7).trans rfl
 have f0:=blk_frozen hb 0
 have f1:=blk_frozen hb 1
 have f2:=blk_frozen hb 2
 have f3:=blk_frozen hb 3
 have f4:=blk_frozen hb 4
 have f5:=blk_frozen hb 5
 have f6:=blk_frozen hb 6
 have f7:=blk_frozen hb 7
 simp only [execOp,hop,hp,hx]
 go_simp
 rfl
theorem IE_st3 {x:Operand} {m0 m1 m2:Value} (hop:o.op=.store 54 p x) (hp:a.eval p=.pointer (some ⟨g,0,none⟩)) (hx:a.eval x=.agg #[.int .i64 24,.int .i64 16,.int .i64 32]) (hb:W.heap[g]?=some (.cells #[m0,m1,m2] 54 (0,0))) :
  (execOp a.eval o).run Try.prog W=.ok .skip (Cw.setL W g 0 [.int .i64 24,.int .i64 16,.int .i64 32]):=by
 have hu:=Try.underlying54
 have c0:W.cell? ⟨g,0,none⟩=some m0:=(blk_cell hb 0).trans rfl
 have c1:W.cell? ⟨g,1,none⟩=some m1:=(blk_cell hb 1).trans rfl
 have c2:W.cell? ⟨g,2,none⟩=some m2:=(blk_cell hb 2).trans rfl
 have f0:=blk_frozen hb 0
 have f1:=blk_frozen hb 1
 have f2:=blk_frozen hb 2
 simp only [execOp,hop,hp,hx]
 go_simp
 rfl
end
theorem IE_drop (l:List S51) (j:Nat) (h:j < l.length):l.drop j=rd_T51 l (j:Int) :: l.drop (j + 1):=by
 rw [List.drop_eq_getElem_cons h]
 congr 1
 simp [rd_T51,List.getD_eq_getElem?_getD,h]
set_option maxHeartbeats 4000000 in
set_option maxRecDepth 100000 in
theorem inode_Encode.calls (k:Nat) (a0_0:Int) (a0_1:Int) (a0_2:Int) (a0_3:Int) (a0_4:Int) (a0_5:Int) (A0_6:Option Addr) (c0_6:Nat) (l0_6:List (S51)) (r1:List Int) (r2:Int) (w:World) (hr0_6:Kd.C k51 w A0_6 l0_6.length l0_6) (hc0_6:l0_6.length≤c0_6) (h:inode_Encode.f k a0_0 a0_1 a0_2 a0_3 a0_4 a0_5 l0_6=some (r1,r2)) :
  Calls Try.prog 8 #[.agg #[.int .i64 a0_0,.int .i64 a0_1,.int .i64 a0_2,.int .i64 a0_3,.int .i64 a0_4,.int .i64 a0_5,.slice A0_6 l0_6.length c0_6]] w fun e w'=>∃ v0_:Value,e=.returned (.tuple #[v0_,.int .i64 r2])∧Kd.R (Kd.int .u8) 5 w' w.heap.size (fun _=>True) v0_ r1∧Below w.heap.size w w':=by
 have hu24:=Try.underlying24
 have H:inode_Encode.f k a0_0 a0_1 a0_2 a0_3 a0_4 a0_5 l0_6=some (r1,r2):=h
 clear h
 have hh_:=zm hr0_6;clear hr0_6;have hr0_6:=hh_;clear hh_;have hh_:=zm hc0_6;clear hc0_6;have hc0_6:=hh_;clear hh_
 unfold inode_Encode.f at H
 have hg_:=Option.bind_eq_some_iff.mp H;clear H;obtain ⟨ec,F0,H⟩:=hg_;have hh_:=zm F0;clear F0;have F0:=hh_;clear hh_;(try dsimp only at H)
 have hh_:=zm H;clear H;have H:=hh_;clear hh_
 go_enter Try.func8,Try.ntmps8
 go_wp2_with (first|((with_reducible refine gate_dst (N:=1) rfl ?_);refine box_event rfl (N:=1) rfl (cs:=_) (t:=24) (by first|(go_simp;done)|(go_simp;rfl)) ?_;rintro g hg w1 hbk hb;clear hg;have hh_:=zm hbk;clear hbk;have hbk:=hh_;clear hh_;have hh_:=zm hb;clear hb;have hb:=hh_;clear hh_)|((with_reducible refine gate_ (.load 24 _) rfl ?_);refine IE_ld rfl rfl rfl (zbB (Aside0.out (by assumption)) (by repeat (first|exact Below.refl _ _|with_reducible apply zlN|with_reducible apply zlA|refine below_step ?_ (Aside0.out (by assumption))))) ?_)|(go_at_call 14;refine (inode_Check.calls k _ _ _ _ _ _ _ _ _ _ _ (Kd.C_below (Aside0.out (by assumption)) (by repeat (first|exact Below.refl _ _|with_reducible apply zlN|with_reducible apply zlA|refine below_step ?_ (Aside0.out (by assumption))))) (Aside0.out (by assumption)) (Aside0.out (by assumption))).mono ?_;rintro e wc ⟨rfl,hb⟩;have hh_:=zm hb;clear hb;have hb:=hh_;clear hh_))
 ·have hz_:ec≠0:=by simpa using (by assumption:(ec != 0)=true)
  have H:=H.out
  rw [if_neg hz_] at H
  simp only [Option.some.injEq,Prod.mk.injEq] at H
  obtain ⟨rfl,rfl⟩:=H
  clear hz_
  go_ret2
  exact ⟨_,rfl,Kd.R_nil _ _ _ _ _,(by repeat (first|exact Below.refl _ _|with_reducible apply zlN|with_reducible apply zlA|refine below_step ?_ (Aside0.out (by assumption))))⟩
 ·have hz_:ec=0:=by simpa using (by assumption:(ec != 0)=false)
  have H:=H.out
  rw [if_pos hz_] at H;clear hz_
  have hg_:=Option.bind_eq_some_iff.mp H;clear H;obtain ⟨⟨p1,e1⟩,F1,H⟩:=hg_;have hh_:=zm F1;clear F1;have F1:=hh_;clear hh_;(try dsimp only at H);have hg_:=Cw.gt_ H;clear H;obtain ⟨rfl,H⟩:=hg_;have hg_:=Option.bind_eq_some_iff.mp H;clear H;obtain ⟨bs,F2,H⟩:=hg_;have hh_:=zm F2;clear F2;have F2:=hh_;clear hh_;(try dsimp only at H);have hg_:=Cw.gt_ H;clear H;obtain ⟨hl64,H⟩:=hg_
  simp only [Option.some.injEq,Prod.mk.injEq] at H
  obtain ⟨rfl,rfl⟩:=H
  have hh_:=zm hl64;clear hl64;have hl64:=hh_;clear hh_
  go_wp2_with (first|(go_at_call 28;refine (inode_headWidths.calls _).mono ?_;rintro e w1 ⟨rfl,hb⟩;have hh_:=zm hb;clear hb;have hb:=hh_;clear hh_)|(go_at_call 29;refine (inode_rootWidths.calls _).mono ?_;rintro e w1 ⟨rfl,hb⟩;have hh_:=zm hb;clear hb;have hb:=hh_;clear hh_)|((with_reducible refine gate_ (.alloc 52) rfl ?_);refine box_event rfl rfl (by first|(go_simp;done)|(go_simp;rfl)) ?_;rintro gh hg w1 hbk hb;have hge:Aside0 (wc.heap.size≤gh):=⟨Nat.le_trans (below_size (by repeat (first|exact Below.refl _ _|with_reducible apply zlN|with_reducible apply zlA|refine below_step ?_ (Aside0.out (by assumption))))) (Nat.le_of_eq hg.symm)⟩; clear hg;have hh_:=zm hbk;clear hbk;have hbk:=hh_;clear hh_;have hh_:=zm hb;clear hb;have hb:=hh_;clear hh_)|((with_reducible refine gate_ (.alloc 54) rfl ?_);refine box_event rfl rfl (by first|(go_simp;done)|(go_simp;rfl)) ?_;rintro gr hg w1 hbk hb;have hge:Aside0 (wc.heap.size≤gr):=⟨Nat.le_trans (below_size (by repeat (first|exact Below.refl _ _|with_reducible apply zlN|with_reducible apply zlA|refine below_step ?_ (Aside0.out (by assumption))))) (Nat.le_of_eq hg.symm)⟩;have hne:Aside0 (gr≠gh):=⟨by rw [hg];exact Nat.ne_of_gt (blk_lt (g:=gh) (o:=Obj.cells #[.int .i64 0,.int .i64 0,.int .i64 0,.int .i64 0,.int .i64 0,.int .i64 0,.int .i64 0,.int .i64 0] 52 (0,0)) (zbB (Aside0.out (by assumption)) (by repeat (first|exact Below.refl _ _|with_reducible apply zlN|with_reducible apply zlA|refine below_step ?_ (Aside0.out (by assumption))))))⟩;clear hg;have hh_:=zm hbk;clear hbk;have hbk:=hh_;clear hh_;have hh_:=zm hb;clear hb;have hb:=hh_;clear hh_)|((with_reducible refine gate_ (.store 52 _ _) rfl ?_);refine Cw.put_event (g:=gh) (ys:=[.int .i64 8,.int .i64 8,.int .i64 8,.int .i64 8,.int .i64 32,.int .i64 64,.int .i64 32,.int .i64 32]) rfl rfl rfl (by apply IE_st8;exact rfl;exact rfl;exact rfl;exact (show _=some (Obj.cells #[.int .i64 0,.int .i64 0,.int .i64 0,.int .i64 0,.int .i64 0,.int .i64 0,.int .i64 0,.int .i64 0] 52 (0,0)) from (zbB (Aside0.out (by assumption)) (by repeat (first|exact Below.refl _ _|with_reducible apply zlN|with_reducible apply zlA|refine below_step ?_ (Aside0.out (by assumption))))))) ?_;rintro w2 hw2;have hb2:Aside0 (Below wc.heap.size wc w2):=⟨by rw [hw2];exact Cw.setL_below (Aside0.out (by assumption)) _ _ _ (by repeat (first|exact Below.refl _ _|with_reducible apply zlN|with_reducible apply zlA|refine below_step ?_ (Aside0.out (by assumption))))⟩;have hh8:Aside0 (w2.heap[gh]?=some (.cells #[.int .i64 8,.int .i64 8,.int .i64 8,.int .i64 8,.int .i64 32,.int .i64 64,.int .i64 32,.int .i64 32] 52 (0,0))):=⟨by rw [hw2];exact Cw.setL_full [.int .i64 8,.int .i64 8,.int .i64 8,.int .i64 8,.int .i64 32,.int .i64 64,.int .i64 32,.int .i64 32] (show _=some (Obj.cells #[.int .i64 0,.int .i64 0,.int .i64 0,.int .i64 0,.int .i64 0,.int .i64 0,.int .i64 0,.int .i64 0] 52 (0,0)) from (zbB (Aside0.out (by assumption)) (by repeat (first|exact Below.refl _ _|with_reducible apply zlN|with_reducible apply zlA|refine below_step ?_ (Aside0.out (by assumption)))))) rfl⟩;have hr3:Aside0 (w2.heap[gr]?=some (.cells #[.int .i64 0,.int .i64 0,.int .i64 0] 54 (0,0))):=⟨by rw [hw2,Cw.setL_far hne.out];exact (zbB (Aside0.out (by assumption)) (by repeat (first|exact Below.refl _ _|with_reducible apply zlN|with_reducible apply zlA|refine below_step ?_ (Aside0.out (by assumption)))))⟩;clear hw2)|((with_reducible refine gate_ (.store 54 _ _) rfl ?_);refine Cw.put_event (g:=gr) (ys:=[.int .i64 24,.int .i64 16,.int .i64 32]) rfl rfl rfl (by apply IE_st3;exact rfl;exact rfl;exact rfl;exact hr3.out) ?_;rintro w3 hw3;have hb3:Aside0 (Below wc.heap.size wc w3):=⟨by rw [hw3];exact Cw.setL_below (Aside0.out (by assumption)) _ _ _ hb2.out⟩;have hr3':Aside0 (w3.heap[gr]?=some (.cells #[.int .i64 24,.int .i64 16,.int .i64 32] 54 (0,0))):=⟨by rw [hw3];exact Cw.setL_full [.int .i64 24,.int .i64 16,.int .i64 32] hr3.out rfl⟩;have hh8':Aside0 (w3.heap[gh]?=some (.cells #[.int .i64 8,.int .i64 8,.int .i64 8,.int .i64 8,.int .i64 32,.int .i64 64,.int .i64 32,.int .i64 32] 52 (0,0))):=⟨by rw [hw3,Cw.setL_far (fun e=>hne.out e.symm)];exact hh8.out⟩;clear hw3 hr3 hh8 hb2))
  refine Cw.dstart (by as_aux_lemma=>kernel_rfl) rfl (fun wd hb=>?_)
  have hh_:=zm hb;clear hb;have hb:=hh_;clear hh_
  refine Cw.dpu (i:=0) (v:=?_) (a':=?_) (by simp only [List.getElem?_toArray,List.getElem?_cons_succ,List.getElem?_cons_zero];rfl) rfl (by as_aux_lemma=>kernel_rfl) (by rfl) (by exact fun _ _ _ h=>h) ?_ ?_ ?_
  rotate_left
  ·intro w'
   go_simp
   with_reducible rfl
  rotate_left
  ·simp only [Act.put,List.setIfInBounds_toArray,List.set_cons_zero,List.set_cons_succ,i64_w,i32_w]
   rfl
  refine Cw.dpu (i:=1) (v:=?_) (a':=?_) (by simp only [List.getElem?_toArray,List.getElem?_cons_succ,List.getElem?_cons_zero];rfl) rfl (by as_aux_lemma=>kernel_rfl) (by rfl) (by exact fun _ _ _ h=>h) ?_ ?_ ?_
  rotate_left
  ·intro w'
   go_simp
   with_reducible rfl
  rotate_left
  ·simp only [Act.put,List.setIfInBounds_toArray,List.set_cons_zero,List.set_cons_succ,i64_w,i32_w]
   rfl
  refine Cw.dtk (i:=2) (v:=?_) (a':=?_) (by simp only [List.getElem?_toArray,List.getElem?_cons_succ,List.getElem?_cons_zero];rfl) rfl (by as_aux_lemma=>kernel_rfl) (by rfl) (by exact fun _ _ _ h=>h) ?_ (by repeat (first|exact Below.refl _ _|with_reducible apply zlN|with_reducible apply zlA|refine below_step ?_ (Aside0.out (by assumption)))) ?_ ?_
  rotate_left
  ·intro w' hs_
   have hs:=zm hs_
   clear hs_
   apply Eq.trans
   ·apply IE_c3
    ·rfl
    ·rfl
    ·exact (zbB (Aside0.out (by assumption)) (by repeat (first|exact Below.refl _ _|with_reducible apply zlN|with_reducible apply zlA|refine below_step ?_ (Aside0.out (by assumption)))))
    ·rfl
   ·rfl
  rotate_left
  ·simp only [Act.put,List.setIfInBounds_toArray,List.set_cons_zero,List.set_cons_succ,i64_w,i32_w]
   rfl
  refine Cw.dpu (i:=3) (v:=?_) (a':=?_) (by simp only [List.getElem?_toArray,List.getElem?_cons_succ,List.getElem?_cons_zero];rfl) rfl (by as_aux_lemma=>kernel_rfl) (by rfl) (by exact fun _ _ _ h=>h) ?_ ?_ ?_
  rotate_left
  ·intro w'
   go_simp
   with_reducible rfl
  rotate_left
  ·simp only [Act.put,List.setIfInBounds_toArray,List.set_cons_zero,List.set_cons_succ,i64_w,i32_w]
   rfl
  refine Cw.dpu (i:=4) (v:=?_) (a':=?_) (by simp only [List.getElem?_toArray,List.getElem?_cons_succ,List.getElem?_cons_zero];rfl) rfl (by as_aux_lemma=>kernel_rfl) (by rfl) (by exact fun _ _ _ h=>h) ?_ ?_ ?_
  rotate_left
  ·intro w'
   go_simp
   with_reducible rfl
  rotate_left
  ·simp only [Act.put,List.setIfInBounds_toArray,List.set_cons_zero,List.set_cons_succ,i64_w,i32_w]
   rfl
  refine Cw.dtk (i:=5) (v:=?_) (a':=?_) (by simp only [List.getElem?_toArray,List.getElem?_cons_succ,List.getElem?_cons_zero];rfl) rfl (by as_aux_lemma=>kernel_rfl) (by rfl) (by exact fun _ _ _ h=>h) ?_ (by repeat (first|exact Below.refl _ _|with_reducible apply zlN|with_reducible apply zlA|refine below_step ?_ (Aside0.out (by assumption)))) ?_ ?_
  rotate_left
  ·intro w' hs_
   have hs:=zm hs_
   clear hs_
   apply Eq.trans
   ·apply IE_c3
    ·rfl
    ·rfl
    ·exact (zbB (Aside0.out (by assumption)) (by repeat (first|exact Below.refl _ _|with_reducible apply zlN|with_reducible apply zlA|refine below_step ?_ (Aside0.out (by assumption)))))
    ·rfl
   ·rfl
  rotate_left
  ·simp only [Act.put,List.setIfInBounds_toArray,List.set_cons_zero,List.set_cons_succ,i64_w,i32_w]
   rfl
  refine Cw.dpu (i:=6) (v:=?_) (a':=?_) (by simp only [List.getElem?_toArray,List.getElem?_cons_succ,List.getElem?_cons_zero];rfl) rfl (by as_aux_lemma=>kernel_rfl) (by rfl) (by exact fun _ _ _ h=>h) ?_ ?_ ?_
  rotate_left
  ·intro w'
   go_simp
   with_reducible rfl
  rotate_left
  ·simp only [Act.put,List.setIfInBounds_toArray,List.set_cons_zero,List.set_cons_succ,i64_w,i32_w]
   rfl
  refine Cw.dpu (i:=7) (v:=?_) (a':=?_) (by simp only [List.getElem?_toArray,List.getElem?_cons_succ,List.getElem?_cons_zero];rfl) rfl (by as_aux_lemma=>kernel_rfl) (by rfl) (by exact fun _ _ _ h=>h) ?_ ?_ ?_
  rotate_left
  ·intro w'
   go_simp
   with_reducible rfl
  rotate_left
  ·simp only [Act.put,List.setIfInBounds_toArray,List.set_cons_zero,List.set_cons_succ,i64_w,i32_w]
   rfl
  refine Cw.dtk (i:=8) (v:=?_) (a':=?_) (by simp only [List.getElem?_toArray,List.getElem?_cons_succ,List.getElem?_cons_zero];rfl) rfl (by as_aux_lemma=>kernel_rfl) (by rfl) (by exact fun _ _ _ h=>h) ?_ (by repeat (first|exact Below.refl _ _|with_reducible apply zlN|with_reducible apply zlA|refine below_step ?_ (Aside0.out (by assumption)))) ?_ ?_
  rotate_left
  ·intro w' hs_
   have hs:=zm hs_
   clear hs_
   apply Eq.trans
   ·apply IE_c22
    ·rfl
    ·rfl
    ·exact (zbB (Aside0.out (by assumption)) (by repeat (first|exact Below.refl _ _|with_reducible apply zlN|with_reducible apply zlA|refine below_step ?_ (Aside0.out (by assumption)))))
    ·rfl
   ·rfl
  rotate_left
  ·simp only [Act.put,List.setIfInBounds_toArray,List.set_cons_zero,List.set_cons_succ,i64_w,i32_w]
   rfl
  refine Cw.dpu (i:=9) (v:=?_) (a':=?_) (by simp only [List.getElem?_toArray,List.getElem?_cons_succ,List.getElem?_cons_zero];rfl) rfl (by as_aux_lemma=>kernel_rfl) (by rfl) (by exact fun _ _ _ h=>h) ?_ ?_ ?_
  rotate_left
  ·intro w'
   go_simp
   with_reducible rfl
  rotate_left
  ·simp only [Act.put,List.setIfInBounds_toArray,List.set_cons_zero,List.set_cons_succ,i64_w,i32_w]
   rfl
  refine Cw.dpu (i:=10) (v:=?_) (a':=?_) (by simp only [List.getElem?_toArray,List.getElem?_cons_succ,List.getElem?_cons_zero];rfl) rfl (by as_aux_lemma=>kernel_rfl) (by rfl) (by exact fun _ _ _ h=>h) ?_ ?_ ?_
  rotate_left
  ·intro w'
   go_simp
   with_reducible rfl
  rotate_left
  ·simp only [Act.put,List.setIfInBounds_toArray,List.set_cons_zero,List.set_cons_succ,i64_w,i32_w]
   rfl
  refine Cw.dpu (i:=11) (v:=?_) (a':=?_) (by simp only [List.getElem?_toArray,List.getElem?_cons_succ,List.getElem?_cons_zero];rfl) rfl (by as_aux_lemma=>kernel_rfl) (by rfl) (by exact fun _ _ _ h=>h) ?_ ?_ ?_
  rotate_left
  ·intro w'
   go_simp
   with_reducible rfl
  rotate_left
  ·simp only [Act.put,List.setIfInBounds_toArray,List.set_cons_zero,List.set_cons_succ,i64_w,i32_w]
   rfl
  refine Cw.dtk (i:=12) (v:=?_) (a':=?_) (by simp only [List.getElem?_toArray,List.getElem?_cons_succ,List.getElem?_cons_zero];rfl) rfl (by as_aux_lemma=>kernel_rfl) (by rfl) (by exact fun _ _ _ h=>h) ?_ (by repeat (first|exact Below.refl _ _|with_reducible apply zlN|with_reducible apply zlA|refine below_step ?_ (Aside0.out (by assumption)))) ?_ ?_
  rotate_left
  ·intro w' hs_
   have hs:=zm hs_
   clear hs_
   apply Eq.trans
   ·apply IE_c3
    ·rfl
    ·rfl
    ·exact (zbB (Aside0.out (by assumption)) (by repeat (first|exact Below.refl _ _|with_reducible apply zlN|with_reducible apply zlA|refine below_step ?_ (Aside0.out (by assumption)))))
    ·rfl
   ·rfl
  rotate_left
  ·simp only [Act.put,List.setIfInBounds_toArray,List.set_cons_zero,List.set_cons_succ,i64_w,i32_w]
   rfl
  refine Cw.dpu (i:=13) (v:=?_) (a':=?_) (by simp only [List.getElem?_toArray,List.getElem?_cons_succ,List.getElem?_cons_zero];rfl) rfl (by as_aux_lemma=>kernel_rfl) (by rfl) (by exact fun _ _ _ h=>h) ?_ ?_ ?_
  rotate_left
  ·intro w'
   go_simp
   with_reducible rfl
  rotate_left
  ·simp only [Act.put,List.setIfInBounds_toArray,List.set_cons_zero,List.set_cons_succ,i64_w,i32_w]
   rfl
  refine Cw.dpu (i:=14) (v:=?_) (a':=?_) (by simp only [List.getElem?_toArray,List.getElem?_cons_succ,List.getElem?_cons_zero];rfl) rfl (by as_aux_lemma=>kernel_rfl) (by rfl) (by exact fun _ _ _ h=>h) ?_ ?_ ?_
  rotate_left
  ·intro w'
   go_simp
   with_reducible rfl
  rotate_left
  ·simp only [Act.put,List.setIfInBounds_toArray,List.set_cons_zero,List.set_cons_succ,i64_w,i32_w]
   rfl
  refine Cw.dtk (i:=15) (v:=?_) (a':=?_) (by simp only [List.getElem?_toArray,List.getElem?_cons_succ,List.getElem?_cons_zero];rfl) rfl (by as_aux_lemma=>kernel_rfl) (by rfl) (by exact fun _ _ _ h=>h) ?_ (by repeat (first|exact Below.refl _ _|with_reducible apply zlN|with_reducible apply zlA|refine below_step ?_ (Aside0.out (by assumption)))) ?_ ?_
  rotate_left
  ·intro w' hs_
   have hs:=zm hs_
   clear hs_
   apply Eq.trans
   ·apply IE_c2
    ·rfl
    ·rfl
    ·exact (zbB (Aside0.out (by assumption)) (by repeat (first|exact Below.refl _ _|with_reducible apply zlN|with_reducible apply zlA|refine below_step ?_ (Aside0.out (by assumption)))))
    ·rfl
   ·rfl
  rotate_left
  ·simp only [Act.put,List.setIfInBounds_toArray,List.set_cons_zero,List.set_cons_succ,i64_w,i32_w]
   rfl
  refine Cw.dpu (i:=16) (v:=?_) (a':=?_) (by simp only [List.getElem?_toArray,List.getElem?_cons_succ,List.getElem?_cons_zero];rfl) rfl (by as_aux_lemma=>kernel_rfl) (by rfl) (by exact fun _ _ _ h=>h) ?_ ?_ ?_
  rotate_left
  ·intro w'
   go_simp
   with_reducible rfl
  rotate_left
  ·simp only [Act.put,List.setIfInBounds_toArray,List.set_cons_zero,List.set_cons_succ,i64_w,i32_w]
   rfl
  refine Cw.dpu (i:=17) (v:=?_) (a':=?_) (by simp only [List.getElem?_toArray,List.getElem?_cons_succ,List.getElem?_cons_zero];rfl) rfl (by as_aux_lemma=>kernel_rfl) (by rfl) (by exact fun _ _ _ h=>h) ?_ ?_ ?_
  rotate_left
  ·intro w'
   go_simp
   with_reducible rfl
  rotate_left
  ·simp only [Act.put,List.setIfInBounds_toArray,List.set_cons_zero,List.set_cons_succ,i64_w,i32_w]
   rfl
  refine Cw.dtk (i:=18) (v:=?_) (a':=?_) (by simp only [List.getElem?_toArray,List.getElem?_cons_succ,List.getElem?_cons_zero];rfl) rfl (by as_aux_lemma=>kernel_rfl) (by rfl) (by exact fun _ _ _ h=>h) ?_ (by repeat (first|exact Below.refl _ _|with_reducible apply zlN|with_reducible apply zlA|refine below_step ?_ (Aside0.out (by assumption)))) ?_ ?_
  rotate_left
  ·intro w' hs_
   have hs:=zm hs_
   clear hs_
   apply Eq.trans
   ·apply IE_c3
    ·rfl
    ·rfl
    ·exact (zbB (Aside0.out (by assumption)) (by repeat (first|exact Below.refl _ _|with_reducible apply zlN|with_reducible apply zlA|refine below_step ?_ (Aside0.out (by assumption)))))
    ·rfl
   ·rfl
  rotate_left
  ·simp only [Act.put,List.setIfInBounds_toArray,List.set_cons_zero,List.set_cons_succ,i64_w,i32_w]
   rfl
  refine Cw.dpu (i:=19) (v:=?_) (a':=?_) (by simp only [List.getElem?_toArray,List.getElem?_cons_succ,List.getElem?_cons_zero];rfl) rfl (by as_aux_lemma=>kernel_rfl) (by rfl) (by exact fun _ _ _ h=>h) ?_ ?_ ?_
  rotate_left
  ·intro w'
   go_simp
   with_reducible rfl
  rotate_left
  ·simp only [Act.put,List.setIfInBounds_toArray,List.set_cons_zero,List.set_cons_succ,i64_w,i32_w]
   rfl
  refine Cw.dpu (i:=20) (v:=?_) (a':=?_) (by simp only [List.getElem?_toArray,List.getElem?_cons_succ,List.getElem?_cons_zero];rfl) rfl (by as_aux_lemma=>kernel_rfl) (by rfl) (by exact fun _ _ _ h=>h) ?_ ?_ ?_
  rotate_left
  ·intro w'
   go_simp
   with_reducible rfl
  rotate_left
  ·simp only [Act.put,List.setIfInBounds_toArray,List.set_cons_zero,List.set_cons_succ,i64_w,i32_w]
   rfl
  refine Cw.dtk (i:=21) (v:=?_) (a':=?_) (by simp only [List.getElem?_toArray,List.getElem?_cons_succ,List.getElem?_cons_zero];rfl) rfl (by as_aux_lemma=>kernel_rfl) (by rfl) (by exact fun _ _ _ h=>h) ?_ (by repeat (first|exact Below.refl _ _|with_reducible apply zlN|with_reducible apply zlA|refine below_step ?_ (Aside0.out (by assumption)))) ?_ ?_
  rotate_left
  ·intro w' hs_
   have hs:=zm hs_
   clear hs_
   apply Eq.trans
   ·apply IE_c2
    ·rfl
    ·rfl
    ·exact (zbB (Aside0.out (by assumption)) (by repeat (first|exact Below.refl _ _|with_reducible apply zlN|with_reducible apply zlA|refine below_step ?_ (Aside0.out (by assumption)))))
    ·rfl
   ·rfl
  rotate_left
  ·simp only [Act.put,List.setIfInBounds_toArray,List.set_cons_zero,List.set_cons_succ,i64_w,i32_w]
   rfl
  refine Cw.dpu (i:=22) (v:=?_) (a':=?_) (by simp only [List.getElem?_toArray,List.getElem?_cons_succ,List.getElem?_cons_zero];rfl) rfl (by as_aux_lemma=>kernel_rfl) (by rfl) (by exact fun _ _ _ h=>h) ?_ ?_ ?_
  rotate_left
  ·intro w'
   go_simp
   with_reducible rfl
  rotate_left
  ·simp only [Act.put,List.setIfInBounds_toArray,List.set_cons_zero,List.set_cons_succ,i64_w,i32_w]
   rfl
  refine Cw.done1 (i:=23) (N:=some 44) (by simp only [List.getElem?_toArray,List.getElem?_cons_succ,List.getElem?_cons_zero];rfl) rfl (by as_aux_lemma=>kernel_rfl) (fun K hK=>?_)
  refine Cw.dnew (fun g=>.slice (some ⟨g,0,none⟩) 8 8) (by rfl) rfl (by apply IE_lit8 <;> rfl) ?_
  rintro gl hg wP hbk hb
  clear hg
  have hh_:=zm hbk;clear hbk;have hbk:=hh_;clear hh_;have hh_:=zm hb;clear hb;have hb:=hh_;clear hh_
  refine hK.out _ _ (by repeat (first|exact Below.refl _ _|with_reducible apply zlN|with_reducible apply zlA|refine below_step ?_ (Aside0.out (by assumption)))) (fun _=>?_)
  clear hK K
  refine znm (some 44) ?_
  refine Cw.done1 (i:=24) (N:=some 45) (by simp only [List.getElem?_toArray,List.getElem?_cons_succ,List.getElem?_cons_zero];rfl) rfl (by as_aux_lemma=>kernel_rfl) (fun K hK=>?_)
  refine goes_ Try.func30 (by as_aux_lemma=>kernel_rfl) rfl _ (by rfl) rfl rfl (by go_simp;rfl) ?_
  refine (seal_Pack.calls k _ 8 [8,8,8,8,32,64,32,32] _ 8 [IntKind.u64.wrap a0_0,IntKind.u64.wrap a0_5,IntKind.u64.wrap (l0_6.length:Int),0,IntKind.u64.wrap a0_1,IntKind.u64.wrap a0_2,IntKind.u64.wrap a0_3,IntKind.u64.wrap a0_4] _ _ _ (Cw.C_ints (zbB (Aside0.out (by assumption)) (by repeat (first|exact Below.refl _ _|with_reducible apply zlN|with_reducible apply zlA|refine below_step ?_ (Aside0.out (by assumption))))) rfl (by simp)) (by simp) (Cw.C_ints (zbB (Aside0.out (by assumption)) (by repeat (first|exact Below.refl _ _|with_reducible apply zlN|with_reducible apply zlA|refine below_step ?_ (Aside0.out (by assumption))))) rfl (by simp)) (by simp) F1.out).mono ?_
  rintro e w1 ⟨v,rfl,ho,hb⟩
  have hh_:=zm ho;clear ho;have ho:=hh_;clear hh_;have hh_:=zm hb;clear hb;have hb:=hh_;clear hh_
  refine ⟨_,rfl,?_⟩
  refine hK.out _ _ (by repeat (first|exact Below.refl _ _|with_reducible apply zlN|with_reducible apply zlA|refine below_step ?_ (Aside0.out (by assumption)))) (fun _=>?_)
  clear hK K
  refine znm (some 45) ?_
  refine Cw.dpu (i:=25) (v:=?_) (a':=?_) (by simp only [List.getElem?_toArray,List.getElem?_cons_succ,List.getElem?_cons_zero];rfl) rfl (by as_aux_lemma=>kernel_rfl) (by rfl) (by exact fun _ _ _ h=>h) ?_ ?_ ?_
  rotate_left
  ·intro w'
   go_simp
   with_reducible rfl
  rotate_left
  ·simp only [Act.put,List.setIfInBounds_toArray,List.set_cons_zero,List.set_cons_succ,i64_w,i32_w]
   rfl
  refine Cw.dpu (i:=26) (v:=?_) (a':=?_) (by simp only [List.getElem?_toArray,List.getElem?_cons_succ,List.getElem?_cons_zero];rfl) rfl (by as_aux_lemma=>kernel_rfl) (by rfl) (by exact fun _ _ _ h=>h) ?_ ?_ ?_
  rotate_left
  ·intro w'
   go_simp
   with_reducible rfl
  rotate_left
  ·simp only [Act.put,List.setIfInBounds_toArray,List.set_cons_zero,List.set_cons_succ,i64_w,i32_w]
   rfl
  refine Cw.dpu (i:=27) (v:=?_) (a':=?_) (by simp only [List.getElem?_toArray,List.getElem?_cons_succ,List.getElem?_cons_zero];rfl) rfl (by as_aux_lemma=>kernel_rfl) (by rfl) (by exact fun _ _ _ h=>h) ?_ ?_ ?_
  rotate_left
  ·intro w'
   go_simp
   with_reducible rfl
  rotate_left
  ·simp only [Act.put,List.setIfInBounds_toArray,List.set_cons_zero,List.set_cons_succ,i64_w,i32_w]
   rfl
  refine Cw.dpu (i:=28) (v:=?_) (a':=?_) (by simp only [List.getElem?_toArray,List.getElem?_cons_succ,List.getElem?_cons_zero];rfl) rfl (by as_aux_lemma=>kernel_rfl) (by rfl) (by exact fun _ _ _ h=>h) ?_ ?_ ?_
  rotate_left
  ·intro w'
   go_simp
   with_reducible rfl
  rotate_left
  ·simp only [Act.put,List.setIfInBounds_toArray,List.set_cons_zero,List.set_cons_succ,i64_w,i32_w]
   rfl
  refine Cw.dpu (i:=29) (v:=?_) (a':=?_) (by simp only [List.getElem?_toArray,List.getElem?_cons_succ,List.getElem?_cons_zero];rfl) rfl (by as_aux_lemma=>kernel_rfl) (by rfl) (by exact fun _ _ _ h=>h) ?_ ?_ ?_
  rotate_left
  ·intro w'
   go_simp
   with_reducible rfl
  rotate_left
  ·simp only [Act.put,List.setIfInBounds_toArray,List.set_cons_zero,List.set_cons_succ,i64_w,i32_w]
   rfl
  refine zdo ?_
  go_wp2_with (first|((with_reducible refine gate_ (.load 22 _) rfl ?_);refine Kd.event_run rfl (by apply IE_c22;exact rfl;exact rfl;exact (zbB (Aside0.out (by assumption)) (by repeat (first|exact Below.refl _ _|with_reducible apply zlN|with_reducible apply zlA|refine below_step ?_ (Aside0.out (by assumption)))));exact rfl) ?_))
  go_loopw [7,54] (fun v i wr=>∃ (j:Nat) (b:List Int),i=.int .i64 (j:Int)∧Aside0 (j≤l0_6.length)∧Aside0 (inode_Encode.go k (l0_6.drop j) b=some bs)∧Aside0 (Kd.R (Kd.int .u8) 5 wr wP.heap.size (fun _=>True) v b)∧Aside0 (Below wP.heap.size wP wr)) (fun _ i _=>l0_6.length - (intOf i).toNat)
  case atStart=>exact ⟨0,p1,by simp,⟨Nat.zero_le _⟩,⟨F2.out⟩,ho,⟨(by repeat (first|exact Below.refl _ _|with_reducible apply zlN|with_reducible apply zlA|refine below_step ?_ (Aside0.out (by assumption))))⟩⟩
  case round =>
   obtain ⟨j,b,rfl,hj,HA,hR,hbr⟩:=hrel
   have hmx:=Cw.fits_C hr0_6.out
   clear ho
   by_cases hlt:j < l0_6.length
   ·have H:=HA.out
    clear HA
    rw [IE_drop l0_6 j hlt] at H
    simp only [inode_Encode.go] at H
    have hg_:=Option.bind_eq_some_iff.mp H;clear H;obtain ⟨⟨p,e⟩,G1,H⟩:=hg_;have hh_:=zm G1;clear G1;have G1:=hh_;clear hh_;(try dsimp only at H);have hg_:=Cw.gt_ H;clear H;obtain ⟨rfl,H⟩:=hg_;have hg_:=Cw.gt_ H;clear H;obtain ⟨hroom,H⟩:=hg_
    have hh_:=zm H;clear H;have H:=hh_;clear hh_;have hh_:=zm hroom;clear hroom;have hroom:=hh_;clear hh_
    obtain ⟨ad,hA,h0,h1,h2⟩:=at_T51 (Kd.C_below hr0_6.out (by repeat (first|exact Below.refl _ _|with_reducible apply zlN|with_reducible apply zlA|refine below_step ?_ (Aside0.out (by assumption)))):Kd.C k51 wr A0_6 l0_6.length l0_6) (j:Int) (by omega) (by omega)
    subst hA
    rw [Int.toNat_natCast] at h0 h1 h2
    go_wp2_with (first|((with_reducible refine gate_ (.alloc 51) rfl ?_);refine Cw.box_store rfl rfl rfl rfl rfl rfl (by first|(go_simp;done)|(go_simp;rfl)) (by first|(go_simp;done)|(go_simp;rfl)) ?_;rintro g hg w1 hbk hb;clear hg;have hh_:=zm hbk;clear hbk;have hbk:=hh_;clear hh_;have hh_:=zm hb;clear hb;have hb:=hh_;clear hh_))
    refine Cw.dstart (by as_aux_lemma=>kernel_rfl) rfl (fun wd hb=>?_)
    have hh_:=zm hb;clear hb;have hb:=hh_;clear hh_
    refine Cw.dpu (i:=0) (v:=?_) (a':=?_) (by simp only [List.getElem?_toArray,List.getElem?_cons_succ,List.getElem?_cons_zero];rfl) rfl (by as_aux_lemma=>kernel_rfl) (by rfl) (by exact fun _ _ _ h=>h) ?_ ?_ ?_
    rotate_left
    ·intro w'
     go_simp
     with_reducible rfl
    rotate_left
    ·simp only [Act.put,List.setIfInBounds_toArray,List.set_cons_zero,List.set_cons_succ,i64_w,i32_w]
     rfl
    refine Cw.dpu (i:=1) (v:=?_) (a':=?_) (by simp only [List.getElem?_toArray,List.getElem?_cons_succ,List.getElem?_cons_zero];rfl) rfl (by as_aux_lemma=>kernel_rfl) (by rfl) (by exact fun _ _ _ h=>h) ?_ ?_ ?_
    rotate_left
    ·intro w'
     go_simp
     with_reducible rfl
    rotate_left
    ·simp only [Act.put,List.setIfInBounds_toArray,List.set_cons_zero,List.set_cons_succ,i64_w,i32_w]
     rfl
    refine Cw.dtk (i:=2) (v:=?_) (a':=?_) (by simp only [List.getElem?_toArray,List.getElem?_cons_succ,List.getElem?_cons_zero];rfl) rfl (by as_aux_lemma=>kernel_rfl) (by rfl) (by exact fun _ _ _ h=>h) ?_ (by repeat (first|exact Below.refl _ _|with_reducible apply zlN|with_reducible apply zlA|refine below_step ?_ (Aside0.out (by assumption)))) ?_ ?_
    rotate_left
    ·intro w' hs_
     have hs:=zm hs_
     clear hs_
     apply Eq.trans
     ·apply IE_c3
      ·rfl
      ·rfl
      ·exact (zbB (Aside0.out (by assumption)) (by repeat (first|exact Below.refl _ _|with_reducible apply zlN|with_reducible apply zlA|refine below_step ?_ (Aside0.out (by assumption)))))
      ·rfl
     ·rfl
    rotate_left
    ·simp only [Act.put,List.setIfInBounds_toArray,List.set_cons_zero,List.set_cons_succ,i64_w,i32_w]
     rfl
    refine Cw.dpu (i:=3) (v:=?_) (a':=?_) (by simp only [List.getElem?_toArray,List.getElem?_cons_succ,List.getElem?_cons_zero];rfl) rfl (by as_aux_lemma=>kernel_rfl) (by rfl) (by exact fun _ _ _ h=>h) ?_ ?_ ?_
    rotate_left
    ·intro w'
     go_simp
     with_reducible rfl
    rotate_left
    ·simp only [Act.put,List.setIfInBounds_toArray,List.set_cons_zero,List.set_cons_succ,i64_w,i32_w]
     rfl
    refine Cw.dpu (i:=4) (v:=?_) (a':=?_) (by simp only [List.getElem?_toArray,List.getElem?_cons_succ,List.getElem?_cons_zero];rfl) rfl (by as_aux_lemma=>kernel_rfl) (by rfl) (by exact fun _ _ _ h=>h) ?_ ?_ ?_
    rotate_left
    ·intro w'
     go_simp
     with_reducible rfl
    rotate_left
    ·simp only [Act.put,List.setIfInBounds_toArray,List.set_cons_zero,List.set_cons_succ,i64_w,i32_w]
     rfl
    refine Cw.dtk (i:=5) (v:=?_) (a':=?_) (by simp only [List.getElem?_toArray,List.getElem?_cons_succ,List.getElem?_cons_zero];rfl) rfl (by as_aux_lemma=>kernel_rfl) (by rfl) (by exact fun _ _ _ h=>h) ?_ (by repeat (first|exact Below.refl _ _|with_reducible apply zlN|with_reducible apply zlA|refine below_step ?_ (Aside0.out (by assumption)))) ?_ ?_
    rotate_left
    ·intro w' hs_
     have hs:=zm hs_
     clear hs_
     apply Eq.trans
     ·apply IE_c3
      ·rfl
      ·rfl
      ·exact (zbB (Aside0.out (by assumption)) (by repeat (first|exact Below.refl _ _|with_reducible apply zlN|with_reducible apply zlA|refine below_step ?_ (Aside0.out (by assumption)))))
      ·rfl
     ·rfl
    rotate_left
    ·simp only [Act.put,List.setIfInBounds_toArray,List.set_cons_zero,List.set_cons_succ,i64_w,i32_w]
     rfl
    refine Cw.dpu (i:=6) (v:=?_) (a':=?_) (by simp only [List.getElem?_toArray,List.getElem?_cons_succ,List.getElem?_cons_zero];rfl) rfl (by as_aux_lemma=>kernel_rfl) (by rfl) (by exact fun _ _ _ h=>h) ?_ ?_ ?_
    rotate_left
    ·intro w'
     go_simp
     with_reducible rfl
    rotate_left
    ·simp only [Act.put,List.setIfInBounds_toArray,List.set_cons_zero,List.set_cons_succ,i64_w,i32_w]
     rfl
    refine Cw.dpu (i:=7) (v:=?_) (a':=?_) (by simp only [List.getElem?_toArray,List.getElem?_cons_succ,List.getElem?_cons_zero];rfl) rfl (by as_aux_lemma=>kernel_rfl) (by rfl) (by exact fun _ _ _ h=>h) ?_ ?_ ?_
    rotate_left
    ·intro w'
     go_simp
     with_reducible rfl
    rotate_left
    ·simp only [Act.put,List.setIfInBounds_toArray,List.set_cons_zero,List.set_cons_succ,i64_w,i32_w]
     rfl
    refine Cw.dtk (i:=8) (v:=?_) (a':=?_) (by simp only [List.getElem?_toArray,List.getElem?_cons_succ,List.getElem?_cons_zero];rfl) rfl (by as_aux_lemma=>kernel_rfl) (by rfl) (by exact fun _ _ _ h=>h) ?_ (by repeat (first|exact Below.refl _ _|with_reducible apply zlN|with_reducible apply zlA|refine below_step ?_ (Aside0.out (by assumption)))) ?_ ?_
    rotate_left
    ·intro w' hs_
     have hs:=zm hs_
     clear hs_
     apply Eq.trans
     ·apply IE_c3
      ·rfl
      ·rfl
      ·exact (zbB (Aside0.out (by assumption)) (by repeat (first|exact Below.refl _ _|with_reducible apply zlN|with_reducible apply zlA|refine below_step ?_ (Aside0.out (by assumption)))))
      ·rfl
     ·rfl
    rotate_left
    ·simp only [Act.put,List.setIfInBounds_toArray,List.set_cons_zero,List.set_cons_succ,i64_w,i32_w]
     rfl
    refine Cw.dpu (i:=9) (v:=?_) (a':=?_) (by simp only [List.getElem?_toArray,List.getElem?_cons_succ,List.getElem?_cons_zero];rfl) rfl (by as_aux_lemma=>kernel_rfl) (by rfl) (by exact fun _ _ _ h=>h) ?_ ?_ ?_
    rotate_left
    ·intro w'
     go_simp
     with_reducible rfl
    rotate_left
    ·simp only [Act.put,List.setIfInBounds_toArray,List.set_cons_zero,List.set_cons_succ,i64_w,i32_w]
     rfl
    refine Cw.done1 (i:=10) (N:=some 69) (by simp only [List.getElem?_toArray,List.getElem?_cons_succ,List.getElem?_cons_zero];rfl) rfl (by as_aux_lemma=>kernel_rfl) (fun K hK=>?_)
    refine Cw.dnew (fun g=>.slice (some ⟨g,0,none⟩) 3 3) (by rfl) rfl (by apply IE_lit3 <;> rfl) ?_
    rintro gl hg w1 hbk hb
    clear hg
    have hh_:=zm hbk;clear hbk;have hbk:=hh_;clear hh_;have hh_:=zm hb;clear hb;have hb:=hh_;clear hh_
    refine hK.out _ _ (by repeat (first|exact Below.refl _ _|with_reducible apply zlN|with_reducible apply zlA|refine below_step ?_ (Aside0.out (by assumption)))) (fun _=>?_)
    clear hK K
    refine znm (some 69) ?_
    refine Cw.done1 (i:=11) (N:=some 70) (by simp only [List.getElem?_toArray,List.getElem?_cons_succ,List.getElem?_cons_zero];rfl) rfl (by as_aux_lemma=>kernel_rfl) (fun K hK=>?_)
    refine goes_ Try.func30 (by as_aux_lemma=>kernel_rfl) rfl _ (by rfl) rfl rfl (by go_simp;rfl) ?_
    refine (seal_Pack.calls k _ 3 [24,16,32] _ 3 [IntKind.u64.wrap (rd_T51 l0_6 (j:Int)).f0,IntKind.u64.wrap (rd_T51 l0_6 (j:Int)).f1,IntKind.u64.wrap (rd_T51 l0_6 (j:Int)).f2] _ _ _ (Cw.C_ints (zbB (Aside0.out (by assumption)) (by repeat (first|exact Below.refl _ _|with_reducible apply zlN|with_reducible apply zlA|refine below_step ?_ (Aside0.out (by assumption))))) rfl (by simp)) (by simp) (Cw.C_ints (zbB (Aside0.out (by assumption)) (by repeat (first|exact Below.refl _ _|with_reducible apply zlN|with_reducible apply zlA|refine below_step ?_ (Aside0.out (by assumption))))) rfl (by simp)) (by simp) G1.out).mono ?_
    rintro e w1 ⟨vp,rfl,ho0,hb⟩
    obtain ⟨A_0,c_0,rfl,hc_0,hr_0⟩:=Kd.R_reads ho0;clear ho0;have hh_:=zm hc_0;clear hc_0;have hc_0:=hh_;clear hh_;have hh_:=zm hr_0;clear hr_0;have hr_0:=hh_;clear hh_;have hh_:=zm hb;clear hb;have hb:=hh_;clear hh_
    refine ⟨_,rfl,?_⟩
    refine hK.out _ _ (by repeat (first|exact Below.refl _ _|with_reducible apply zlN|with_reducible apply zlA|refine below_step ?_ (Aside0.out (by assumption)))) (fun _=>?_)
    clear hK K
    refine znm (some 70) ?_
    refine Cw.dpu (i:=12) (v:=?_) (a':=?_) (by simp only [List.getElem?_toArray,List.getElem?_cons_succ,List.getElem?_cons_zero];rfl) rfl (by as_aux_lemma=>kernel_rfl) (by rfl) (by exact fun _ _ _ h=>h) ?_ ?_ ?_
    rotate_left
    ·intro w'
     go_simp
     with_reducible rfl
    rotate_left
    ·simp only [Act.put,List.setIfInBounds_toArray,List.set_cons_zero,List.set_cons_succ,i64_w,i32_w]
     rfl
    refine Cw.dpu (i:=13) (v:=?_) (a':=?_) (by simp only [List.getElem?_toArray,List.getElem?_cons_succ,List.getElem?_cons_zero];rfl) rfl (by as_aux_lemma=>kernel_rfl) (by rfl) (by exact fun _ _ _ h=>h) ?_ ?_ ?_
    rotate_left
    ·intro w'
     go_simp
     with_reducible rfl
    rotate_left
    ·simp only [Act.put,List.setIfInBounds_toArray,List.set_cons_zero,List.set_cons_succ,i64_w,i32_w]
     rfl
    refine Cw.dpu (i:=14) (v:=?_) (a':=?_) (by simp only [List.getElem?_toArray,List.getElem?_cons_succ,List.getElem?_cons_zero];rfl) rfl (by as_aux_lemma=>kernel_rfl) (by rfl) (by exact fun _ _ _ h=>h) ?_ ?_ ?_
    rotate_left
    ·intro w'
     go_simp
     with_reducible rfl
    rotate_left
    ·simp only [Act.put,List.setIfInBounds_toArray,List.set_cons_zero,List.set_cons_succ,i64_w,i32_w]
     rfl
    refine Cw.dpu (i:=15) (v:=?_) (a':=?_) (by simp only [List.getElem?_toArray,List.getElem?_cons_succ,List.getElem?_cons_zero];rfl) rfl (by as_aux_lemma=>kernel_rfl) (by rfl) (by exact fun _ _ _ h=>h) ?_ ?_ ?_
    rotate_left
    ·intro w'
     go_simp
     with_reducible rfl
    rotate_left
    ·simp only [Act.put,List.setIfInBounds_toArray,List.set_cons_zero,List.set_cons_succ,i64_w,i32_w]
     rfl
    refine Cw.dpu (i:=16) (v:=?_) (a':=?_) (by simp only [List.getElem?_toArray,List.getElem?_cons_succ,List.getElem?_cons_zero];rfl) rfl (by as_aux_lemma=>kernel_rfl) (by rfl) (by exact fun _ _ _ h=>h) ?_ ?_ ?_
    rotate_left
    ·intro w'
     go_simp
     with_reducible rfl
    rotate_left
    ·simp only [Act.put,List.setIfInBounds_toArray,List.set_cons_zero,List.set_cons_succ,i64_w,i32_w]
     rfl
    refine zdo ?_
    go_wp2_with (first|((with_reducible refine gate_builtin (b:=.append) (xs:=#[.tmp 76,.tmp 77]) rfl ?_);at_builtin;refine Kd.R_append_rows (Kd.int .u8) (w0:=wP) wP.heap.size rfl (.tmp 76) (.tmp 77) 25 5 (.int .u8 0) 1 rfl Try.underlying25 info5 rfl (by decide) (by omega) u7 b p _ _ _ (fun _=>True) (fun _=>False) rfl rfl (Kd.R_below (Aside0.out (by assumption)) (by repeat (first|exact Below.refl _ _|with_reducible apply zlN|with_reducible apply zlA|refine below_step ?_ (Aside0.out (by assumption))))) (Kd.C_below (Aside0.out (by assumption)) (by repeat (first|exact Below.refl _ _|with_reducible apply zlN|with_reducible apply zlA|refine below_step ?_ (Aside0.out (by assumption))))) (fun _ _ h=>h) (fun _ h=>h.elim) (fun _ _=>trivial) (by repeat (first|exact Below.refl _ _|with_reducible apply zlN|with_reducible apply zlA|refine below_step ?_ (Aside0.out (by assumption)))) (below_size (by repeat (first|exact Below.refl _ _|with_reducible apply zlN|with_reducible apply zlA|refine below_step ?_ (Aside0.out (by assumption))))) (by have:=hroom.out;omega) ?_;intro v' w' ho hb hg hat;clear hg hat;have hh_:=zm ho;clear ho;have ho:=hh_;clear hh_;have hh_:=zm hb;clear hb;have hb:=hh_;clear hh_))
    go_roundw
    case rel=>exact ⟨j + 1,b ++ p,Cw.next_v hlt hmx,⟨hlt⟩,⟨H.out⟩,ho,⟨(by repeat (first|exact Below.refl _ _|with_reducible apply zlN|with_reducible apply zlA|refine below_step ?_ (Aside0.out (by assumption))))⟩⟩
    case measure=>exact Cw.next_m hlt hmx
   ·have hjj:j=l0_6.length:=by have:=hj.out;omega
    have H:=HA.out
    clear HA
    rw [hjj,List.drop_length] at H
    obtain rfl:=Option.some.inj H
    clear H
    obtain ⟨Ab,cap_,rfl⟩:=Kd.R_slice hR.out
    have hb64:(b.length:Int)≤64:=by have:=hl64.out;omega
    go_wp2_with (first|((with_reducible refine gate_builtin (b:=.append) (xs:=#[.tmp 80,.tmp 83]) rfl ?_);at_builtin;refine Kd.R_append_zeros (Kd.int .u8) (w0:=wP) wP.heap.size rfl (.tmp 80) (.tmp 83) 25 3 5 (.int .u8 0) 1 rfl Try.underlying25 Try.underlying3 info5 rfl (by decide) (by omega) (.slice Ab b.length cap_) b 0 (64 - (b.length:Int)) (fun _=>True) rfl rfl rfl (fun _ _=>trivial) (Kd.R_below (Aside0.out (by assumption)) (by repeat (first|exact Below.refl _ _|with_reducible apply zlN|with_reducible apply zlA|refine below_step ?_ (Aside0.out (by assumption))))) (by have:=hl64.out;omega) (by repeat (first|exact Below.refl _ _|with_reducible apply zlN|with_reducible apply zlA|refine below_step ?_ (Aside0.out (by assumption)))) (below_size (by repeat (first|exact Below.refl _ _|with_reducible apply zlN|with_reducible apply zlA|refine below_step ?_ (Aside0.out (by assumption))))) (by have:=hl64.out;omega) ?_;intro v' w' ho hb hg hat;clear hg hat;have hh_:=zm ho;clear ho;have ho:=hh_;clear hh_;have hh_:=zm hb;clear hb;have hb:=hh_;clear hh_))
    have e64:(64 - (b.length:Int)).toNat=64 - b.length:=by omega
    have ho:=ho.out
    rw [e64] at ho
    go_ret2
    exact ⟨_,rfl,Kd.R_lower ho (below_size (by repeat (first|exact Below.refl _ _|with_reducible apply zlN|with_reducible apply zlA|refine below_step ?_ (Aside0.out (by assumption))))),(by repeat (first|exact Below.refl _ _|with_reducible apply zlN|with_reducible apply zlA|refine below_step ?_ (Aside0.out (by assumption))))⟩
end Go.Proofs.Ytjoojmodghpimaa.Print
end
section
namespace Go.Proofs.Ytjoojmodghpimaa.Print
open Go.RowKit Go.Proofs.YtjoojmodghpimaaW.PrintWords Go.Proofs.YtjoojmodghpimaaW.PrintLast Go.Proofs.YtjoojmodghpimaaW.PrintMore
attribute [local go_sem] max2_int min2_int max_two min_two max_three min_three max_four min_four   -- for this text's walks alone
attribute [local go_sem ↓] Go.Proofs.Ytjoojmodghpimaa.Sem.isSome_setCell
attribute [local go_sem] Go.Instr.field Go.asAgg
set_option linter.unusedVariables false
set_option linter.unusedSimpArgs false
def bytes_Equal.f (l0:List Int) (l1:List Int):Option (Bool):=some ((strOfNums l0).toList == (strOfNums l1).toList)
set_option maxHeartbeats 8000000 in
set_option maxRecDepth 100000 in
theorem bytes_Equal.calls (A0:Option Addr) (c0:Nat) (l0:List Int) (A1:Option Addr) (c1:Nat) (l1:List Int) (r:Bool) (w:World) (hr0:Kd.C (Kd.int .u8) w A0 l0.length l0) (hc0:l0.length≤c0) (hr1:Kd.C (Kd.int .u8) w A1 l1.length l1) (hc1:l1.length≤c1) (h:bytes_Equal.f l0 l1=some r) :
  Calls Try.prog 11 #[.slice A0 l0.length c0,.slice A1 l1.length c1] w fun e w'=>e=.returned (.bool r)∧Drawn0 w w':=by
 have HR0:=zm hr0
 have HC0:=zm hc0
 clear hr0 hc0
 have HR1:=zm hr1
 have HC1:=zm hc1
 clear hr1 hc1
 have H:(some ((strOfNums l0).toList == (strOfNums l1).toList))=some r:=h
 clear h
 obtain rfl:=Option.some.inj H
 have hcv3:=Kd.C_string (P:=Try.prog) (A:=A0) (c:=c0) Try.underlying25 Try.underlying5 Try.underlying9 HR0.out
 have hcv4:=Kd.C_string (P:=Try.prog) (A:=A1) (c:=c1) Try.underlying25 Try.underlying5 Try.underlying9 HR1.out
 go_enter Try.func11,Try.ntmps11
 go_wp2
 go_ret
 exact ⟨by first|rfl|(simp;done)|(simp [*];done),by repeat (first|exact Drawn0.refl _|apply Drawn0.step)⟩
def slipwaylaw14_live.f (k:Nat) :Option (Bool):=(inode_Encode.f k 1 1 5 0 0 0 (([(⟨0,1,30⟩:S51)]:List (S51)))).bind fun bt135=>(if bt135.2=0 then (if (bt135.1.length:Int)=64 then (if 16≤(bt135.1.length:Int) then ((bytes_Equal.f (bt135.1.take 16) (([1,0,1,0,0,0,0,1,0,0,0,0,0,0,0,5]:List Int))).bind fun t146=>(some t146)) else (none)) else (none)) else (none))
set_option maxHeartbeats 8000000 in
set_option maxRecDepth 100000 in
theorem slipwaylaw14_live.calls (k:Nat)  (r:Bool) (w:World) (h:slipwaylaw14_live.f k =some r) :
  Calls Try.prog 7 #[] w fun e w'=>e=.returned (.bool r)∧Below w.heap.size w w':=by
 have hu51:=Try.underlying51
 have hu24:=Try.underlying24
 have HB:=zm (Below.refl w.heap.size w)
 have H:((inode_Encode.f k 1 1 5 0 0 0 (([(⟨0,1,30⟩:S51)]:List (S51)))).bind fun bt135=>(if bt135.2=0 then (if (bt135.1.length:Int)=64 then (if 16≤(bt135.1.length:Int) then ((bytes_Equal.f (bt135.1.take 16) (([1,0,1,0,0,0,0,1,0,0,0,0,0,0,0,5]:List Int))).bind fun t146=>(some t146)) else (none)) else (none)) else (none)))=some r:=h
 clear h
 obtain ⟨y132,hy132⟩:∃ y_:List (S51),y_=(([(⟨0,1,30⟩:S51)]:List (S51))):=⟨_,rfl⟩
 replace H:((inode_Encode.f k 1 1 5 0 0 0 y132).bind fun bt135=>(if bt135.2=0 then (if (bt135.1.length:Int)=64 then (if 16≤(bt135.1.length:Int) then ((bytes_Equal.f (bt135.1.take 16) (([1,0,1,0,0,0,0,1,0,0,0,0,0,0,0,5]:List Int))).bind fun t146=>(some t146)) else (none)) else (none)) else (none)))=some r:=by first|(rw [hy132];with_reducible exact H)|(have H2_:=(Option.bind_some _ _).symm.trans H;rw [hy132];with_reducible exact H2_)|(have H2_:=(Option.bind_some _ _).symm.trans H;with_reducible exact H2_)|with_reducible exact H|(rw [hy132];exact H)|exact H
 have Ny132:=zm hy132
 clear hy132
 replace H:=Option.bind_eq_some_iff.mp H
 obtain ⟨⟨t135,t138⟩,A10,H⟩:=H
 replace H:(if t138=0 then (if (t135.length:Int)=64 then (if 16≤(t135.length:Int) then ((bytes_Equal.f (t135.take 16) (([1,0,1,0,0,0,0,1,0,0,0,0,0,0,0,5]:List Int))).bind fun t146=>(some t146)) else (none)) else (none)) else (none))=some r:=H
 have A1:=zm A10
 clear A10
 by_cases c2:t138=0
 ·rw [if_pos c2] at H
  have c2b0:(t138 == 0)=true:=beq_iff_eq.mpr c2
  have c2b1:(t138 != 0)=false:=bne_eq_false_iff_eq.mpr c2
  clear c2
  by_cases c3:(t135.length:Int)=64
  ·rw [if_pos c3] at H
   have c3b0:((t135.length:Int) == 64)=true:=beq_iff_eq.mpr c3
   have c3b1:((t135.length:Int) != 64)=false:=bne_eq_false_iff_eq.mpr c3
   clear c3
   by_cases c4:16≤(t135.length:Int)
   ·rw [if_pos c4] at H
    have c4b0:=eq_true c4
    have c4b1:decide (16≤(t135.length:Int))=true:=decide_eq_true c4
    clear c4
    obtain ⟨y139,hy139⟩:∃ y_:List Int,y_=(t135.take 16):=⟨_,rfl⟩
    replace H:((bytes_Equal.f y139 (([1,0,1,0,0,0,0,1,0,0,0,0,0,0,0,5]:List Int))).bind fun t146=>(some t146))=some r:=by first|(rw [hy139];with_reducible exact H)|(have H2_:=(Option.bind_some _ _).symm.trans H;rw [hy139];with_reducible exact H2_)|(have H2_:=(Option.bind_some _ _).symm.trans H;with_reducible exact H2_)|with_reducible exact H|(rw [hy139];exact H)|exact H
    have Ny139:=zm hy139
    clear hy139
    obtain ⟨y143,hy143⟩:∃ y_:List Int,y_=(([1,0,1,0,0,0,0,1,0,0,0,0,0,0,0,5]:List Int)):=⟨_,rfl⟩
    replace H:((bytes_Equal.f y139 y143).bind fun t146=>(some t146))=some r:=by first|(rw [hy143];with_reducible exact H)|(have H2_:=(Option.bind_some _ _).symm.trans H;rw [hy143];with_reducible exact H2_)|(have H2_:=(Option.bind_some _ _).symm.trans H;with_reducible exact H2_)|with_reducible exact H|(rw [hy143];exact H)|exact H
    have Ny143:=zm hy143
    clear hy143
    replace H:=Option.bind_eq_some_iff.mp H
    obtain ⟨t146,A50,H⟩:=H
    replace H:(some t146)=some r:=H
    have A5:=zm A50
    clear A50
    obtain rfl:=Option.some.inj H
    go_enter Try.func7,Try.ntmps7
    go_wp2_with (first|((with_reducible refine gate_dst (N:=5) rfl ?_);(try (refine gate_guard (by rfl) ?_;dsimp only));refine Kd.R_lit k51 _ 51 ?hg (N:=5) ?hd (xs:=([(⟨0,1,30⟩:S51)]:List (S51))) (inner:=[.int .i64 0,.int .i64 1,.int .i64 30]) (ok:=fun _=>True) (okp:=fun _=>True) ?hr ?hp (fun _ hk=>hk) trivial (Below.refl _ _) (Nat.le_refl _) (by simp) ?_;(case hd=>rfl);(case hg=>rfl);(case hr=>first|(go_simp;done)|(go_simp;rfl));(case hp=>exact (Reps.c3 (show Kd.M k51 _ _ _ (⟨0,1,30⟩:S51) [.int .i64 0,.int .i64 1,.int .i64 30] from (k51_mkM _ _ _ (⟨0,1,30⟩:S51) )) (Reps.none _ _)));intro v133 w6 ho7 hb hg_ hnew_;clear hg_ hnew_;(first|rw [← Ny132.out] at ho7|(simp only [Int.reduceToNat] at ho7;rw [← Ny132.out] at ho7));have n0_:=zm (Kd.R_lower ho7 (below_size (zb_)));have n1_:=zkH HB hb;clear HB;have HO134:=n0_;have HB:=n1_;clear n0_ n1_;clear hb ho7;obtain ⟨Ao8,co8,eo8⟩:=Kd.R_slice HO134.out;subst eo8)|((with_reducible refine gate_callee (f:=8) rfl ?_);refine goesL_ (some 7) rfl rfl Try.func8 (by kernel_rfl) rfl #[.agg #[.int .i64 1,.int .i64 1,.int .i64 5,.int .i64 0,.int .i64 0,.int .i64 0,.slice Ao8 y132.length co8]] rfl (by (try simp only [List.map_toArray,List.map_cons,List.map_nil]);first|done|rfl|(simp only [List.length_drop,List.length_take];rfl)) ?_;(with_reducible refine (inode_Encode.calls k 1 1 5 0 0 0 _ _ y132 t135 t138 _ ?side1 ?side2 A1.out).mono ?_);(case side1=>repeat (first|exact (Kd.R_reads' HO134.out).2.2|(with_reducible refine Kd.C_alloc ?_ _)|(with_reducible refine Kd.C_drewN ?_ _)|(with_reducible refine Kd.C_drew ?_)));(case side2=>exact (Kd.R_reads' HO134.out).2.1);rintro e w9 ⟨v136,rfl,ho0,hb⟩;refine ⟨_,rfl,?_⟩;have n0_:=zm (Kd.R_below (by (with_reducible repeat (first|apply zrA|apply zrN|apply zrD));exact HO134.out) hb);have n1_:=zm (Kd.R_lower ho0 (below_size (zb_)));have n2_:=zkH HB hb;clear HO134 HB;have HO134:=n0_;have HO137:=n1_;have HB:=n2_;clear n0_ n1_ n2_;(try clear hb);(try clear hb2);(try clear hk);(try clear hi);(try clear ho0);obtain ⟨Ao10,co10,eo10⟩:=Kd.R_slice HO137.out;subst eo10;have q11:(16:Int)≤((t135.length:Int):Int):=za_;obtain ⟨i011,hi011,_,hsz11,_⟩:=info_parts info5;have hroom11:t135.length≤co10:=(Kd.R_reads' HO137.out).2.1;have hC11:Kd.C (Kd.int .u8) _ Ao10 t135.length t135:=(Kd.R_reads' HO137.out).2.2;have hcut11:=cut_to (P:=Try.prog) 25 5 .i64 Try.underlying25 hi011 Ao10 t135.length co10 16 (by omega) q11 hroom11;have hr11:=Kd.C_take (m:=16) hC11 (by omega);have hy11:y139.length=(16:Int).toNat:=(by rw [Ny139.out,List.length_take];omega);rw [← Ny139.out] at hr11;rw [← hy11] at hcut11;have HR142:=zm hr11;have HC142:=zm (show y139.length≤co10 from by omega);clear hr11 hC11 hroom11 hi011 hsz11;have KY11:=zm hy11;clear hy11;have KL11:=zm (show 16≤t135.length from by omega);replace q11:=eq_true q11)|((with_reducible refine gate_dst (N:=20) rfl ?_);(try (refine gate_guard (by rfl) ?_;dsimp only));refine Kd.R_lit (Kd.int .u8) _ 5 ?hg (N:=20) ?hd (xs:=([1,0,1,0,0,0,0,1,0,0,0,0,0,0,0,5]:List Int)) (inner:=[.int .u8 1,.int .u8 0,.int .u8 1,.int .u8 0,.int .u8 0,.int .u8 0,.int .u8 0,.int .u8 1,.int .u8 0,.int .u8 0,.int .u8 0,.int .u8 0,.int .u8 0,.int .u8 0,.int .u8 0,.int .u8 5]) (ok:=fun _=>True) (okp:=fun _=>True) ?hr ?hp (fun _ hk=>hk) trivial (Below.refl _ _) (Nat.le_refl _) (by simp) ?_;(case hd=>rfl);(case hg=>rfl);(case hr=>first|(go_simp;done)|(go_simp;rfl));(case hp=>exact (Reps.one (show Kd.M (Kd.int .u8) _ _ _ 1 [.int .u8 1] from rfl) (Reps.one (show Kd.M (Kd.int .u8) _ _ _ 0 [.int .u8 0] from rfl) (Reps.one (show Kd.M (Kd.int .u8) _ _ _ 1 [.int .u8 1] from rfl) (Reps.one (show Kd.M (Kd.int .u8) _ _ _ 0 [.int .u8 0] from rfl) (Reps.one (show Kd.M (Kd.int .u8) _ _ _ 0 [.int .u8 0] from rfl) (Reps.one (show Kd.M (Kd.int .u8) _ _ _ 0 [.int .u8 0] from rfl) (Reps.one (show Kd.M (Kd.int .u8) _ _ _ 0 [.int .u8 0] from rfl) (Reps.one (show Kd.M (Kd.int .u8) _ _ _ 1 [.int .u8 1] from rfl) (Reps.one (show Kd.M (Kd.int .u8) _ _ _ 0 [.int .u8 0] from rfl) (Reps.one (show Kd.M (Kd.int .u8) _ _ _ 0 [.int .u8 0] from rfl) (Reps.one (show Kd.M (Kd.int .u8) _ _ _ 0 [.int .u8 0] from rfl) (Reps.one (show Kd.M (Kd.int .u8) _ _ _ 0 [.int .u8 0] from rfl) (Reps.one (show Kd.M (Kd.int .u8) _ _ _ 0 [.int .u8 0] from rfl) (Reps.one (show Kd.M (Kd.int .u8) _ _ _ 0 [.int .u8 0] from rfl) (Reps.one (show Kd.M (Kd.int .u8) _ _ _ 0 [.int .u8 0] from rfl) (Reps.one (show Kd.M (Kd.int .u8) _ _ _ 5 [.int .u8 5] from rfl) (Reps.none _ _))))))))))))))))));intro v144 w12 ho13 hb hg_ hnew_;clear hg_ hnew_;(first|rw [← Ny143.out] at ho13|(simp only [Int.reduceToNat] at ho13;rw [← Ny143.out] at ho13));have n0_:=zm (Kd.R_below (by (with_reducible repeat (first|apply zrA|apply zrN|apply zrD));exact HO134.out) hb);have n1_:=zm (Kd.R_elder' (by (with_reducible repeat (first|apply zrA|apply zrN|apply zrD));exact HO137.out) (Kd.R_base ho13) hb);have n2_:=zm (Kd.R_lower (Kd.R_new' ho13 (Kd.R_lt (by (with_reducible repeat (first|apply zrA|apply zrN|apply zrD));exact HO137.out))) (below_size (zb_)));have n3_:=zm (Kd.C_below (by repeat (first|(with_reducible exact HR142.out)|(with_reducible refine Kd.C_alloc ?_ _)|(with_reducible refine Kd.C_drewN ?_ _)|(with_reducible refine Kd.C_drew ?_)|exact HR142.out)) hb);have n4_:=zkH HB hb;clear HO134 HO137 HR142 HB;have HO134:=n0_;have HO137:=n1_;have HO145:=n2_;have HR142:=n3_;have HB:=n4_;clear n0_ n1_ n2_ n3_ n4_;clear hb ho13;obtain ⟨Ao14,co14,eo14⟩:=Kd.R_slice HO145.out;subst eo14)|(go_at_call 11;(with_reducible refine (bytes_Equal.calls _ _ y139 _ _ y143 t146 _ ?side1 ?side2 ?side3 ?side4 A5.out).mono ?_);(case side1=>repeat (first|exact (by repeat (first|(with_reducible exact HR142.out)|(with_reducible refine Kd.C_alloc ?_ _)|(with_reducible refine Kd.C_drewN ?_ _)|(with_reducible refine Kd.C_drew ?_)|exact HR142.out))|(with_reducible refine Kd.C_alloc ?_ _)|(with_reducible refine Kd.C_drewN ?_ _)|(with_reducible refine Kd.C_drew ?_)));(case side2=>exact HC142.out);(case side3=>repeat (first|exact (Kd.R_reads' HO145.out).2.2|(with_reducible refine Kd.C_alloc ?_ _)|(with_reducible refine Kd.C_drewN ?_ _)|(with_reducible refine Kd.C_drew ?_)));(case side4=>exact (Kd.R_reads' HO145.out).2.1);rintro e w' ⟨rfl,⟨nd,rfl⟩⟩))
    go_ret
    exact ⟨ze_,zb_⟩
   ·rw [if_neg c4] at H
    exact absurd H (by simp)
  ·rw [if_neg c3] at H
   exact absurd H (by simp)
 ·rw [if_neg c2] at H
  exact absurd H (by simp)
def seal_Unpack_1.f (a0:Int) (l1:List Int):Option (Int):=if 0≤(wrap64 (Int.tdiv a0 8)) then (if (wrap64 (Int.tdiv a0 8)) < (l1.length:Int) then (if 0≤(wrap64 (7 - (Int.tmod a0 8))) then (some (IntKind.u64.wrap (Go.bits .and .u8 (shr .u8 (rd l1 (wrap64 (Int.tdiv a0 8))) (wrap64 (7 - (Int.tmod a0 8)))) 1))) else (none)) else (none)) else (none)
set_option maxHeartbeats 8000000 in
set_option maxRecDepth 100000 in
theorem seal_Unpack_1.calls (g1:Nat) (a0:Int) (A1:Option Addr) (c1:Nat) (l1:List Int) (r:Int) (w:World) (hb1:w.heap[g1]?=some (.cells #[.slice A1 l1.length c1] 25 (0,0))) (hr1:Kd.C (Kd.int .u8) w A1 l1.length l1) (hc1:l1.length≤c1) (h:seal_Unpack_1.f a0 l1=some r) :
  Calls Try.prog 50 #[.int .i64 a0,.pointer (some ⟨g1,0,none⟩)] w fun e w'=>e=.returned (.int .u64 r)∧Drawn0 w w':=by
 have hcz1_0:w.cell? ⟨g1,0,none⟩=some (.slice A1 l1.length c1):=(blk_cell hb1 0).trans rfl
 clear hb1
 have HR1:=zm hr1
 have HC1:=zm hc1
 clear hr1 hc1
 have H:(if 0≤(wrap64 (Int.tdiv a0 8)) then (if (wrap64 (Int.tdiv a0 8)) < (l1.length:Int) then (if 0≤(wrap64 (7 - (Int.tmod a0 8))) then (some (IntKind.u64.wrap (Go.bits .and .u8 (shr .u8 (rd l1 (wrap64 (Int.tdiv a0 8))) (wrap64 (7 - (Int.tmod a0 8)))) 1))) else (none)) else (none)) else (none))=some r:=h
 clear h
 obtain ⟨ji3,hji3⟩:∃ j_:Int,(wrap64 (Int.tdiv a0 8))=j_:=⟨_,rfl⟩
 replace H:(if 0≤(ji3) then (if (ji3) < (l1.length:Int) then (if 0≤(wrap64 (7 - (Int.tmod a0 8))) then (some (IntKind.u64.wrap (Go.bits .and .u8 (shr .u8 (rd l1 (ji3)) (wrap64 (7 - (Int.tmod a0 8)))) 1))) else (none)) else (none)) else (none))=some r:=by first|(rw [hji3] at H;exact H)|(simp only [hji3] at H ⊢;exact H)
 have hji3w:(IntKind.i64.wrap (Int.tdiv a0 8))=ji3:=(i64_w _).trans hji3
 by_cases c4:0≤(ji3)
 ·rw [if_pos c4] at H
  have c4b0:decide (0≤(ji3))=true:=decide_eq_true c4
  clear c4
  by_cases c5:(ji3) < (l1.length:Int)
  ·rw [if_pos c5] at H
   have c5b0:decide ((ji3) < (l1.length:Int))=true:=decide_eq_true c5
   clear c5
   obtain ⟨ji6,hji6⟩:∃ j_:Int,(wrap64 (7 - (Int.tmod a0 8)))=j_:=⟨_,rfl⟩
   replace H:(if 0≤(ji6) then (some (IntKind.u64.wrap (Go.bits .and .u8 (shr .u8 (rd l1 (ji3)) (ji6)) 1))) else (none))=some r:=by first|(rw [hji6] at H;exact H)|(simp only [hji6] at H ⊢;exact H)
   have hji6w:(IntKind.i64.wrap (7 - (Int.tmod a0 8)))=ji6:=(i64_w _).trans hji6
   by_cases c7:0≤(ji6)
   ·rw [if_pos c7] at H
    have c7b0:=eq_true c7
    have c7b1:decide (0≤(ji6))=true:=decide_eq_true c7
    clear c7
    obtain ⟨ji8,hji8⟩:∃ j_:Int,(shr .u8 (rd l1 (ji3)) (ji6))=j_:=⟨_,rfl⟩
    replace H:(some (IntKind.u64.wrap (Go.bits .and .u8 (ji8) 1)))=some r:=by first|(rw [hji8] at H;exact H)|(simp only [hji8] at H ⊢;exact H)
    have hji8_:((rd l1 (ji3)) / 2 ^ min (ji6).toNat 8)=ji8:=hji8
    have hji8z:(ji6)≤8 → ((rd l1 (ji3)) / 2 ^ (ji6).toNat)=ji8:=shr_small hji8
    obtain rfl:=Option.some.inj H
    have p147:0≤((ji3):Int):=za_
    have q147:(ji3) < (l1.length:Int):=za_
    obtain ⟨ad147,e147,hx147_0⟩:=Kd.at_int HR1.out (ji3) p147 q147
    cases e147
    replace p147:=eq_true p147
    replace q147:=eq_true q147
    go_enter Try.func50,Try.ntmps50
    go_wp2
    go_ret
    exact ⟨by first|rfl|(simp;done)|(simp only [← hji3,← hji6,← hji8] <;> (first|rfl|simp))|(simp [*];done),by repeat (first|exact Drawn0.refl _|apply Drawn0.step)⟩
   ·rw [if_neg c7] at H
    exact absurd H (by simp)
  ·rw [if_neg c5] at H
   exact absurd H (by simp)
 ·rw [if_neg c4] at H
  exact absurd H (by simp)
end Go.Proofs.Ytjoojmodghpimaa.Print
end
section
namespace Go.Proofs.Ytjoojmodghpimaa.Print
open Go.RowKit Go.Proofs.YtjoojmodghpimaaW.PrintWords Go.Proofs.YtjoojmodghpimaaW.PrintLast Go.Proofs.YtjoojmodghpimaaW.PrintMore
attribute [local go_sem] max2_int min2_int max_two min_two max_three min_three max_four min_four   -- for this text's walks alone
attribute [local go_sem ↓] Go.Proofs.Ytjoojmodghpimaa.Sem.isSome_setCell
attribute [local go_sem] Go.Instr.field Go.asAgg
set_option linter.unusedVariables false
set_option linter.unusedSimpArgs false
theorem eqA51 (d:Nat) (w:World) (x0 y0:Int) (x1 y1:Int) (x2 y2:Int) :
  (Op.equalIn (d + 2) 51 (.agg #[.int .i64 x0,.int .i64 x1,.int .i64 x2]) (.agg #[.int .i64 y0,.int .i64 y1,.int .i64 y2])).run Try.prog w=.ok (x0 == y0 && (x1 == y1 && (x2 == y2))) w:=by
 refine eqA_of Try.underlying51 (by kernel_rfl) ?_
 refine eqf_cons (by rfl) (by go_simp;rfl) (by go_simp;rfl) (by go_simp) ?_
 refine eqf_cons (by rfl) (by go_simp;rfl) (by go_simp;rfl) (by go_simp) ?_
 exact eqf_last (by rfl) (by go_simp;rfl) (by go_simp;rfl) (by go_simp)
end Go.Proofs.Ytjoojmodghpimaa.Print
end
section
namespace Go.Proofs.Ytjoojmodghpimaa.Print
open Go.RowKit Go.Proofs.YtjoojmodghpimaaW.PrintWords Go.Proofs.YtjoojmodghpimaaW.PrintLast Go.Proofs.YtjoojmodghpimaaW.PrintMore
attribute [local go_sem] max2_int min2_int max_two min_two max_three min_three max_four min_four   -- for this text's walks alone
attribute [local go_sem ↓] Go.Proofs.Ytjoojmodghpimaa.Sem.isSome_setCell
attribute [local go_sem] Go.Instr.field Go.asAgg
set_option linter.unusedVariables false
set_option linter.unusedSimpArgs false
attribute [local go_sem high] eqA51
def slipwayref13_Same.l0:Nat → List (S51) → List (S51) → Int → Option (Bool)
 | 0,_,_,_=>none
 | k + 1,x0,x1,x5=>if x5 < (x0.length:Int) then (if 0≤x5 then (if x5 < (x1.length:Int) then (if (!(((rd_T51 x0 x5).f0) == ((rd_T51 x1 x5).f0)) || (!(((rd_T51 x0 x5).f1) == ((rd_T51 x1 x5).f1)) || (!(((rd_T51 x0 x5).f2) == ((rd_T51 x1 x5).f2)))))=true then (some false) else (slipwayref13_Same.l0 k x0 x1 (wrap64 (x5 + 1)))) else (none)) else (none)) else (some true)
def slipwayref13_Same.f (k:Nat) (l0:List (S51)) (l1:List (S51)):Option (Bool):=if (l0.length:Int)=(l1.length:Int) then (slipwayref13_Same.l0 k l0 l1 0) else (some false)
set_option maxHeartbeats 8000000 in
set_option maxRecDepth 100000 in
theorem slipwayref13_Same.calls (k:Nat) (A0:Option Addr) (c0:Nat) (l0:List (S51)) (A1:Option Addr) (c1:Nat) (l1:List (S51)) (r:Bool) (w:World) (hr0:Kd.C k51 w A0 l0.length l0) (hc0:l0.length≤c0) (hr1:Kd.C k51 w A1 l1.length l1) (hc1:l1.length≤c1) (h:slipwayref13_Same.f k l0 l1=some r) :
  Calls Try.prog 34 #[.slice A0 l0.length c0,.slice A1 l1.length c1] w fun e w'=>e=.returned (.bool r)∧Drawn0 w w':=by
 have hu51:=Try.underlying51
 have HR0:=zm hr0
 have HC0:=zm hc0
 clear hr0 hc0
 have HR1:=zm hr1
 have HC1:=zm hc1
 clear hr1 hc1
 have H:(if (l0.length:Int)=(l1.length:Int) then (slipwayref13_Same.l0 k l0 l1 0) else (some false))=some r:=h
 clear h
 by_cases c3:(l0.length:Int)=(l1.length:Int)
 ·rw [if_pos c3] at H
  have c3b0:((l0.length:Int) == (l1.length:Int))=true:=beq_iff_eq.mpr c3
  have c3b1:((l0.length:Int) != (l1.length:Int))=false:=bne_eq_false_iff_eq.mpr c3
  have c3b2:(l0.length == l1.length)=true:=by first|simpa using c3|(simp at c3 ⊢;omega)
  clear c3
  have H':=zm H
  clear H
  go_enter Try.func34,Try.ntmps34
  go_wp2
  repeat (go_quiet (fail);try go_wp2)
  go_loopg [5] k (fun kq v5 w'=>∃ (x5_1:Int),v5=.int .i64 x5_1∧Aside0 (slipwayref13_Same.l0 kq l0 l1 x5_1=some r)∧Aside0 (kq≤k)∧Drawn0 w w')
  case atStart=>exact ⟨(0),zs_,H',⟨Nat.le_refl _⟩,by repeat (first|exact Drawn0.refl _|apply Drawn0.step)⟩
  case round =>
   clear H'
   try clear c1
   try clear p2
   try clear c3
   try clear c3b0
   try clear c3b1
   try clear c3b2
   obtain ⟨x5_1,rfl,HA,HK1,⟨m1,rfl⟩⟩:=hrel
   cases gk with
   | zero=>exact absurd HA.out (by simp [slipwayref13_Same.l0])
   | succ k1 =>
    have H:=HA.out
    clear HA
    simp only [slipwayref13_Same.l0] at H
    by_cases c4:x5_1 < (l0.length:Int)
    ·rw [if_pos c4] at H
     have c4b0:decide (x5_1 < (l0.length:Int))=true:=decide_eq_true c4
     clear c4
     by_cases c5:0≤x5_1
     ·rw [if_pos c5] at H
      have c5b0:decide (0≤x5_1)=true:=decide_eq_true c5
      clear c5
      by_cases c6:x5_1 < (l1.length:Int)
      ·rw [if_pos c6] at H
       have c6b0:decide (x5_1 < (l1.length:Int))=true:=decide_eq_true c6
       clear c6
       by_cases c7:(!(((rd_T51 l0 x5_1).f0) == ((rd_T51 l1 x5_1).f0)) || (!(((rd_T51 l0 x5_1).f1) == ((rd_T51 l1 x5_1).f1)) || (!(((rd_T51 l0 x5_1).f2) == ((rd_T51 l1 x5_1).f2)))))=true
       ·rw [if_pos c7] at H
        have c7b0:(!(((rd_T51 l0 x5_1).f0) == ((rd_T51 l1 x5_1).f0)) || (!(((rd_T51 l0 x5_1).f1) == ((rd_T51 l1 x5_1).f1)) || (!(((rd_T51 l0 x5_1).f2) == ((rd_T51 l1 x5_1).f2)))))=true:=c7
        clear c7
        obtain rfl:=Option.some.inj H
        have p159:0≤(x5_1:Int):=za_
        have q159:x5_1 < (l0.length:Int):=za_
        obtain ⟨ad159,e159,hx159_0,hx159_1,hx159_2⟩:=at_T51 HR0.out x5_1 p159 q159
        cases e159
        replace p159:=eq_true p159
        replace q159:=eq_true q159
        have p160:0≤(x5_1:Int):=za_
        have q160:x5_1 < (l1.length:Int):=za_
        obtain ⟨ad160,e160,hx160_0,hx160_1,hx160_2⟩:=at_T51 HR1.out x5_1 p160 q160
        cases e160
        replace p160:=eq_true p160
        replace q160:=eq_true q160
        go_wp2
        repeat (go_quiet (fail);try go_wp2)
        go_ret
        exact ⟨by first|rfl|(simp;done)|(simp [*];done),by repeat (first|exact Drawn0.refl _|apply Drawn0.step)⟩
       ·rw [if_neg c7] at H
        have c7b0:(!(((rd_T51 l0 x5_1).f0) == ((rd_T51 l1 x5_1).f0)) || (!(((rd_T51 l0 x5_1).f1) == ((rd_T51 l1 x5_1).f1)) || (!(((rd_T51 l0 x5_1).f2) == ((rd_T51 l1 x5_1).f2)))))=false:=by simpa using c7
        clear c7
        have H':=zm H
        clear H
        have p159:0≤(x5_1:Int):=za_
        have q159:x5_1 < (l0.length:Int):=za_
        obtain ⟨ad159,e159,hx159_0,hx159_1,hx159_2⟩:=at_T51 HR0.out x5_1 p159 q159
        cases e159
        replace p159:=eq_true p159
        replace q159:=eq_true q159
        have p160:0≤(x5_1:Int):=za_
        have q160:x5_1 < (l1.length:Int):=za_
        obtain ⟨ad160,e160,hx160_0,hx160_1,hx160_2⟩:=at_T51 HR1.out x5_1 p160 q160
        cases e160
        replace p160:=eq_true p160
        replace q160:=eq_true q160
        go_wp2
        repeat (go_quiet (fail);try go_wp2)
        go_roundg k1
        case measure=>have:=HK1.out;omega
        case rel=>exact ⟨(wrap64 (x5_1 + 1)),zs_,H',⟨by have:=HK1.out;omega⟩,by repeat (first|exact Drawn0.refl _|apply Drawn0.step)⟩
      ·rw [if_neg c6] at H
       exact absurd H (by simp)
     ·rw [if_neg c5] at H
      exact absurd H (by simp)
    ·rw [if_neg c4] at H
     have c4b0:decide (x5_1 < (l0.length:Int))=false:=decide_eq_false c4
     clear c4
     obtain rfl:=Option.some.inj H
     go_wp2
     repeat (go_quiet (fail);try go_wp2)
     go_ret
     exact ⟨by first|rfl|(simp;done)|(simp [*];done),by repeat (first|exact Drawn0.refl _|apply Drawn0.step)⟩
 ·rw [if_neg c3] at H
  have c3b0:((l0.length:Int) == (l1.length:Int))=false:=beq_eq_false_iff_ne.mpr c3
  have c3b1:((l0.length:Int) != (l1.length:Int))=true:=bne_iff_ne.mpr c3
  have c3b2:(l0.length == l1.length)=false:=by first|simpa using c3|(simp at c3 ⊢;omega)
  obtain rfl:=Option.some.inj H
  go_enter Try.func34,Try.ntmps34
  go_wp2
  repeat (go_quiet (fail);try go_wp2)
  go_ret
  exact ⟨by first|rfl|(simp;done)|(simp [*];done),by repeat (first|exact Drawn0.refl _|apply Drawn0.step)⟩
def slipwayref14_Same.f (k:Nat) (a0_0:Int) (a0_1:Int) (a0_2:Int) (a0_3:Int) (a0_4:Int) (a0_5:Int) (l0_6:List (S51)) (a1_0:Int) (a1_1:Int) (a1_2:Int) (a1_3:Int) (a1_4:Int) (a1_5:Int) (l1_6:List (S51)):Option (Bool):=if a0_0=a1_0 then (if a0_1=a1_1 then (if a0_2=a1_2 then (if a0_3=a1_3 then (if a0_4=a1_4 then (if a0_5=a1_5 then ((slipwayref13_Same.f k l0_6 l1_6).bind fun t163=>(some t163)) else (some false)) else (some false)) else (some false)) else (some false)) else (some false)) else (some false)
set_option maxHeartbeats 8000000 in
set_option maxRecDepth 100000 in
theorem slipwayref14_Same.calls (k:Nat) (a0_0:Int) (a0_1:Int) (a0_2:Int) (a0_3:Int) (a0_4:Int) (a0_5:Int) (A0_6:Option Addr) (c0_6:Nat) (l0_6:List (S51)) (a1_0:Int) (a1_1:Int) (a1_2:Int) (a1_3:Int) (a1_4:Int) (a1_5:Int) (A1_6:Option Addr) (c1_6:Nat) (l1_6:List (S51)) (r:Bool) (w:World) (hr0_6:Kd.C k51 w A0_6 l0_6.length l0_6) (hc0_6:l0_6.length≤c0_6) (hr1_6:Kd.C k51 w A1_6 l1_6.length l1_6) (hc1_6:l1_6.length≤c1_6) (h:slipwayref14_Same.f k a0_0 a0_1 a0_2 a0_3 a0_4 a0_5 l0_6 a1_0 a1_1 a1_2 a1_3 a1_4 a1_5 l1_6=some r) :
  Calls Try.prog 10 #[.agg #[.int .i64 a0_0,.int .i64 a0_1,.int .i64 a0_2,.int .i64 a0_3,.int .i64 a0_4,.int .i64 a0_5,.slice A0_6 l0_6.length c0_6],.agg #[.int .i64 a1_0,.int .i64 a1_1,.int .i64 a1_2,.int .i64 a1_3,.int .i64 a1_4,.int .i64 a1_5,.slice A1_6 l1_6.length c1_6]] w fun e w'=>e=.returned (.bool r)∧Below w.heap.size w w':=by
 have hu24:=Try.underlying24
 have HR0_6:=zm hr0_6
 have HC0_6:=zm hc0_6
 clear hr0_6 hc0_6
 have HR1_6:=zm hr1_6
 have HC1_6:=zm hc1_6
 clear hr1_6 hc1_6
 have HB:=zm (Below.refl w.heap.size w)
 have H:(if a0_0=a1_0 then (if a0_1=a1_1 then (if a0_2=a1_2 then (if a0_3=a1_3 then (if a0_4=a1_4 then (if a0_5=a1_5 then ((slipwayref13_Same.f k l0_6 l1_6).bind fun t163=>(some t163)) else (some false)) else (some false)) else (some false)) else (some false)) else (some false)) else (some false))=some r:=h
 clear h
 by_cases c3:a0_0=a1_0
 ·rw [if_pos c3] at H
  have c3b0:(a0_0 == a1_0)=true:=beq_iff_eq.mpr c3
  have c3b1:(a0_0 != a1_0)=false:=bne_eq_false_iff_eq.mpr c3
  clear c3
  by_cases c4:a0_1=a1_1
  ·rw [if_pos c4] at H
   have c4b0:(a0_1 == a1_1)=true:=beq_iff_eq.mpr c4
   have c4b1:(a0_1 != a1_1)=false:=bne_eq_false_iff_eq.mpr c4
   clear c4
   by_cases c5:a0_2=a1_2
   ·rw [if_pos c5] at H
    have c5b0:(a0_2 == a1_2)=true:=beq_iff_eq.mpr c5
    have c5b1:(a0_2 != a1_2)=false:=bne_eq_false_iff_eq.mpr c5
    clear c5
    by_cases c6:a0_3=a1_3
    ·rw [if_pos c6] at H
     have c6b0:(a0_3 == a1_3)=true:=beq_iff_eq.mpr c6
     have c6b1:(a0_3 != a1_3)=false:=bne_eq_false_iff_eq.mpr c6
     clear c6
     by_cases c7:a0_4=a1_4
     ·rw [if_pos c7] at H
      have c7b0:(a0_4 == a1_4)=true:=beq_iff_eq.mpr c7
      have c7b1:(a0_4 != a1_4)=false:=bne_eq_false_iff_eq.mpr c7
      clear c7
      by_cases c8:a0_5=a1_5
      ·rw [if_pos c8] at H
       have c8b0:(a0_5 == a1_5)=true:=beq_iff_eq.mpr c8
       have c8b1:(a0_5 != a1_5)=false:=bne_eq_false_iff_eq.mpr c8
       clear c8
       replace H:=Option.bind_eq_some_iff.mp H
       obtain ⟨t163,A90,H⟩:=H
       replace H:(some t163)=some r:=H
       have A9:=zm A90
       clear A90
       obtain rfl:=Option.some.inj H
       go_enter Try.func10,Try.ntmps10
       go_wp2_with (first|((with_reducible refine gate_dst (N:=2) rfl ?_);refine zbx 2 #[.int .i64 a0_0,.int .i64 a0_1,.int .i64 a0_2,.int .i64 a0_3,.int .i64 a0_4,.int .i64 a0_5,.slice A0_6 l0_6.length c0_6] 24 ?_;intro gb161 hg w10 hbox hb;have n0_:=zkH HB hb;have n1_:=zm (hbox);have n2_:=zkG HB hg;have n3_:=zkG HB hg;clear HB;have HB:=n0_;have BK161:=n1_;have GW161:=n2_;have GE161:=n3_;clear n0_ n1_ n2_ n3_;clear hb hbox hg)|((with_reducible refine gate_dst (N:=3) rfl ?_);refine zbx 3 #[.int .i64 a1_0,.int .i64 a1_1,.int .i64 a1_2,.int .i64 a1_3,.int .i64 a1_4,.int .i64 a1_5,.slice A1_6 l1_6.length c1_6] 24 ?_;intro gb162 hg w11 hbox hb;have n0_:=zkB BK161 hb;have n1_:=zkH HB hb;have n2_:=zm (hbox);have n3_:=zkG HB hg;have n4_:=zkG HB hg;have n5_:=zkN BK161 hg;have n6_:=zkM BK161 hg;clear BK161 HB;have BK161:=n0_;have HB:=n1_;have BK162:=n2_;have GW162:=n3_;have GE162:=n4_;have NB161_162:=n5_;have NB162_161:=n6_;clear n0_ n1_ n2_ n3_ n4_ n5_ n6_;clear hb hbox hg;have hnb12:=NB161_162.out;have hnc12:=NB162_161.out;obtain ⟨hcz13_0,hcz13_1,hcz13_2,hcz13_3,hcz13_4,hcz13_5,hcz13_6,hfz13_0,hfz13_1,hfz13_2,hfz13_3,hfz13_4,hfz13_5,hfz13_6⟩:=zc7 BK161.out;obtain ⟨hcz14_0,hcz14_1,hcz14_2,hcz14_3,hcz14_4,hcz14_5,hcz14_6,hfz14_0,hfz14_1,hfz14_2,hfz14_3,hfz14_4,hfz14_5,hfz14_6⟩:=zc7 BK162.out)|(go_at_call 34;(with_reducible refine (slipwayref13_Same.calls k _ _ l0_6 _ _ l1_6 t163 _ ?side1 ?side2 ?side3 ?side4 A9.out).mono ?_);(case side1=>exact zC HR0_6);(case side2=>exact HC0_6.out);(case side3=>exact zC HR1_6);(case side4=>exact HC1_6.out);rintro e w' ⟨rfl,⟨nd,rfl⟩⟩))
       go_ret
       exact ⟨ze_,zb_⟩
      ·rw [if_neg c8] at H
       have c8b0:(a0_5 == a1_5)=false:=beq_eq_false_iff_ne.mpr c8
       have c8b1:(a0_5 != a1_5)=true:=bne_iff_ne.mpr c8
       obtain rfl:=Option.some.inj H
       go_enter Try.func10,Try.ntmps10
       go_wp2_with (first|((with_reducible refine gate_dst (N:=2) rfl ?_);refine zbx 2 #[.int .i64 a0_0,.int .i64 a0_1,.int .i64 a0_2,.int .i64 a0_3,.int .i64 a0_4,.int .i64 a0_5,.slice A0_6 l0_6.length c0_6] 24 ?_;intro gb161 hg w15 hbox hb;have n0_:=zkH HB hb;have n1_:=zm (hbox);have n2_:=zkG HB hg;have n3_:=zkG HB hg;clear HB;have HB:=n0_;have BK161:=n1_;have GW161:=n2_;have GE161:=n3_;clear n0_ n1_ n2_ n3_;clear hb hbox hg)|((with_reducible refine gate_dst (N:=3) rfl ?_);refine zbx 3 #[.int .i64 a1_0,.int .i64 a1_1,.int .i64 a1_2,.int .i64 a1_3,.int .i64 a1_4,.int .i64 a1_5,.slice A1_6 l1_6.length c1_6] 24 ?_;intro gb162 hg w16 hbox hb;have n0_:=zkB BK161 hb;have n1_:=zkH HB hb;have n2_:=zm (hbox);have n3_:=zkG HB hg;have n4_:=zkG HB hg;have n5_:=zkN BK161 hg;have n6_:=zkM BK161 hg;clear BK161 HB;have BK161:=n0_;have HB:=n1_;have BK162:=n2_;have GW162:=n3_;have GE162:=n4_;have NB161_162:=n5_;have NB162_161:=n6_;clear n0_ n1_ n2_ n3_ n4_ n5_ n6_;clear hb hbox hg;have hnb17:=NB161_162.out;have hnc17:=NB162_161.out;obtain ⟨hcz18_0,hcz18_1,hcz18_2,hcz18_3,hcz18_4,hcz18_5,hcz18_6,hfz18_0,hfz18_1,hfz18_2,hfz18_3,hfz18_4,hfz18_5,hfz18_6⟩:=zc7 BK161.out;obtain ⟨hcz19_0,hcz19_1,hcz19_2,hcz19_3,hcz19_4,hcz19_5,hcz19_6,hfz19_0,hfz19_1,hfz19_2,hfz19_3,hfz19_4,hfz19_5,hfz19_6⟩:=zc7 BK162.out))
       go_ret
       exact ⟨ze_,zb_⟩
     ·rw [if_neg c7] at H
      have c7b0:(a0_4 == a1_4)=false:=beq_eq_false_iff_ne.mpr c7
      have c7b1:(a0_4 != a1_4)=true:=bne_iff_ne.mpr c7
      obtain rfl:=Option.some.inj H
      go_enter Try.func10,Try.ntmps10
      go_wp2_with (first|((with_reducible refine gate_dst (N:=2) rfl ?_);refine zbx 2 #[.int .i64 a0_0,.int .i64 a0_1,.int .i64 a0_2,.int .i64 a0_3,.int .i64 a0_4,.int .i64 a0_5,.slice A0_6 l0_6.length c0_6] 24 ?_;intro gb161 hg w20 hbox hb;have n0_:=zkH HB hb;have n1_:=zm (hbox);have n2_:=zkG HB hg;have n3_:=zkG HB hg;clear HB;have HB:=n0_;have BK161:=n1_;have GW161:=n2_;have GE161:=n3_;clear n0_ n1_ n2_ n3_;clear hb hbox hg)|((with_reducible refine gate_dst (N:=3) rfl ?_);refine zbx 3 #[.int .i64 a1_0,.int .i64 a1_1,.int .i64 a1_2,.int .i64 a1_3,.int .i64 a1_4,.int .i64 a1_5,.slice A1_6 l1_6.length c1_6] 24 ?_;intro gb162 hg w21 hbox hb;have n0_:=zkB BK161 hb;have n1_:=zkH HB hb;have n2_:=zm (hbox);have n3_:=zkG HB hg;have n4_:=zkG HB hg;have n5_:=zkN BK161 hg;have n6_:=zkM BK161 hg;clear BK161 HB;have BK161:=n0_;have HB:=n1_;have BK162:=n2_;have GW162:=n3_;have GE162:=n4_;have NB161_162:=n5_;have NB162_161:=n6_;clear n0_ n1_ n2_ n3_ n4_ n5_ n6_;clear hb hbox hg;have hnb22:=NB161_162.out;have hnc22:=NB162_161.out;obtain ⟨hcz23_0,hcz23_1,hcz23_2,hcz23_3,hcz23_4,hcz23_5,hcz23_6,hfz23_0,hfz23_1,hfz23_2,hfz23_3,hfz23_4,hfz23_5,hfz23_6⟩:=zc7 BK161.out;obtain ⟨hcz24_0,hcz24_1,hcz24_2,hcz24_3,hcz24_4,hcz24_5,hcz24_6,hfz24_0,hfz24_1,hfz24_2,hfz24_3,hfz24_4,hfz24_5,hfz24_6⟩:=zc7 BK162.out))
      go_ret
      exact ⟨ze_,zb_⟩
    ·rw [if_neg c6] at H
     have c6b0:(a0_3 == a1_3)=false:=beq_eq_false_iff_ne.mpr c6
     have c6b1:(a0_3 != a1_3)=true:=bne_iff_ne.mpr c6
     obtain rfl:=Option.some.inj H
     go_enter Try.func10,Try.ntmps10
     go_wp2_with (first|((with_reducible refine gate_dst (N:=2) rfl ?_);refine zbx 2 #[.int .i64 a0_0,.int .i64 a0_1,.int .i64 a0_2,.int .i64 a0_3,.int .i64 a0_4,.int .i64 a0_5,.slice A0_6 l0_6.length c0_6] 24 ?_;intro gb161 hg w25 hbox hb;have n0_:=zkH HB hb;have n1_:=zm (hbox);have n2_:=zkG HB hg;have n3_:=zkG HB hg;clear HB;have HB:=n0_;have BK161:=n1_;have GW161:=n2_;have GE161:=n3_;clear n0_ n1_ n2_ n3_;clear hb hbox hg)|((with_reducible refine gate_dst (N:=3) rfl ?_);refine zbx 3 #[.int .i64 a1_0,.int .i64 a1_1,.int .i64 a1_2,.int .i64 a1_3,.int .i64 a1_4,.int .i64 a1_5,.slice A1_6 l1_6.length c1_6] 24 ?_;intro gb162 hg w26 hbox hb;have n0_:=zkB BK161 hb;have n1_:=zkH HB hb;have n2_:=zm (hbox);have n3_:=zkG HB hg;have n4_:=zkG HB hg;have n5_:=zkN BK161 hg;have n6_:=zkM BK161 hg;clear BK161 HB;have BK161:=n0_;have HB:=n1_;have BK162:=n2_;have GW162:=n3_;have GE162:=n4_;have NB161_162:=n5_;have NB162_161:=n6_;clear n0_ n1_ n2_ n3_ n4_ n5_ n6_;clear hb hbox hg;have hnb27:=NB161_162.out;have hnc27:=NB162_161.out;obtain ⟨hcz28_0,hcz28_1,hcz28_2,hcz28_3,hcz28_4,hcz28_5,hcz28_6,hfz28_0,hfz28_1,hfz28_2,hfz28_3,hfz28_4,hfz28_5,hfz28_6⟩:=zc7 BK161.out;obtain ⟨hcz29_0,hcz29_1,hcz29_2,hcz29_3,hcz29_4,hcz29_5,hcz29_6,hfz29_0,hfz29_1,hfz29_2,hfz29_3,hfz29_4,hfz29_5,hfz29_6⟩:=zc7 BK162.out))
     go_ret
     exact ⟨ze_,zb_⟩
   ·rw [if_neg c5] at H
    have c5b0:(a0_2 == a1_2)=false:=beq_eq_false_iff_ne.mpr c5
    have c5b1:(a0_2 != a1_2)=true:=bne_iff_ne.mpr c5
    obtain rfl:=Option.some.inj H
    go_enter Try.func10,Try.ntmps10
    go_wp2_with (first|((with_reducible refine gate_dst (N:=2) rfl ?_);refine zbx 2 #[.int .i64 a0_0,.int .i64 a0_1,.int .i64 a0_2,.int .i64 a0_3,.int .i64 a0_4,.int .i64 a0_5,.slice A0_6 l0_6.length c0_6] 24 ?_;intro gb161 hg w30 hbox hb;have n0_:=zkH HB hb;have n1_:=zm (hbox);have n2_:=zkG HB hg;have n3_:=zkG HB hg;clear HB;have HB:=n0_;have BK161:=n1_;have GW161:=n2_;have GE161:=n3_;clear n0_ n1_ n2_ n3_;clear hb hbox hg)|((with_reducible refine gate_dst (N:=3) rfl ?_);refine zbx 3 #[.int .i64 a1_0,.int .i64 a1_1,.int .i64 a1_2,.int .i64 a1_3,.int .i64 a1_4,.int .i64 a1_5,.slice A1_6 l1_6.length c1_6] 24 ?_;intro gb162 hg w31 hbox hb;have n0_:=zkB BK161 hb;have n1_:=zkH HB hb;have n2_:=zm (hbox);have n3_:=zkG HB hg;have n4_:=zkG HB hg;have n5_:=zkN BK161 hg;have n6_:=zkM BK161 hg;clear BK161 HB;have BK161:=n0_;have HB:=n1_;have BK162:=n2_;have GW162:=n3_;have GE162:=n4_;have NB161_162:=n5_;have NB162_161:=n6_;clear n0_ n1_ n2_ n3_ n4_ n5_ n6_;clear hb hbox hg;have hnb32:=NB161_162.out;have hnc32:=NB162_161.out;obtain ⟨hcz33_0,hcz33_1,hcz33_2,hcz33_3,hcz33_4,hcz33_5,hcz33_6,hfz33_0,hfz33_1,hfz33_2,hfz33_3,hfz33_4,hfz33_5,hfz33_6⟩:=zc7 BK161.out;obtain ⟨hcz34_0,hcz34_1,hcz34_2,hcz34_3,hcz34_4,hcz34_5,hcz34_6,hfz34_0,hfz34_1,hfz34_2,hfz34_3,hfz34_4,hfz34_5,hfz34_6⟩:=zc7 BK162.out))
    go_ret
    exact ⟨ze_,zb_⟩
  ·rw [if_neg c4] at H
   have c4b0:(a0_1 == a1_1)=false:=beq_eq_false_iff_ne.mpr c4
   have c4b1:(a0_1 != a1_1)=true:=bne_iff_ne.mpr c4
   obtain rfl:=Option.some.inj H
   go_enter Try.func10,Try.ntmps10
   go_wp2_with (first|((with_reducible refine gate_dst (N:=2) rfl ?_);refine zbx 2 #[.int .i64 a0_0,.int .i64 a0_1,.int .i64 a0_2,.int .i64 a0_3,.int .i64 a0_4,.int .i64 a0_5,.slice A0_6 l0_6.length c0_6] 24 ?_;intro gb161 hg w35 hbox hb;have n0_:=zkH HB hb;have n1_:=zm (hbox);have n2_:=zkG HB hg;have n3_:=zkG HB hg;clear HB;have HB:=n0_;have BK161:=n1_;have GW161:=n2_;have GE161:=n3_;clear n0_ n1_ n2_ n3_;clear hb hbox hg)|((with_reducible refine gate_dst (N:=3) rfl ?_);refine zbx 3 #[.int .i64 a1_0,.int .i64 a1_1,.int .i64 a1_2,.int .i64 a1_3,.int .i64 a1_4,.int .i64 a1_5,.slice A1_6 l1_6.length c1_6] 24 ?_;intro gb162 hg w36 hbox hb;have n0_:=zkB BK161 hb;have n1_:=zkH HB hb;have n2_:=zm (hbox);have n3_:=zkG HB hg;have n4_:=zkG HB hg;have n5_:=zkN BK161 hg;have n6_:=zkM BK161 hg;clear BK161 HB;have BK161:=n0_;have HB:=n1_;have BK162:=n2_;have GW162:=n3_;have GE162:=n4_;have NB161_162:=n5_;have NB162_161:=n6_;clear n0_ n1_ n2_ n3_ n4_ n5_ n6_;clear hb hbox hg;have hnb37:=NB161_162.out;have hnc37:=NB162_161.out;obtain ⟨hcz38_0,hcz38_1,hcz38_2,hcz38_3,hcz38_4,hcz38_5,hcz38_6,hfz38_0,hfz38_1,hfz38_2,hfz38_3,hfz38_4,hfz38_5,hfz38_6⟩:=zc7 BK161.out;obtain ⟨hcz39_0,hcz39_1,hcz39_2,hcz39_3,hcz39_4,hcz39_5,hcz39_6,hfz39_0,hfz39_1,hfz39_2,hfz39_3,hfz39_4,hfz39_5,hfz39_6⟩:=zc7 BK162.out))
   go_ret
   exact ⟨ze_,zb_⟩
 ·rw [if_neg c3] at H
  have c3b0:(a0_0 == a1_0)=false:=beq_eq_false_iff_ne.mpr c3
  have c3b1:(a0_0 != a1_0)=true:=bne_iff_ne.mpr c3
  obtain rfl:=Option.some.inj H
  go_enter Try.func10,Try.ntmps10
  go_wp2_with (first|((with_reducible refine gate_dst (N:=2) rfl ?_);refine zbx 2 #[.int .i64 a0_0,.int .i64 a0_1,.int .i64 a0_2,.int .i64 a0_3,.int .i64 a0_4,.int .i64 a0_5,.slice A0_6 l0_6.length c0_6] 24 ?_;intro gb161 hg w40 hbox hb;have n0_:=zkH HB hb;have n1_:=zm (hbox);have n2_:=zkG HB hg;have n3_:=zkG HB hg;clear HB;have HB:=n0_;have BK161:=n1_;have GW161:=n2_;have GE161:=n3_;clear n0_ n1_ n2_ n3_;clear hb hbox hg)|((with_reducible refine gate_dst (N:=3) rfl ?_);refine zbx 3 #[.int .i64 a1_0,.int .i64 a1_1,.int .i64 a1_2,.int .i64 a1_3,.int .i64 a1_4,.int .i64 a1_5,.slice A1_6 l1_6.length c1_6] 24 ?_;intro gb162 hg w41 hbox hb;have n0_:=zkB BK161 hb;have n1_:=zkH HB hb;have n2_:=zm (hbox);have n3_:=zkG HB hg;have n4_:=zkG HB hg;have n5_:=zkN BK161 hg;have n6_:=zkM BK161 hg;clear BK161 HB;have BK161:=n0_;have HB:=n1_;have BK162:=n2_;have GW162:=n3_;have GE162:=n4_;have NB161_162:=n5_;have NB162_161:=n6_;clear n0_ n1_ n2_ n3_ n4_ n5_ n6_;clear hb hbox hg;have hnb42:=NB161_162.out;have hnc42:=NB162_161.out;obtain ⟨hcz43_0,hcz43_1,hcz43_2,hcz43_3,hcz43_4,hcz43_5,hcz43_6,hfz43_0,hfz43_1,hfz43_2,hfz43_3,hfz43_4,hfz43_5,hfz43_6⟩:=zc7 BK161.out;obtain ⟨hcz44_0,hcz44_1,hcz44_2,hcz44_3,hcz44_4,hcz44_5,hcz44_6,hfz44_0,hfz44_1,hfz44_2,hfz44_3,hfz44_4,hfz44_5,hfz44_6⟩:=zc7 BK162.out))
  go_ret
  exact ⟨ze_,zb_⟩
end Go.Proofs.Ytjoojmodghpimaa.Print
end
section
namespace Go.Proofs.Ytjoojmodghpimaa.Print
open Go.RowKit Go.Proofs.YtjoojmodghpimaaW.PrintWords Go.Proofs.YtjoojmodghpimaaW.PrintLast Go.Proofs.YtjoojmodghpimaaW.PrintMore
attribute [local go_sem] max2_int min2_int max_two min_two max_three min_three max_four min_four   -- for this text's walks alone
attribute [local go_sem ↓] Go.Proofs.Ytjoojmodghpimaa.Sem.isSome_setCell
attribute [local go_sem] Go.Instr.field Go.asAgg
set_option linter.unusedVariables false
set_option linter.unusedSimpArgs false
def slices_Clone_byte_byte.f (l0:List Int):Option (List Int):=(some (([]:List Int):List Int)).bind fun y412=>(if y412.length + l0.length < 140737488355328 then (some (y412 ++ l0)) else (none))
set_option maxHeartbeats 8000000 in
set_option maxRecDepth 100000 in
theorem slices_Clone_byte_byte.calls_some (a0:Addr) (c0:Nat) (l0:List Int) (r:List Int) (w:World) (hr0:Kd.C (Kd.int .u8) w (some a0) l0.length l0) (hc0:l0.length≤c0) (h:slices_Clone_byte_byte.f l0=some r) :
  Calls Try.prog 43 #[.slice (some a0) l0.length c0] w fun e w'=>∃ v0_:Value,e=.returned (v0_)∧Kd.R (Kd.int .u8) 5 w' w.heap.size (fun _=>True) v0_ r∧Below w.heap.size w w':=by
 have HR0:=zm hr0
 have HC0:=zm hc0
 clear hr0 hc0
 have HB:=zm (Below.refl w.heap.size w)
 have H:((some (([]:List Int):List Int)).bind fun y412=>(if y412.length + l0.length < 140737488355328 then (some (y412 ++ l0)) else (none)))=some r:=h
 clear h
 obtain ⟨y412,hy412⟩:∃ y_:List Int,y_=(([]:List Int)):=⟨_,rfl⟩
 replace H:(if y412.length + l0.length < 140737488355328 then (some (y412 ++ l0)) else (none))=some r:=by first|(rw [hy412];with_reducible exact H)|(have H2_:=(Option.bind_some _ _).symm.trans H;rw [hy412];with_reducible exact H2_)|(have H2_:=(Option.bind_some _ _).symm.trans H;with_reducible exact H2_)|with_reducible exact H|(rw [hy412];exact H)|exact H
 have Ny412:=zm hy412
 clear hy412
 by_cases c2:y412.length + l0.length < 140737488355328
 ·rw [if_pos c2] at H
  have LMc2:=zm c2
  clear c2
  obtain ⟨y415,hy415⟩:∃ y_:List Int,y_=(y412 ++ l0):=⟨_,rfl⟩
  replace H:(some y415)=some r:=by first|(rw [hy415];with_reducible exact H)|(have H2_:=(Option.bind_some _ _).symm.trans H;rw [hy415];with_reducible exact H2_)|(have H2_:=(Option.bind_some _ _).symm.trans H;with_reducible exact H2_)|with_reducible exact H|(rw [hy415];exact H)|exact H
  have Ny415:=zm hy415
  clear hy415
  obtain rfl:=Option.some.inj H
  have hq_:=Lib.run_eql_slice_nil (P:=Try.prog) w 25 5 (some a0) l0.length c0 0 0 Try.underlying25
  go_enter Try.func43,Try.ntmps43
  go_wp2_with (first|((with_reducible refine gate_dst (N:=5) rfl ?_);refine Kd.R_lit (Kd.int .u8) _ 5 ?hg (N:=5) ?hd (xs:=([]:List Int)) (inner:=[]) (ok:=fun _=>True) (okp:=fun _=>True) ?hr ?hp (fun _ hk=>hk) trivial (Below.refl _ _) (Nat.le_refl _) (by simp) ?_;(case hd=>rfl);(case hg=>rfl);(case hr=>first|(go_simp;done)|(go_simp;rfl));(case hp=>exact (Reps.none _ _));intro v413 w3 ho4 hb hg_ hnew_;clear hg_ hnew_;(first|rw [← Ny412.out] at ho4|(simp only [Int.reduceToNat] at ho4;rw [← Ny412.out] at ho4));have n0_:=zm (Kd.R_lower ho4 (below_size (zb_)));have n1_:=zkH HB hb;clear HB;have HO414:=n0_;have HB:=n1_;clear n0_ n1_;clear hb ho4)|((with_reducible refine gate_builtin (b:=.append) (xs:=#[.tmp 5,.tmp 6]) rfl ?_);at_builtin;refine Kd.R_append_rows (Kd.int .u8) (w0:=w) w.heap.size rfl (.tmp 5) (.tmp 6) 25 5 (.int .u8 0) 1 rfl Try.underlying25 info5 rfl (by decide) (by omega) v413 y412 l0 _ _ _ (fun _=>True) (fun _=>False) rfl rfl ?aO ?aR (fun _ _ h=>h) (fun _ h=>h.elim) ?aF ?aB ?aS ?aL ?_;(case aR=>exact zC HR0);(case aB=>exact (zb_));(case aF=>exact (fun _ _=>trivial));(case aO=>exact (by (with_reducible repeat (first|apply zrA|apply zrN|apply zrD));exact HO414.out));(case aS=>exact (below_size (zb_)));(case aL=>have:=LMc2.out;omega);intro v416 w5 ho hb hg hat;rw [← Ny415.out] at ho;have n0_:=zm (hb);have n1_:=zm (ho);clear HB HO414;have HB:=n0_;have HO417:=n1_;clear n0_ n1_;clear ho hb hg hat))
  go_ret
  exact ⟨_,ze_,by (with_reducible repeat (first|apply zrA|apply zrN|apply zrD));exact HO417.out,zb_⟩
 ·rw [if_neg c2] at H
  exact absurd H (by simp)
theorem slices_Clone_byte_byte.calls (A0:Option Addr) (c0:Nat) (l0:List Int) (r:List Int) (w:World) (hr0:Kd.C (Kd.int .u8) w A0 l0.length l0) (hc0:l0.length≤c0) (h:slices_Clone_byte_byte.f l0=some r) :
  Calls Try.prog 43 #[.slice A0 l0.length c0] w fun e w'=>∃ v0_:Value,e=.returned (v0_)∧Kd.R (Kd.int .u8) 5 w' w.heap.size (fun _=>True) v0_ r∧Below w.heap.size w w':=by
 rcases A0 with _|a0
 ·have hl:l0=[]:=by
   rcases l0 with _|⟨x,l⟩
   ·rfl
   ·obtain ⟨ad,he,_⟩:=hr0.2.2 (by simp)
    cases he
  subst hl
  have hrr:r=[]:=by
   have h2:slices_Clone_byte_byte.f []=some []:=by first|decide|rfl|(simp [slices_Clone_byte_byte.f];done)
   rw [h2] at h
   exact (Option.some.inj h).symm
  subst hrr
  have HB:=zm (Below.refl w.heap.size w)
  clear h hr0 hc0
  have hq_:=Lib.run_eql_slice_nil (P:=Try.prog) w 25 5 none 0 c0 0 0 Try.underlying25
  go_enter Try.func43,Try.ntmps43
  go_wp2
  go_ret
  exact ⟨_,rfl,Kd.R_nil _ _ _ _ _,HB.out⟩
 ·exact slices_Clone_byte_byte.calls_some a0 c0 l0 r w hr0 hc0 h
end Go.Proofs.Ytjoojmodghpimaa.Print
end
section
namespace Go.Proofs.Ytjoojmodghpimaa.Print
open Go.RowKit Go.Proofs.YtjoojmodghpimaaW.PrintWords Go.Proofs.YtjoojmodghpimaaW.PrintLast Go.Proofs.YtjoojmodghpimaaW.PrintMore
attribute [local go_sem] max2_int min2_int max_two min_two max_three min_three max_four min_four   -- for this text's walks alone
attribute [local go_sem ↓] Go.Proofs.Ytjoojmodghpimaa.Sem.isSome_setCell
attribute [local go_sem] Go.Instr.field Go.asAgg
set_option linter.unusedVariables false
set_option linter.unusedSimpArgs false
mutual
def seal_Unpack.l0:Nat → List Int → Int → List Int → Option (List Int × Int)
 | 0,_,_,_=>none
 | k + 1,x0,x9,x149000=>if x9 < (wrap64 (8 * (x149000.length:Int))) then ((seal_Unpack_1.f x9 x149000).bind fun t151=>(if t151=0 then (seal_Unpack.l0 k x0 (wrap64 (x9 + 1)) x149000) else (some (([]:List Int),1)))) else (seal_Unpack.l1 k ([]:List Int) 0 x0 (x0.length:Int) 0 x149000)
def seal_Unpack.l1:Nat → List Int → Int → List Int → Int → Int → List Int → Option (List Int × Int)
 | 0,_,_,_,_,_,_=>none
 | k + 1,x10,x11,x42,x43,x44,x149000=>if x44 < x43 then (if 0≤x44 then (if x44 < (x42.length:Int) then (seal_Unpack.l2 k x10 x11 0 x42 x43 x44 (rd x42 x44) 0 x149000) else (none)) else (none)) else (some (x10,0))
def seal_Unpack.l2:Nat → List Int → Int → Int → List Int → Int → Int → Int → Int → List Int → Option (List Int × Int)
 | 0,_,_,_,_,_,_,_,_,_=>none
 | k + 1,x10,x11,x14,x42,x43,x44,x48,x49,x149000=>if x49 < x48 then ((seal_Unpack_1.f x11 x149000).bind fun t153=>(seal_Unpack.l2 k x10 (wrap64 (x11 + 1)) (Go.bits .or .u64 (IntKind.u64.wrap (x14 * 2)) t153) x42 x43 x44 x48 (wrap64 (x49 + 1)) x149000)) else (if x10.length < 17592186044416 then (seal_Unpack.l1 k (x10 ++ [x14]) x11 x42 x43 (wrap64 (x44 + 1)) x149000) else (none))
end
def seal_Unpack.f (k:Nat) (l0:List Int) (l1:List Int):Option (List Int × Int):=(seal_total.f k l0).bind fun bt149=>(if bt149.2=0 then (if (l1.length:Int)=(wrap64 (Int.tdiv (wrap64 (bt149.1 + 7)) 8)) then (seal_Unpack.l0 k l0 bt149.1 l1) else (some (([]:List Int),3))) else (some (([]:List Int),bt149.2)))
set_option maxHeartbeats 8000000 in
set_option maxRecDepth 100000 in
theorem seal_Unpack.calls (k:Nat) (A0:Option Addr) (c0:Nat) (l0:List Int) (A1:Option Addr) (c1:Nat) (l1:List Int) (r1:List Int) (r2:Int) (w:World) (hr0:Kd.C (Kd.int .i64) w A0 l0.length l0) (hc0:l0.length≤c0) (hr1:Kd.C (Kd.int .u8) w A1 l1.length l1) (hc1:l1.length≤c1) (h:seal_Unpack.f k l0 l1=some (r1,r2)) :
  Calls Try.prog 32 #[.slice A0 l0.length c0,.slice A1 l1.length c1] w fun e w'=>∃ v0_:Value,e=.returned (.tuple #[v0_,.int .i64 r2])∧Kd.R (Kd.int .u64) 58 w' w.heap.size (fun _=>True) v0_ r1∧Below w.heap.size w w':=by
 have HR0:=zm hr0
 have HC0:=zm hc0
 clear hr0 hc0
 have HR1:=zm hr1
 have HC1:=zm hc1
 clear hr1 hc1
 have HB:=zm (Below.refl w.heap.size w)
 have H:((seal_total.f k l0).bind fun bt149=>(if bt149.2=0 then (if (l1.length:Int)=(wrap64 (Int.tdiv (wrap64 (bt149.1 + 7)) 8)) then (seal_Unpack.l0 k l0 bt149.1 l1) else (some (([]:List Int),3))) else (some (([]:List Int),bt149.2))))=some (r1,r2):=h
 clear h
 replace H:=Option.bind_eq_some_iff.mp H
 obtain ⟨⟨t149,t150⟩,A30,H⟩:=H
 replace H:(if t150=0 then (if (l1.length:Int)=(wrap64 (Int.tdiv (wrap64 (t149 + 7)) 8)) then (seal_Unpack.l0 k l0 t149 l1) else (some (([]:List Int),3))) else (some (([]:List Int),t150)))=some (r1,r2):=H
 have A3:=zm A30
 clear A30
 by_cases c4:t150=0
 ·rw [if_pos c4] at H
  have c4b0:(t150 == 0)=true:=beq_iff_eq.mpr c4
  have c4b1:(t150 != 0)=false:=bne_eq_false_iff_eq.mpr c4
  clear c4
  by_cases c5:(l1.length:Int)=(wrap64 (Int.tdiv (wrap64 (t149 + 7)) 8))
  ·rw [if_pos c5] at H
   have c5b0:((l1.length:Int) == (wrap64 (Int.tdiv (wrap64 (t149 + 7)) 8)))=true:=beq_iff_eq.mpr c5
   have c5b1:((l1.length:Int) != (wrap64 (Int.tdiv (wrap64 (t149 + 7)) 8)))=false:=bne_eq_false_iff_eq.mpr c5
   clear c5
   have H':=zm H
   clear H
   go_enter Try.func32,Try.ntmps32
   go_wp2_with (first|((with_reducible refine gate_dst (N:=3) rfl ?_);refine zbx 3 #[.slice A1 l1.length c1] 25 ?_;intro gb148 hg w6 hbox hb;have n0_:=zkH HB hb;have n1_:=zm (hbox);have n2_:=zkG HB hg;have n3_:=zkG HB hg;clear HB;have HB:=n0_;have BK148:=n1_;have GW148:=n2_;have GE148:=n3_;clear n0_ n1_ n2_ n3_;clear hb hbox hg)|((with_reducible refine gate_callee (f:=49) rfl ?_);refine goesL_ (some 17) rfl rfl Try.func49 (by kernel_rfl) rfl #[.slice A0 l0.length c0] rfl (by (try simp only [List.map_toArray,List.map_cons,List.map_nil]);first|done|rfl|(simp only [List.length_drop,List.length_take];rfl)) ?_;(with_reducible refine (seal_total.calls k _ _ l0 t149 t150 _ ?side1 ?side2 A3.out).mono ?_);(case side1=>exact zC HR0);(case side2=>exact HC0.out);rintro e w' ⟨rfl,⟨nd,rfl⟩⟩;refine ⟨_,rfl,?_⟩;obtain ⟨hcz7_0,hfz7_0⟩:=zc1 BK148.out))
   go_loopg [9] k (fun kq v9 w'=>∃ (x9_1:Int),v9=.int .i64 x9_1∧Aside0 (seal_Unpack.l0 kq l0 x9_1 l1=some (r1,r2))∧Aside0 (kq≤k)∧Aside0 (w'.heap[gb148]?=some (.cells #[(.slice A1 l1.length c1)] 25 (0,0)))∧Aside0 (Below w.heap.size w w'))
   case atStart=>exact ⟨(t149),zs_,H',⟨Nat.le_refl _⟩,⟨zx_⟩,⟨zb_⟩⟩
   case round =>
    clear H'
    try clear c1
    try clear p2
    try clear c3
    try clear c4
    try clear c4b0
    try clear c4b1
    try clear c5
    try clear c5b0
    try clear c5b1
    try clear p6
    try clear hcz7_0
    try clear hfz7_0
    obtain ⟨x9_1,rfl,HA,HK1,BK148,HB⟩:=hrel
    cases gk with
    | zero=>exact absurd HA.out (by simp [seal_Unpack.l0])
    | succ k1 =>
     have H:=HA.out
     clear HA
     simp only [seal_Unpack.l0] at H
     by_cases c8:x9_1 < (wrap64 (8 * (l1.length:Int)))
     ·rw [if_pos c8] at H
      have c8b0:decide (x9_1 < (wrap64 (8 * (l1.length:Int))))=true:=decide_eq_true c8
      clear c8
      replace H:=Option.bind_eq_some_iff.mp H
      obtain ⟨t151,A90,H⟩:=H
      replace H:(if t151=0 then (seal_Unpack.l0 k1 l0 (wrap64 (x9_1 + 1)) l1) else (some (([]:List Int),1)))=some (r1,r2):=H
      have A9:=zm A90
      clear A90
      by_cases c10:t151=0
      ·rw [if_pos c10] at H
       have c10b0:(t151 == 0)=true:=beq_iff_eq.mpr c10
       have c10b1:(t151 != 0)=false:=bne_eq_false_iff_eq.mpr c10
       clear c10
       have H':=zm H
       clear H
       obtain ⟨hcz11_0,hfz11_0⟩:=zc1 BK148.out
       go_wp2_with (first|(go_at_call 50;(with_reducible refine (seal_Unpack_1.calls gb148 x9_1 _ _ l1 t151 _ zx_ ?side1 ?side2 A9.out).mono ?_);(case side1=>exact zC HR1);(case side2=>exact HC1.out);rintro e w' ⟨rfl,⟨nd,rfl⟩⟩))
       go_roundg k1
       case measure=>have:=HK1.out;omega
       case rel=>exact ⟨(wrap64 (x9_1 + 1)),zs_,H',⟨by have:=HK1.out;omega⟩,⟨zx_⟩,⟨zb_⟩⟩
      ·rw [if_neg c10] at H
       have c10b0:(t151 == 0)=false:=beq_eq_false_iff_ne.mpr c10
       have c10b1:(t151 != 0)=true:=bne_iff_ne.mpr c10
       simp only [Option.some.injEq,Prod.mk.injEq] at H
       obtain ⟨rfl,rfl⟩:=H
       obtain ⟨hcz12_0,hfz12_0⟩:=zc1 BK148.out
       go_wp2_with (first|(go_at_call 50;(with_reducible refine (seal_Unpack_1.calls gb148 x9_1 _ _ l1 t151 _ zx_ ?side1 ?side2 A9.out).mono ?_);(case side1=>exact zC HR1);(case side2=>exact HC1.out);rintro e w' ⟨rfl,⟨nd,rfl⟩⟩))
       go_ret2
       exact ⟨_,ze_,zr_,zb_⟩
     ·rw [if_neg c8] at H
      have c8b0:decide (x9_1 < (wrap64 (8 * (l1.length:Int))))=false:=decide_eq_false c8
      clear c8
      have H':=zm H
      clear H
      obtain ⟨hcz13_0,hfz13_0⟩:=zc1 BK148.out
      go_wp2
      go_loopg [10,11,44] k1 (fun kq v10 v11 v44 w'=>∃ (x10_2:List Int) (x11_2:Int) (x44_2:Int),v11=.int .i64 x11_2∧v44=.int .i64 x44_2∧Aside0 (seal_Unpack.l1 kq x10_2 x11_2 l0 (l0.length:Int) x44_2 l1=some (r1,r2))∧Aside0 (kq≤k1)∧Aside0 (Kd.R (Kd.int .u64) 58 w' w.heap.size (fun _=>True) v10 x10_2)∧Aside0 (w'.heap[gb148]?=some (.cells #[(.slice A1 l1.length c1)] 25 (0,0)))∧Aside0 (Below w.heap.size w w'))
      case atStart=>exact ⟨(([]:List Int)),(0),(0),zs_,zs_,H',⟨Nat.le_refl _⟩,⟨zr_⟩,⟨zx_⟩,⟨zb_⟩⟩
      case round =>
       clear H'
       try clear c1
       try clear p2
       try clear c3
       try clear c4
       try clear c4b0
       try clear c4b1
       try clear c5
       try clear c5b0
       try clear c5b1
       try clear p6
       try clear c8
       try clear c8b0
       try clear c10
       try clear c10b0
       try clear c10b1
       try clear hcz11_0
       try clear hcz12_0
       try clear hcz13_0
       try clear hcz7_0
       try clear hfz11_0
       try clear hfz12_0
       try clear hfz13_0
       try clear hfz7_0
       try clear p2
       try clear p6
       obtain ⟨x10_2,x11_2,x44_2,rfl,rfl,HA,HK2,HO_10,BK148,HB⟩:=hrel
       cases gk with
       | zero=>exact absurd HA.out (by simp [seal_Unpack.l1])
       | succ k2 =>
        have H:=HA.out
        clear HA
        simp only [seal_Unpack.l1] at H
        by_cases c14:x44_2 < (l0.length:Int)
        ·rw [if_pos c14] at H
         have c14b0:decide (x44_2 < (l0.length:Int))=true:=decide_eq_true c14
         clear c14
         by_cases c15:0≤x44_2
         ·rw [if_pos c15] at H
          have c15b0:decide (0≤x44_2)=true:=decide_eq_true c15
          clear c15
          by_cases c16:x44_2 < (l0.length:Int)
          ·rw [if_pos c16] at H
           have c16b0:decide (x44_2 < (l0.length:Int))=true:=decide_eq_true c16
           clear c16
           have H':=zm H
           clear H
           have p152:0≤(x44_2:Int):=za_
           have q152:x44_2 < (l0.length:Int):=za_
           obtain ⟨ad152,e152,hx152_0⟩:=Kd.at_int HR0.out x44_2 p152 q152
           cases e152
           replace hx152_0:=zhx HB hx152_0
           replace p152:=eq_true p152
           replace q152:=eq_true q152
           go_wp2
           go_loopg [11,14,49] k2 (fun kq v11 v14 v49 w'=>∃ (x11_3:Int) (x14_3:Int) (x49_3:Int),v11=.int .i64 x11_3∧v14=.int .u64 x14_3∧v49=.int .i64 x49_3∧Aside0 (seal_Unpack.l2 kq x10_2 x11_3 x14_3 l0 (l0.length:Int) x44_2 (rd l0 x44_2) x49_3 l1=some (r1,r2))∧Aside0 (kq≤k2)∧Aside0 (Kd.R (Kd.int .u64) 58 w' w.heap.size (fun _=>True) u10 x10_2)∧Aside0 (w'.heap[gb148]?=some (.cells #[(.slice A1 l1.length c1)] 25 (0,0)))∧Aside0 (Below w.heap.size w w'))
           case atStart=>exact ⟨(x11_2),(0),(0),zs_,zs_,zs_,H',⟨Nat.le_refl _⟩,⟨by (with_reducible repeat (first|apply zrA|apply zrN|apply zrD));exact HO_10.out⟩,⟨zx_⟩,⟨zb_⟩⟩
           case round =>
            clear H'
            try clear c1
            try clear p1
            try clear q1
            try clear hx1
            try clear p2
            try clear c3
            try clear c4
            try clear c4b0
            try clear c4b1
            try clear c5
            try clear c5b0
            try clear c5b1
            try clear p6
            try clear c8
            try clear c8b0
            try clear c10
            try clear c10b0
            try clear c10b1
            try clear c14
            try clear c14b0
            try clear c15
            try clear c15b0
            try clear p15
            try clear q15
            try clear hx15
            try clear c16
            try clear c16b0
            try clear hcz11_0
            try clear hcz12_0
            try clear hcz13_0
            try clear hcz7_0
            try clear hfz11_0
            try clear hfz12_0
            try clear hfz13_0
            try clear hfz7_0
            try clear hx152_0
            try clear p152
            try clear p2
            try clear p6
            try clear q152
            obtain ⟨x11_3,x14_3,x49_3,rfl,rfl,rfl,HA,HK3,HO_10,BK148,HB⟩:=hrel
            cases gk with
            | zero=>exact absurd HA.out (by simp [seal_Unpack.l2])
            | succ k3 =>
             have H:=HA.out
             clear HA
             simp only [seal_Unpack.l2] at H
             by_cases c17:x49_3 < (rd l0 x44_2)
             ·rw [if_pos c17] at H
              have c17b0:decide (x49_3 < (rd l0 x44_2))=true:=decide_eq_true c17
              clear c17
              replace H:=Option.bind_eq_some_iff.mp H
              obtain ⟨t153,A180,H⟩:=H
              replace H:(seal_Unpack.l2 k3 x10_2 (wrap64 (x11_3 + 1)) (Go.bits .or .u64 (IntKind.u64.wrap (x14_3 * 2)) t153) l0 (l0.length:Int) x44_2 (rd l0 x44_2) (wrap64 (x49_3 + 1)) l1)=some (r1,r2):=H
              have A18:=zm A180
              clear A180
              have H':=zm H
              clear H
              go_wp2_with (first|(go_at_call 50;(with_reducible refine (seal_Unpack_1.calls gb148 x11_3 _ _ l1 t153 _ zx_ ?side1 ?side2 A18.out).mono ?_);(case side1=>exact zC HR1);(case side2=>exact HC1.out);rintro e w' ⟨rfl,⟨nd,rfl⟩⟩))
              go_roundg k3
              case measure=>have:=HK1.out;have:=HK2.out;have:=HK3.out;omega
              case rel=>exact ⟨(wrap64 (x11_3 + 1)),(Go.bits .or .u64 (IntKind.u64.wrap (x14_3 * 2)) t153),(wrap64 (x49_3 + 1)),zs_,zs_,zs_,H',⟨by have:=HK1.out;have:=HK2.out;have:=HK3.out;omega⟩,⟨by (with_reducible repeat (first|apply zrA|apply zrN|apply zrD));exact HO_10.out⟩,⟨zx_⟩,⟨zb_⟩⟩
             ·rw [if_neg c17] at H
              have c17b0:decide (x49_3 < (rd l0 x44_2))=false:=decide_eq_false c17
              clear c17
              by_cases c19:x10_2.length < 17592186044416
              ·rw [if_pos c19] at H
               have LMc19:=zm c19
               clear c19
               obtain ⟨y154,hy154⟩:∃ y_:List Int,y_=(x10_2 ++ [x14_3]):=⟨_,rfl⟩
               replace H:(seal_Unpack.l1 k3 y154 x11_3 l0 (l0.length:Int) (wrap64 (x44_2 + 1)) l1)=some (r1,r2):=by first|(rw [hy154];with_reducible exact H)|(have H2_:=(Option.bind_some _ _).symm.trans H;rw [hy154];with_reducible exact H2_)|(have H2_:=(Option.bind_some _ _).symm.trans H;with_reducible exact H2_)|with_reducible exact H|(rw [hy154];exact H)|exact H
               have Ny154:=zm hy154
               clear hy154
               have H':=zm H
               clear H
               go_wp2_with (first|((with_reducible refine gate_builtin (b:=.append) (xs:=#[.tmp 60,.tmp 62]) rfl ?_);at_builtin;refine Kd.R_append (Kd.int .u64) (w0:=w) w.heap.size rfl (.tmp 60) (.tmp 62) 61 58 (.int .u64 0) 8 rfl Try.underlying61 info58 rfl (by decide) (by omega) u10 x10_2 x14_3 [.int .u64 x14_3] (fun _=>True) (fun _=>False) rfl rfl ?aP (fun _ hk=>hk.elim) ?aF ?aO ?aB ?aS ?aL ?_;(case aP=>exact rfl);(case aB=>exact (zb_));(case aF=>exact (fun _ _=>trivial));(case aO=>exact (by (with_reducible repeat (first|apply zrA|apply zrN|apply zrD));exact HO_10.out));(case aS=>exact (below_size (zb_)));(case aL=>have:=LMc19.out;omega);intro v155 w20 ho hb hg hat;rw [← Ny154.out] at ho;have n0_:=zm (blk_grown (g:=gb148) (o:=.cells #[.slice A1 l1.length c1] 25 (0,0)) zx_ hg (Kd.R_ne HO_10.out BK148.out (by decide)));have n1_:=zm (hb);have n2_:=zm (ho);clear BK148 HB HO_10;have BK148:=n0_;have HB:=n1_;have HO156:=n2_;clear n0_ n1_ n2_;clear ho hb hg hat))
               go_roundg k3
               case measure=>have:=HK1.out;have:=HK2.out;have:=HK3.out;omega
               case rel=>exact ⟨(y154),(x11_3),(wrap64 (x44_2 + 1)),zs_,zs_,H',⟨by have:=HK1.out;have:=HK2.out;have:=HK3.out;omega⟩,⟨by (with_reducible repeat (first|apply zrA|apply zrN|apply zrD));exact HO156.out⟩,⟨zx_⟩,⟨zb_⟩⟩
              ·rw [if_neg c19] at H
               exact absurd H (by simp)
          ·rw [if_neg c16] at H
           exact absurd H (by simp)
         ·rw [if_neg c15] at H
          exact absurd H (by simp)
        ·rw [if_neg c14] at H
         have c14b0:decide (x44_2 < (l0.length:Int))=false:=decide_eq_false c14
         clear c14
         simp only [Option.some.injEq,Prod.mk.injEq] at H
         obtain ⟨rfl,rfl⟩:=H
         go_wp2
         go_ret2
         exact ⟨_,ze_,by (with_reducible repeat (first|apply zrA|apply zrN|apply zrD));exact HO_10.out,zb_⟩
  ·rw [if_neg c5] at H
   have c5b0:((l1.length:Int) == (wrap64 (Int.tdiv (wrap64 (t149 + 7)) 8)))=false:=beq_eq_false_iff_ne.mpr c5
   have c5b1:((l1.length:Int) != (wrap64 (Int.tdiv (wrap64 (t149 + 7)) 8)))=true:=bne_iff_ne.mpr c5
   simp only [Option.some.injEq,Prod.mk.injEq] at H
   obtain ⟨rfl,rfl⟩:=H
   go_enter Try.func32,Try.ntmps32
   go_wp2_with (first|((with_reducible refine gate_dst (N:=3) rfl ?_);refine zbx 3 #[.slice A1 l1.length c1] 25 ?_;intro gb148 hg w21 hbox hb;have n0_:=zkH HB hb;have n1_:=zm (hbox);have n2_:=zkG HB hg;have n3_:=zkG HB hg;clear HB;have HB:=n0_;have BK148:=n1_;have GW148:=n2_;have GE148:=n3_;clear n0_ n1_ n2_ n3_;clear hb hbox hg)|((with_reducible refine gate_callee (f:=49) rfl ?_);refine goesL_ (some 17) rfl rfl Try.func49 (by kernel_rfl) rfl #[.slice A0 l0.length c0] rfl (by (try simp only [List.map_toArray,List.map_cons,List.map_nil]);first|done|rfl|(simp only [List.length_drop,List.length_take];rfl)) ?_;(with_reducible refine (seal_total.calls k _ _ l0 t149 t150 _ ?side1 ?side2 A3.out).mono ?_);(case side1=>exact zC HR0);(case side2=>exact HC0.out);rintro e w' ⟨rfl,⟨nd,rfl⟩⟩;refine ⟨_,rfl,?_⟩;obtain ⟨hcz22_0,hfz22_0⟩:=zc1 BK148.out))
   go_ret2
   exact ⟨_,ze_,zr_,zb_⟩
 ·rw [if_neg c4] at H
  have c4b0:(t150 == 0)=false:=beq_eq_false_iff_ne.mpr c4
  have c4b1:(t150 != 0)=true:=bne_iff_ne.mpr c4
  simp only [Option.some.injEq,Prod.mk.injEq] at H
  obtain ⟨rfl,rfl⟩:=H
  go_enter Try.func32,Try.ntmps32
  go_wp2_with (first|((with_reducible refine gate_dst (N:=3) rfl ?_);refine zbx 3 #[.slice A1 l1.length c1] 25 ?_;intro gb148 hg w23 hbox hb;have n0_:=zkH HB hb;have n1_:=zm (hbox);have n2_:=zkG HB hg;have n3_:=zkG HB hg;clear HB;have HB:=n0_;have BK148:=n1_;have GW148:=n2_;have GE148:=n3_;clear n0_ n1_ n2_ n3_;clear hb hbox hg)|((with_reducible refine gate_callee (f:=49) rfl ?_);refine goesL_ (some 17) rfl rfl Try.func49 (by kernel_rfl) rfl #[.slice A0 l0.length c0] rfl (by (try simp only [List.map_toArray,List.map_cons,List.map_nil]);first|done|rfl|(simp only [List.length_drop,List.length_take];rfl)) ?_;(with_reducible refine (seal_total.calls k _ _ l0 t149 t150 _ ?side1 ?side2 A3.out).mono ?_);(case side1=>exact zC HR0);(case side2=>exact HC0.out);rintro e w' ⟨rfl,⟨nd,rfl⟩⟩;refine ⟨_,rfl,?_⟩))
  go_ret2
  exact ⟨_,ze_,zr_,zb_⟩
end Go.Proofs.Ytjoojmodghpimaa.Print
end
