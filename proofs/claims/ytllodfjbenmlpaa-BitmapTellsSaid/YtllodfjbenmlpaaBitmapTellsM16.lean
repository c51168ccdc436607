/- Texts of the proof of BitmapTells, part 16. -/
import Derived.Test.YtllodfjbenmlpaaBitmapTellsMA
import Derived.Test.YtllodfjbenmlpaaProg
import Derived.Below
import Derived.Deep.Draws
import Derived.Deep.AppendLies
import Derived.Maps.AppendAt
import Derived.OwnWalk
import Derived.Laws.BytesArg
import Derived.Laws.MakeOwn
import Derived.Laws.OwnMore
import Derived.Deep.OwnRows
import Derived.Tactics
import Derived.Lib.ConvBytes
import Derived.Laws.Slices
import Derived.WalkKit
import Derived.KernelRfl
import Derived.RowKit3
import Derived.Deep.LoopGhost
import Derived.Deep.QuietTactic
import Derived.BigQuiet
import Derived.WideLaws
import Derived.Deep.DeepCutAuto
import Derived.Deep.CutBlock
import Derived.Deep.RegionHeld3
import Derived.Laws.Rows
import Derived.Lib.AppendStr
import Derived.ArgAppend
import Derived.Laws.IdiomCopy
import Derived.OrdersHeld
import Derived.Laws.BitsLemmas
import Derived.RowKit
import Derived.Lib.SliceRun
import Derived.Test.YtllodfjbenmlpaaBitmapTellsM1
import Derived.Test.YtllodfjbenmlpaaBitmapTellsM2
import Derived.Deep.RegionLaw
import Derived.Test.YtllodfjbenmlpaaBitmapTellsM0
import Derived.Test.YtllodfjbenmlpaaBitmapTellsM3
import Derived.Test.YtllodfjbenmlpaaBitmapTellsM4
import Derived.Test.YtllodfjbenmlpaaBitmapTellsM5
import Derived.Test.YtllodfjbenmlpaaBitmapTellsM6
import Derived.Test.YtllodfjbenmlpaaBitmapTellsM7
import Derived.Test.YtllodfjbenmlpaaBitmapTellsM8
import Derived.Test.YtllodfjbenmlpaaBitmapTellsM9
import Derived.Test.YtllodfjbenmlpaaBitmapTellsM10
import Derived.Test.YtllodfjbenmlpaaBitmapTellsM11
import Derived.Test.YtllodfjbenmlpaaBitmapTellsM12
import Derived.Test.YtllodfjbenmlpaaBitmapTellsM13
import Derived.Test.YtllodfjbenmlpaaBitmapTellsM14
import Derived.Test.YtllodfjbenmlpaaBitmapTellsM15
import Derived.RangeFuncNested
import Derived.RangeFuncBox
import Derived.RangeFuncLeaves
import Derived.Shelf.Abstract
import Derived.OwnWalkIn
import Derived.TacticsInMore
import Derived.LoopNIn
import Derived.LoopIn
section
namespace Go.Proofs.Ytllodfjbenmlpaa.Print
open Go.RowKit Go.Proofs.YtllodfjbenmlpaaW.PrintWords Go.Proofs.YtllodfjbenmlpaaW.PrintLast Go.Proofs.YtllodfjbenmlpaaW.PrintMore
attribute [local go_sem] max2_int min2_int max_two min_two max_three min_three max_four min_four   -- for this text's walks alone
attribute [local go_sem ↓] Go.Proofs.Ytllodfjbenmlpaa.Sem.isSome_setCell
attribute [local go_sem] Go.Instr.field Go.asAgg
set_option linter.unusedVariables false
set_option linter.unusedSimpArgs false
def errW:Option Int → Value
 | none=>.nilIface
 | some c=>.iface 0 (.int .i64 c)
theorem errW_none:errW none=.nilIface:=rfl
theorem errW_some (c:Int):errW (some c)=.iface 0 (.int .i64 c):=rfl
theorem info5:(Try.prog.info? 5).map (fun i=>(i.zero,i.size,i.bytes))=some (some (.int .u8 0),1,1):=by kernel_rfl
theorem info36:(Try.prog.info? 36).map (fun i=>(i.zero,i.size,i.bytes))=some (some (.agg #[(.int .i64 0),(.int .i64 0)]),2,16):=by kernel_rfl
theorem info52:(Try.prog.info? 52).map (fun i=>(i.zero,i.size,i.bytes))=some (some (.agg #[(.int .i64 0),(.int .i64 0)]),2,16):=by kernel_rfl
-- the values' own types
structure S52 where
 f0:Int
 f1:Int
def z52:S52:=⟨(0:Int),(0:Int)⟩
def k52:Kd S52:=Kd.iso (Kd.pair (Kd.int .i64) (Kd.int .i64)) (fun x:S52=>(x.f0,x.f1))
theorem k52_open {w:World} {x:S52} {cs:List Value} (h:k52.K w x cs):cs=[.int .i64 x.f0,.int .i64 x.f1]:=by
 obtain ⟨_,_,rfl,rfl,rfl⟩:=h
 exact rfl
theorem k52_openM {w:World} {base:Nat} {ok:Nat → Prop} {x:S52} {cs:List Value} (h:k52.M w base ok x cs):cs=[.int .i64 x.f0,.int .i64 x.f1]:=by
 obtain ⟨_,_,rfl,rfl,rfl⟩:=h
 exact rfl
theorem k52_mk (w:World) (x:S52) :k52.K w x [.int .i64 x.f0,.int .i64 x.f1]:=⟨[.int .i64 x.f0],[.int .i64 x.f1],rfl,rfl,rfl⟩
theorem k52_mkM (w:World) (base:Nat) (ok:Nat → Prop) (x:S52) :k52.M w base ok x [.int .i64 x.f0,.int .i64 x.f1]:=⟨[.int .i64 x.f0],[.int .i64 x.f1],rfl,rfl,rfl⟩
def rd_T52 (xs:List S52) (i:Int):S52:=xs.getD i.toNat z52
theorem at_T52 {w:World} {A:Option Addr} {n:Nat} {xs:List S52} (h:Kd.C k52 w A n xs) (i:Int) (h0:0≤i) (h1:i < n):∃ ad ,A=some ad∧w.cell? (ad.add (i.toNat * 2))=some (.int .i64 (rd_T52 xs i).f0)∧w.cell? ⟨(ad.add (i.toNat * 2)).block,(ad.add (i.toNat * 2)).off + 1,none⟩=some (.int .i64 (rd_T52 xs i).f1):=by
 obtain ⟨ad,c,e,_,hK,hc0⟩:=Kd.C_get h z52 i h0 h1
 have hc:∀ j u,c[j]?=some u → w.cell? (ad.add (i.toNat * 2 + j))=some u:=hc0
 obtain rfl:=k52_open hK
 exact ⟨ad,e,hc 0 _ rfl,by rw [← add_field _ _ 1 (by omega)];exact hc 1 _ rfl⟩
structure S36 where
 f0:Int
 f1:Int
def z36:S36:=⟨(0:Int),(0:Int)⟩
def k36:Kd S36:=Kd.iso (Kd.pair (Kd.int .i64) (Kd.int .i64)) (fun x:S36=>(x.f0,x.f1))
theorem k36_open {w:World} {x:S36} {cs:List Value} (h:k36.K w x cs):cs=[.int .i64 x.f0,.int .i64 x.f1]:=by
 obtain ⟨_,_,rfl,rfl,rfl⟩:=h
 exact rfl
theorem k36_openM {w:World} {base:Nat} {ok:Nat → Prop} {x:S36} {cs:List Value} (h:k36.M w base ok x cs):cs=[.int .i64 x.f0,.int .i64 x.f1]:=by
 obtain ⟨_,_,rfl,rfl,rfl⟩:=h
 exact rfl
theorem k36_mkM (w:World) (base:Nat) (ok:Nat → Prop) (x:S36) :k36.M w base ok x [.int .i64 x.f0,.int .i64 x.f1]:=⟨[.int .i64 x.f0],[.int .i64 x.f1],rfl,rfl,rfl⟩
def rd_T36 (xs:List S36) (i:Int):S36:=xs.getD i.toNat z36
theorem at_T36 {w:World} {A:Option Addr} {n:Nat} {xs:List S36} (h:Kd.C k36 w A n xs) (i:Int) (h0:0≤i) (h1:i < n):∃ ad ,A=some ad∧w.cell? (ad.add (i.toNat * 2))=some (.int .i64 (rd_T36 xs i).f0)∧w.cell? ⟨(ad.add (i.toNat * 2)).block,(ad.add (i.toNat * 2)).off + 1,none⟩=some (.int .i64 (rd_T36 xs i).f1):=by
 obtain ⟨ad,c,e,_,hK,hc0⟩:=Kd.C_get h z36 i h0 h1
 have hc:∀ j u,c[j]?=some u → w.cell? (ad.add (i.toNat * 2 + j))=some u:=hc0
 obtain rfl:=k36_open hK
 exact ⟨ad,e,hc 0 _ rfl,by rw [← add_field _ _ 1 (by omega)];exact hc 1 _ rfl⟩
end Go.Proofs.Ytllodfjbenmlpaa.Print
end
section
namespace Go.Proofs.Ytllodfjbenmlpaa.Print
open Go.RowKit Go.Proofs.YtllodfjbenmlpaaW.PrintWords Go.Proofs.YtllodfjbenmlpaaW.PrintLast Go.Proofs.YtllodfjbenmlpaaW.PrintMore
attribute [local go_sem] max2_int min2_int max_two min_two max_three min_three max_four min_four   -- for this text's walks alone
attribute [local go_sem ↓] Go.Proofs.Ytllodfjbenmlpaa.Sem.isSome_setCell
attribute [local go_sem] Go.Instr.field Go.asAgg
set_option linter.unusedVariables false
set_option linter.unusedSimpArgs false
def bitmap_bit.f (l0:List Int) (a1:Int):Option (Bool):=if 0≤(wrap64 (Int.tdiv a1 8)) then (if (wrap64 (Int.tdiv a1 8)) < (l0.length:Int) then (if 0≤(Int.tmod a1 8) then (some ((Go.bits .and .u8 (shr .u8 (rd l0 (wrap64 (Int.tdiv a1 8))) (Int.tmod a1 8)) 1) == 1)) else (none)) else (none)) else (none)
set_option maxHeartbeats 8000000 in
set_option maxRecDepth 100000 in
theorem bitmap_bit.calls (A0:Option Addr) (c0:Nat) (l0:List Int) (a1:Int) (r:Bool) (w:World) (hr0:Kd.C (Kd.int .u8) w A0 l0.length l0) (hc0:l0.length≤c0) (h:bitmap_bit.f l0 a1=some r) :
  Calls Try.prog 31 #[.slice A0 l0.length c0,.int .i64 a1] w fun e w'=>e=.returned (.bool r)∧Drawn0 w w':=by
 have HR0:=zm hr0
 have HC0:=zm hc0
 clear hr0 hc0
 have H:(if 0≤(wrap64 (Int.tdiv a1 8)) then (if (wrap64 (Int.tdiv a1 8)) < (l0.length:Int) then (if 0≤(Int.tmod a1 8) then (some ((Go.bits .and .u8 (shr .u8 (rd l0 (wrap64 (Int.tdiv a1 8))) (Int.tmod a1 8)) 1) == 1)) else (none)) else (none)) else (none))=some r:=h
 clear h
 obtain ⟨ji3,hji3⟩:∃ j_:Int,(wrap64 (Int.tdiv a1 8))=j_:=⟨_,rfl⟩
 replace H:(if 0≤(ji3) then (if (ji3) < (l0.length:Int) then (if 0≤(Int.tmod a1 8) then (some ((Go.bits .and .u8 (shr .u8 (rd l0 (ji3)) (Int.tmod a1 8)) 1) == 1)) else (none)) else (none)) else (none))=some r:=by first|(rw [hji3] at H;exact H)|(simp only [hji3] at H ⊢;exact H)
 have hji3w:(IntKind.i64.wrap (Int.tdiv a1 8))=ji3:=(i64_w _).trans hji3
 by_cases c4:0≤(ji3)
 ·rw [if_pos c4] at H
  have c4b0:decide (0≤(ji3))=true:=decide_eq_true c4
  clear c4
  by_cases c5:(ji3) < (l0.length:Int)
  ·rw [if_pos c5] at H
   have c5b0:decide ((ji3) < (l0.length:Int))=true:=decide_eq_true c5
   clear c5
   obtain ⟨ji6,hji6⟩:∃ j_:Int,(Int.tmod a1 8)=j_:=⟨_,rfl⟩
   replace H:(if 0≤(ji6) then (some ((Go.bits .and .u8 (shr .u8 (rd l0 (ji3)) (ji6)) 1) == 1)) else (none))=some r:=by first|(rw [hji6] at H;exact H)|(simp only [hji6] at H ⊢;exact H)
   by_cases c7:0≤(ji6)
   ·rw [if_pos c7] at H
    have c7b0:=eq_true c7
    have c7b1:decide (0≤(ji6))=true:=decide_eq_true c7
    clear c7
    obtain ⟨ji8,hji8⟩:∃ j_:Int,(shr .u8 (rd l0 (ji3)) (ji6))=j_:=⟨_,rfl⟩
    replace H:(some ((Go.bits .and .u8 (ji8) 1) == 1))=some r:=by first|(rw [hji8] at H;exact H)|(simp only [hji8] at H ⊢;exact H)
    have hji8_:((rd l0 (ji3)) / 2 ^ min (ji6).toNat 8)=ji8:=hji8
    have hji8z:(ji6)≤8 → ((rd l0 (ji3)) / 2 ^ (ji6).toNat)=ji8:=shr_small hji8
    obtain rfl:=Option.some.inj H
    have p101:0≤((ji3):Int):=of_decide_eq_true (by first|(with_reducible assumption)|assumption)
    have q101:(ji3) < (l0.length:Int):=of_decide_eq_true (by first|(with_reducible assumption)|assumption)
    obtain ⟨ad101,e101,hx101_0⟩:=Kd.at_int HR0.out (ji3) p101 q101
    cases e101
    replace p101:=eq_true p101
    replace q101:=eq_true q101
    go_enter Try.func31,Try.ntmps31
    go_wp2
    go_ret
    exact ⟨by first|rfl|(simp;done)|(simp only [← hji3,← hji6,← hji8] <;> (first|rfl|simp))|(simp [*];done),by repeat (first|exact Drawn0.refl _|apply Drawn0.step)⟩
   ·rw [if_neg c7] at H
    exact absurd H (by simp)
  ·rw [if_neg c5] at H
   exact absurd H (by simp)
 ·rw [if_neg c4] at H
  exact absurd H (by simp)
mutual
def bitmap_Check.j0:Nat → List Int → Int → Bool → Option (Int)
 | 0,_,_,_=>none
 | k + 1,x0,x1,x16=>if x16=true then (some 120) else (bitmap_Check.l0 k x0 x1 (wrap64 (2048 - x1)) 0)
def bitmap_Check.l0:Nat → List Int → Int → Int → Int → Option (Int)
 | 0,_,_,_,_=>none
 | k + 1,x0,x1,x18,x19=>if x19 < x18 then ((bitmap_bit.f x0 (wrap64 (x1 + x19))).bind fun t102=>(if t102=true then (bitmap_Check.l0 k x0 x1 x18 (wrap64 (x19 + 1))) else (some 120))) else (some 0)
end
def bitmap_Check.f (k:Nat) (l0:List Int) (a1:Int):Option (Int):=if a1 < 0 then (bitmap_Check.j0 k l0 a1 true) else (if a1 > 2048 then (bitmap_Check.j0 k l0 a1 true) else (bitmap_Check.j0 k l0 a1 ((l0.length:Int) != 256)))
theorem bitmap_Check.mono_l:∀ k,(∀ y0 y1 y2,LeO (bitmap_Check.j0 k y0 y1 y2) (bitmap_Check.j0 (k + 1) y0 y1 y2))∧(∀ y0 y1 y2 y3,LeO (bitmap_Check.l0 k y0 y1 y2 y3) (bitmap_Check.l0 (k + 1) y0 y1 y2 y3))
 | 0=>⟨fun _ _ _ r h=>by simp [bitmap_Check.j0] at h,fun _ _ _ _ r h=>by simp [bitmap_Check.l0] at h⟩
 | k + 1=>by
  obtain ⟨ih0,ih1⟩:=bitmap_Check.mono_l k
  refine ⟨?_,?_⟩
  ·intro y0 y1 y2
   unfold bitmap_Check.j0
   repeat' first
   | (with_reducible exact ih0 _ _ _)
   | (with_reducible exact ih1 _ _ _ _)
   | (with_reducible exact LeO.refl _)
   | (with_reducible exact LeO.none _)
   | (with_reducible refine LeO.ite ?_ ?_)
   | (with_reducible refine LeO.bind ?_ (fun _=>?_))
   | exact ih0 _ _ _
   | exact ih1 _ _ _ _
   | exact LeO.none _
   | refine LeO.ite ?_ ?_
   | refine LeO.bind ?_ (fun _=>?_)
  ·intro y0 y1 y2 y3
   unfold bitmap_Check.l0
   repeat' first
   | (with_reducible exact ih0 _ _ _)
   | (with_reducible exact ih1 _ _ _ _)
   | (with_reducible exact LeO.refl _)
   | (with_reducible exact LeO.none _)
   | (with_reducible refine LeO.ite ?_ ?_)
   | (with_reducible refine LeO.bind ?_ (fun _=>?_))
   | exact ih0 _ _ _
   | exact ih1 _ _ _ _
   | exact LeO.none _
   | refine LeO.ite ?_ ?_
   | refine LeO.bind ?_ (fun _=>?_)
theorem bitmap_Check.mono:∀ a0 a1 k,LeO (bitmap_Check.f k a0 a1) (bitmap_Check.f (k + 1) a0 a1):=by
 intro a0 a1 k
 obtain ⟨ih0,ih1⟩:=bitmap_Check.mono_l k
 unfold bitmap_Check.f
 repeat' first
   | (with_reducible exact ih0 _ _ _)
   | (with_reducible exact ih1 _ _ _ _)
   | (with_reducible exact LeO.refl _)
   | (with_reducible exact LeO.none _)
   | (with_reducible refine LeO.ite ?_ ?_)
   | (with_reducible refine LeO.bind ?_ (fun _=>?_))
   | exact ih0 _ _ _
   | exact ih1 _ _ _ _
   | exact LeO.none _
   | refine LeO.ite ?_ ?_
   | refine LeO.bind ?_ (fun _=>?_)
set_option maxHeartbeats 8000000 in
set_option maxRecDepth 100000 in
theorem bitmap_Check.calls (k:Nat) (A0:Option Addr) (c0:Nat) (l0:List Int) (a1:Int) (r:Int) (w:World) (hr0:Kd.C (Kd.int .u8) w A0 l0.length l0) (hc0:l0.length≤c0) (h:bitmap_Check.f k l0 a1=some r) :
  Calls Try.prog 9 #[.slice A0 l0.length c0,.int .i64 a1] w fun e w'=>e=.returned (.int .i64 r)∧Drawn0 w w':=by
 have HR0:=zm hr0
 have HC0:=zm hc0
 clear hr0 hc0
 have H:(if a1 < 0 then (bitmap_Check.j0 k l0 a1 true) else (if a1 > 2048 then (bitmap_Check.j0 k l0 a1 true) else (bitmap_Check.j0 k l0 a1 ((l0.length:Int) != 256))))=some r:=h
 clear h
 have HC3:=zm H
 clear H
 go_enter Try.func9,Try.ntmps9
 go_upto_region 1 with (fail)
 go_cut [16] (fun v16 wc=>∃ (kq:Nat) (x16_2:Bool),v16=.bool x16_2∧Aside0 (bitmap_Check.j0 kq l0 a1 x16_2=some r)∧Aside0 (kq≤k)∧Drawn0 w wc)
 case first =>
  have H:=HC3.out
  clear HC3
  by_cases c4:a1 < 0
  ·rw [if_pos c4] at H
   have c4b0:decide (a1 < 0)=true:=decide_eq_true c4
   clear c4
   (first|rw [c4b0]|(simp only [i64_w,i32_w];rw [c4b0])|skip)
   have H':=zm H
   clear H
   go_wp2
   go_meet
   case rel=>exact ⟨_,(true),(by first|rfl|(simp;done)|(simp [*];done)),H',⟨by first|omega|exact Nat.le_refl _⟩,by repeat (first|exact Drawn0.refl _|apply Drawn0.step)⟩
  ·rw [if_neg c4] at H
   have c4b0:decide (a1 < 0)=false:=decide_eq_false c4
   clear c4
   (first|rw [c4b0]|(simp only [i64_w,i32_w];rw [c4b0])|skip)
   by_cases c5:a1 > 2048
   ·rw [if_pos c5] at H
    have c5b0:decide (2048 < a1)=true:=decide_eq_true c5
    clear c5
    have H':=zm H
    clear H
    go_wp2
    go_meet
    case rel=>exact ⟨_,(true),(by first|rfl|(simp;done)|(simp [*];done)),H',⟨by first|omega|exact Nat.le_refl _⟩,by repeat (first|exact Drawn0.refl _|apply Drawn0.step)⟩
   ·rw [if_neg c5] at H
    have c5b0:decide (2048 < a1)=false:=decide_eq_false c5
    clear c5
    have H':=zm H
    clear H
    go_wp2
    go_meet
    case rel=>exact ⟨_,(((l0.length:Int) != 256)),(by first|rfl|(simp;done)|(simp [*];done)),H',⟨by first|omega|exact Nat.le_refl _⟩,by repeat (first|exact Drawn0.refl _|apply Drawn0.step)⟩
 case rest =>
  clear HC3
  try clear p2
  try clear c4
  try clear c4b0
  try clear c5
  try clear c5b0
  obtain ⟨kq,x16_2,rfl,HA,HJ2,⟨mc2,rfl⟩⟩:=hcut
  cases kq with
  | zero=>exact absurd HA.out (by simp [bitmap_Check.j0])
  | succ kj2 =>
   have H:=HA.out
   clear HA
   simp only [bitmap_Check.j0] at H
   by_cases c6:x16_2=true
   ·subst c6
    have H1:(some 120)=some r:=by rw [if_pos rfl] at H;exact H
    clear H
    have H:=H1
    clear H1
    obtain rfl:=Option.some.inj H
    go_wp2
    go_ret
    exact ⟨by first|rfl|(simp;done)|(simp [*];done),by repeat (first|exact Drawn0.refl _|apply Drawn0.step)⟩
   ·replace c6:=Bool.eq_false_iff.mpr c6
    subst c6
    have H1:(bitmap_Check.l0 kj2 l0 a1 (wrap64 (2048 - a1)) 0)=some r:=by rw [if_neg (show ¬ (false=true) by decide)] at H;exact H
    clear H
    have H:=H1
    clear H1
    have H':=zm H
    clear H
    go_wp2
    go_loopg [19] kj2 (fun kq v19 w'=>∃ (x19_2:Int),v19=.int .i64 x19_2∧Aside0 (bitmap_Check.l0 kq l0 a1 (wrap64 (2048 - a1)) x19_2=some r)∧Aside0 (kq≤kj2)∧Drawn0 w w')
    case atStart=>exact ⟨(0),(by first|rfl|(simp;done)|(simp [*];done)),H',⟨Nat.le_refl _⟩,by repeat (first|exact Drawn0.refl _|apply Drawn0.step)⟩
    case round =>
     clear H'
     try clear c2
     try clear p2
     try clear c4
     try clear c4b0
     try clear c5
     try clear c5b0
     try clear c6
     try clear p6
     try clear p2
     obtain ⟨x19_2,rfl,HA,HK2,⟨m2,rfl⟩⟩:=hrel
     cases gk with
     | zero=>exact absurd HA.out (by simp [bitmap_Check.l0])
     | succ k2 =>
      have H:=HA.out
      clear HA
      simp only [bitmap_Check.l0] at H
      by_cases c7:x19_2 < (wrap64 (2048 - a1))
      ·rw [if_pos c7] at H
       have c7b0:decide (x19_2 < (wrap64 (2048 - a1)))=true:=decide_eq_true c7
       clear c7
       replace H:=Option.bind_eq_some_iff.mp H
       obtain ⟨t102,A80,H⟩:=H
       replace H:(if t102=true then (bitmap_Check.l0 k2 l0 a1 (wrap64 (2048 - a1)) (wrap64 (x19_2 + 1))) else (some 120))=some r:=H
       have A8:=zm A80
       clear A80
       by_cases c9:t102=true
       ·subst c9
        have H1:(bitmap_Check.l0 k2 l0 a1 (wrap64 (2048 - a1)) (wrap64 (x19_2 + 1)))=some r:=by rw [if_pos rfl] at H;exact H
        clear H
        have H:=H1
        clear H1
        have H':=zm H
        clear H
        go_wp2_with (first|((with_reducible refine gate_callee (f:=31) rfl ?_);refine goesL_ (some 26) rfl rfl Try.func31 (by kernel_rfl) rfl #[.slice A0 l0.length c0,.int .i64 (wrap64 (a1 + x19_2))] rfl (by (try simp only [List.map_toArray,List.map_cons,List.map_nil]);first|done|rfl|(simp only [List.length_drop,List.length_take];rfl)) ?_;(with_reducible refine (bitmap_bit.calls _ _ l0 (wrap64 (a1 + x19_2)) true _ ?side1 ?side2 A8.out).mono ?_);(case side1=>repeat (first|exact HR0.out|(with_reducible refine Kd.C_alloc ?_ _)|(with_reducible refine Kd.C_drewN ?_ _)|(with_reducible refine Kd.C_drew ?_)));(case side2=>exact HC0.out);rintro e w' ⟨rfl,⟨nd,rfl⟩⟩;refine ⟨_,rfl,?_⟩))
        go_roundg k2
        case measure=>have:=HJ2.out;have:=HK2.out;omega
        case rel=>exact ⟨(wrap64 (x19_2 + 1)),(by first|rfl|(simp;done)|(simp [*];done)),H',⟨by have:=HJ2.out;have:=HK2.out;omega⟩,by repeat (first|exact Drawn0.refl _|apply Drawn0.step)⟩
       ·replace c9:=Bool.eq_false_iff.mpr c9
        subst c9
        have H1:(some 120)=some r:=by rw [if_neg (show ¬ (false=true) by decide)] at H;exact H
        clear H
        have H:=H1
        clear H1
        obtain rfl:=Option.some.inj H
        go_wp2_with (first|((with_reducible refine gate_callee (f:=31) rfl ?_);refine goesL_ (some 26) rfl rfl Try.func31 (by kernel_rfl) rfl #[.slice A0 l0.length c0,.int .i64 (wrap64 (a1 + x19_2))] rfl (by (try simp only [List.map_toArray,List.map_cons,List.map_nil]);first|done|rfl|(simp only [List.length_drop,List.length_take];rfl)) ?_;(with_reducible refine (bitmap_bit.calls _ _ l0 (wrap64 (a1 + x19_2)) false _ ?side1 ?side2 A8.out).mono ?_);(case side1=>repeat (first|exact HR0.out|(with_reducible refine Kd.C_alloc ?_ _)|(with_reducible refine Kd.C_drewN ?_ _)|(with_reducible refine Kd.C_drew ?_)));(case side2=>exact HC0.out);rintro e w' ⟨rfl,⟨nd,rfl⟩⟩;refine ⟨_,rfl,?_⟩))
        go_ret
        exact ⟨by first|rfl|(simp;done)|(simp [*];done),by repeat (first|exact Drawn0.refl _|apply Drawn0.step)⟩
      ·rw [if_neg c7] at H
       have c7b0:decide (x19_2 < (wrap64 (2048 - a1)))=false:=decide_eq_false c7
       clear c7
       obtain rfl:=Option.some.inj H
       go_wp2
       go_ret
       exact ⟨by first|rfl|(simp;done)|(simp [*];done),by repeat (first|exact Drawn0.refl _|apply Drawn0.step)⟩
def bitmap_may.f (k:Nat) (l0:List Int) (a1:Int):Option (Int):=(bitmap_Check.f k l0 a1).bind fun t103=>(if t103=0 then (some a1) else (some 0))
theorem bitmap_may.mono:∀ a0 a1 k,LeO (bitmap_may.f k a0 a1) (bitmap_may.f (k + 1) a0 a1):=by
 intro a0 a1 k
 unfold bitmap_may.f
 repeat' first
   | (with_reducible exact bitmap_Check.mono _ _ _)
   | (with_reducible exact LeO.refl _)
   | (with_reducible exact LeO.none _)
   | (with_reducible refine LeO.ite ?_ ?_)
   | (with_reducible refine LeO.bind ?_ (fun _=>?_))
   | exact bitmap_Check.mono _ _ _
   | exact LeO.none _
   | refine LeO.ite ?_ ?_
   | refine LeO.bind ?_ (fun _=>?_)
set_option maxHeartbeats 8000000 in
set_option maxRecDepth 100000 in
theorem bitmap_may.calls (k:Nat) (A0:Option Addr) (c0:Nat) (l0:List Int) (a1:Int) (r:Int) (w:World) (hr0:Kd.C (Kd.int .u8) w A0 l0.length l0) (hc0:l0.length≤c0) (h:bitmap_may.f k l0 a1=some r) :
  Calls Try.prog 32 #[.slice A0 l0.length c0,.int .i64 a1] w fun e w'=>e=.returned (.int .i64 r)∧Drawn0 w w':=by
 have HR0:=zm hr0
 have HC0:=zm hc0
 clear hr0 hc0
 have H:((bitmap_Check.f k l0 a1).bind fun t103=>(if t103=0 then (some a1) else (some 0)))=some r:=h
 clear h
 replace H:=Option.bind_eq_some_iff.mp H
 obtain ⟨t103,A30,H⟩:=H
 replace H:(if t103=0 then (some a1) else (some 0))=some r:=H
 have A3:=zm A30
 clear A30
 by_cases c4:t103=0
 ·rw [if_pos c4] at H
  have c4b0:(t103 == 0)=true:=beq_iff_eq.mpr c4
  have c4b1:(t103 != 0)=false:=bne_eq_false_iff_eq.mpr c4
  clear c4
  obtain rfl:=Option.some.inj H
  go_enter Try.func32,Try.ntmps32
  go_wp2_with (first|((with_reducible refine gate_callee (f:=9) rfl ?_);refine goesL_ (some 7) rfl rfl Try.func9 (by kernel_rfl) rfl #[.slice A0 l0.length c0,.int .i64 a1] rfl (by (try simp only [List.map_toArray,List.map_cons,List.map_nil]);first|done|rfl|(simp only [List.length_drop,List.length_take];rfl)) ?_;(with_reducible refine (bitmap_Check.calls k _ _ l0 a1 t103 _ ?side1 ?side2 A3.out).mono ?_);(case side1=>repeat (first|exact HR0.out|(with_reducible refine Kd.C_alloc ?_ _)|(with_reducible refine Kd.C_drewN ?_ _)|(with_reducible refine Kd.C_drew ?_)));(case side2=>exact HC0.out);rintro e w' ⟨rfl,⟨nd,rfl⟩⟩;refine ⟨_,rfl,?_⟩))
  go_ret
  exact ⟨by first|rfl|(simp;done)|(simp [*];done),by repeat (first|exact Drawn0.refl _|apply Drawn0.step)⟩
 ·rw [if_neg c4] at H
  have c4b0:(t103 == 0)=false:=beq_eq_false_iff_ne.mpr c4
  have c4b1:(t103 != 0)=true:=bne_iff_ne.mpr c4
  obtain rfl:=Option.some.inj H
  go_enter Try.func32,Try.ntmps32
  go_wp2_with (first|((with_reducible refine gate_callee (f:=9) rfl ?_);refine goesL_ (some 7) rfl rfl Try.func9 (by kernel_rfl) rfl #[.slice A0 l0.length c0,.int .i64 a1] rfl (by (try simp only [List.map_toArray,List.map_cons,List.map_nil]);first|done|rfl|(simp only [List.length_drop,List.length_take];rfl)) ?_;(with_reducible refine (bitmap_Check.calls k _ _ l0 a1 t103 _ ?side1 ?side2 A3.out).mono ?_);(case side1=>repeat (first|exact HR0.out|(with_reducible refine Kd.C_alloc ?_ _)|(with_reducible refine Kd.C_drewN ?_ _)|(with_reducible refine Kd.C_drew ?_)));(case side2=>exact HC0.out);rintro e w' ⟨rfl,⟨nd,rfl⟩⟩;refine ⟨_,rfl,?_⟩))
  go_ret
  exact ⟨by first|rfl|(simp;done)|(simp [*];done),by repeat (first|exact Drawn0.refl _|apply Drawn0.step)⟩
def bitmap_piece_end.f (a0_0:Int) (a0_1:Int):Option (Int):=some (wrap64 (a0_0 + a0_1))
set_option maxHeartbeats 8000000 in
set_option maxRecDepth 100000 in
theorem bitmap_piece_end.calls (a0_0:Int) (a0_1:Int) (r:Int) (w:World) (h:bitmap_piece_end.f a0_0 a0_1=some r) :
  Calls Try.prog 34 #[.agg #[.int .i64 a0_0,.int .i64 a0_1]] w fun e w'=>e=.returned (.int .i64 r)∧Below w.heap.size w w':=by
 have hu52:=Try.underlying52
 have HB:=zm (Below.refl w.heap.size w)
 have H:(some (wrap64 (a0_0 + a0_1)))=some r:=h
 clear h
 obtain rfl:=Option.some.inj H
 go_enter Try.func34,Try.ntmps34
 go_wp2_with (first|((with_reducible refine gate_dst (N:=1) rfl ?_);refine box_event ?hg (N:=1) ?hd (cs:=#[.int .i64 a0_0,.int .i64 a0_1]) (t:=52) ?hr ?_;(case hd=>rfl);(case hg=>rfl);(case hr=>first|(go_simp;done)|(go_simp;rfl));intro gb104 hg w2 hbox hb;have n0_:=zm (below_step (by repeat (first|(with_reducible first|exact HB.out|apply zlA|apply zlN|apply zlD)|exact HB.out)) hb);have n1_:=zm (hbox);have n2_:=zm ((by rw [hg];exact (below_size (by repeat (first|(with_reducible first|exact HB.out|apply zlA|apply zlN|apply zlD)|exact HB.out))):w.heap.size≤gb104));have n3_:=zm ((by rw [hg];exact (below_size (by repeat (first|(with_reducible first|exact HB.out|apply zlA|apply zlN|apply zlD)|exact HB.out))):w.heap.size≤gb104));clear HB;have HB:=n0_;have BK104:=n1_;have GW104:=n2_;have GE104:=n3_;clear n0_ n1_ n2_ n3_;clear hb hbox hg;have hcz3_0:w2.cell? ⟨gb104,0,none⟩=some (.int .i64 a0_0):=(blk_cell BK104.out 0).trans rfl;have hcz3_1:w2.cell? ⟨gb104,1,none⟩=some (.int .i64 a0_1):=(blk_cell BK104.out 1).trans rfl;have hfz3_0:=blk_frozen BK104.out 0;have hfz3_1:=blk_frozen BK104.out 1))
 go_ret
 exact ⟨by first|rfl|(simp [errW_none,errW_some] <;> rfl)|(simp [*,errW_none,errW_some] <;> rfl),by repeat (first|(with_reducible first|exact HB.out|apply zlA|apply zlN|apply zlD|refine zlS ?_ GE104.out)|exact HB.out)⟩
end Go.Proofs.Ytllodfjbenmlpaa.Print
end
section
namespace Go.Proofs.Ytllodfjbenmlpaa.Print
open Go.RowKit Go.Proofs.YtllodfjbenmlpaaW.PrintWords Go.Proofs.YtllodfjbenmlpaaW.PrintLast Go.Proofs.YtllodfjbenmlpaaW.PrintMore
attribute [local go_sem] max2_int min2_int max_two min_two max_three min_three max_four min_four   -- for this text's walks alone
attribute [local go_sem ↓] Go.Proofs.Ytllodfjbenmlpaa.Sem.isSome_setCell
attribute [local go_sem] Go.Instr.field Go.asAgg
set_option linter.unusedVariables false
set_option linter.unusedSimpArgs false
def bitmap_pieces.l0:Nat → List Int → List (S52) → Int → Int → Option ((List (S52)))
 | 0,_,_,_,_=>none
 | k + 1,x0,x5,x10,x11=>if x11 < x10 then ((bitmap_bit.f x0 x11).bind fun t106=>(if t106=true then (bitmap_pieces.l0 k x0 x5 x10 (wrap64 (x11 + 1))) else (if (wrap64 ((x5.length:Int) - 1)) ≥ 0 then (if 0≤(wrap64 ((x5.length:Int) - 1)) then (if (wrap64 ((x5.length:Int) - 1)) < (x5.length:Int) then ((bitmap_piece_end.f ((rd_T52 x5 (wrap64 ((x5.length:Int) - 1))).f0) ((rd_T52 x5 (wrap64 ((x5.length:Int) - 1))).f1)).bind fun t108=>(if t108=x11 then (bitmap_pieces.l0 k x0 (x5.set ((wrap64 ((x5.length:Int) - 1)):Int).toNat (⟨(rd_T52 x5 (wrap64 ((x5.length:Int) - 1))).f0,wrap64 (((rd_T52 x5 (wrap64 ((x5.length:Int) - 1))).f1) + 1)⟩:S52)) x10 (wrap64 (x11 + 1))) else (if x5.length < 8796093022208 then (bitmap_pieces.l0 k x0 (x5 ++ [(⟨x11,1⟩:S52)]) x10 (wrap64 (x11 + 1))) else (none)))) else (none)) else (none)) else (if x5.length < 8796093022208 then (bitmap_pieces.l0 k x0 (x5 ++ [(⟨x11,1⟩:S52)]) x10 (wrap64 (x11 + 1))) else (none))))) else (some x5)
def bitmap_pieces.f (k:Nat) (l0:List Int) (a1:Int):Option ((List (S52))):=(bitmap_may.f k l0 a1).bind fun t105=>(bitmap_pieces.l0 k l0 ([]:List (S52)) t105 0)
theorem bitmap_pieces.mono_l:∀ k,(∀ y0 y1 y2 y3,LeO (bitmap_pieces.l0 k y0 y1 y2 y3) (bitmap_pieces.l0 (k + 1) y0 y1 y2 y3))
 | 0=>fun _ _ _ _ r h=>by simp [bitmap_pieces.l0] at h
 | k + 1=>by
  have ih0:=bitmap_pieces.mono_l k
  ·intro y0 y1 y2 y3
   unfold bitmap_pieces.l0
   repeat' first
   | (with_reducible exact ih0 _ _ _ _)
   | (with_reducible exact bitmap_may.mono _ _ _)
   | (with_reducible exact LeO.refl _)
   | (with_reducible exact LeO.none _)
   | (with_reducible refine LeO.ite ?_ ?_)
   | (with_reducible refine LeO.bind ?_ (fun _=>?_))
   | exact ih0 _ _ _ _
   | exact bitmap_may.mono _ _ _
   | exact LeO.none _
   | refine LeO.ite ?_ ?_
   | refine LeO.bind ?_ (fun _=>?_)
theorem bitmap_pieces.mono:∀ a0 a1 k,LeO (bitmap_pieces.f k a0 a1) (bitmap_pieces.f (k + 1) a0 a1):=by
 intro a0 a1 k
 have ih0:=bitmap_pieces.mono_l k
 unfold bitmap_pieces.f
 repeat' first
   | (with_reducible exact ih0 _ _ _ _)
   | (with_reducible exact bitmap_may.mono _ _ _)
   | (with_reducible exact LeO.refl _)
   | (with_reducible exact LeO.none _)
   | (with_reducible refine LeO.ite ?_ ?_)
   | (with_reducible refine LeO.bind ?_ (fun _=>?_))
   | exact ih0 _ _ _ _
   | exact bitmap_may.mono _ _ _
   | exact LeO.none _
   | refine LeO.ite ?_ ?_
   | refine LeO.bind ?_ (fun _=>?_)
set_option maxHeartbeats 8000000 in
set_option maxRecDepth 100000 in
theorem bitmap_pieces.calls (k:Nat) (A0:Option Addr) (c0:Nat) (l0:List Int) (a1:Int) (r:List (S52)) (w:World) (hr0:Kd.C (Kd.int .u8) w A0 l0.length l0) (hc0:l0.length≤c0) (h:bitmap_pieces.f k l0 a1=some r) :
  Calls Try.prog 33 #[.slice A0 l0.length c0,.int .i64 a1] w fun e w'=>∃ v0_:Value,e=.returned (v0_)∧Kd.R k52 52 w' w.heap.size (fun _=>True) v0_ r∧Below w.heap.size w w':=by
 have hu52:=Try.underlying52
 have HR0:=zm hr0
 have HC0:=zm hc0
 clear hr0 hc0
 have HB:=zm (Below.refl w.heap.size w)
 have H:((bitmap_may.f k l0 a1).bind fun t105=>(bitmap_pieces.l0 k l0 ([]:List (S52)) t105 0))=some r:=h
 clear h
 replace H:=Option.bind_eq_some_iff.mp H
 obtain ⟨t105,A30,H⟩:=H
 replace H:(bitmap_pieces.l0 k l0 ([]:List (S52)) t105 0)=some r:=H
 have A3:=zm A30
 clear A30
 have H':=zm H
 clear H
 go_enter Try.func33,Try.ntmps33
 go_wp2_with (first|((with_reducible refine gate_callee (f:=32) rfl ?_);refine goesL_ (some 10) rfl rfl Try.func32 (by kernel_rfl) rfl #[.slice A0 l0.length c0,.int .i64 a1] rfl (by (try simp only [List.map_toArray,List.map_cons,List.map_nil]);first|done|rfl|(simp only [List.length_drop,List.length_take];rfl)) ?_;(with_reducible refine (bitmap_may.calls k _ _ l0 a1 t105 _ ?side1 ?side2 A3.out).mono ?_);(case side1=>repeat (first|exact HR0.out|(with_reducible refine Kd.C_alloc ?_ _)|(with_reducible refine Kd.C_drewN ?_ _)|(with_reducible refine Kd.C_drew ?_)));(case side2=>exact HC0.out);rintro e w' ⟨rfl,⟨nd,rfl⟩⟩;refine ⟨_,rfl,?_⟩))
 go_loopg [5,11] k (fun kq v5 v11 w'=>∃ (x5_1:List (S52)) (x11_1:Int),v11=.int .i64 x11_1∧Aside0 (bitmap_pieces.l0 kq l0 x5_1 t105 x11_1=some r)∧Aside0 (kq≤k)∧Aside0 (Kd.R k52 52 w' w.heap.size (fun _=>True) v5 x5_1)∧Aside0 (Below w.heap.size w w'))
 case atStart=>exact ⟨(([]:List (S52))),(0),(by first|rfl|(simp;done)|(simp [*];done)),H',⟨Nat.le_refl _⟩,⟨by first|exact Kd.R_nil _ _ _ _ _|exact Kd.N_nil _ _ _ _ _|exact Kd.V_nil _ _ _ _ _|exact Kd.Q_nil _ _ _ _ _|exact Kd.S_nil _ _ _ _ _⟩,⟨by repeat (first|(with_reducible first|exact HB.out|apply zlA|apply zlN|apply zlD)|exact HB.out)⟩⟩
 case round =>
  clear H'
  try clear p2
  try clear c3
  obtain ⟨x5_1,x11_1,rfl,HA,HK1,HO_5,HB⟩:=hrel
  cases gk with
  | zero=>exact absurd HA.out (by simp [bitmap_pieces.l0])
  | succ k1 =>
   have H:=HA.out
   clear HA
   simp only [bitmap_pieces.l0] at H
   by_cases c4:x11_1 < t105
   ·rw [if_pos c4] at H
    have c4b0:decide (x11_1 < t105)=true:=decide_eq_true c4
    clear c4
    replace H:=Option.bind_eq_some_iff.mp H
    obtain ⟨t106,A50,H⟩:=H
    replace H:(if t106=true then (bitmap_pieces.l0 k1 l0 x5_1 t105 (wrap64 (x11_1 + 1))) else (if (wrap64 ((x5_1.length:Int) - 1)) ≥ 0 then (if 0≤(wrap64 ((x5_1.length:Int) - 1)) then (if (wrap64 ((x5_1.length:Int) - 1)) < (x5_1.length:Int) then ((bitmap_piece_end.f ((rd_T52 x5_1 (wrap64 ((x5_1.length:Int) - 1))).f0) ((rd_T52 x5_1 (wrap64 ((x5_1.length:Int) - 1))).f1)).bind fun t108=>(if t108=x11_1 then (bitmap_pieces.l0 k1 l0 (x5_1.set ((wrap64 ((x5_1.length:Int) - 1)):Int).toNat (⟨(rd_T52 x5_1 (wrap64 ((x5_1.length:Int) - 1))).f0,wrap64 (((rd_T52 x5_1 (wrap64 ((x5_1.length:Int) - 1))).f1) + 1)⟩:S52)) t105 (wrap64 (x11_1 + 1))) else (if x5_1.length < 8796093022208 then (bitmap_pieces.l0 k1 l0 (x5_1 ++ [(⟨x11_1,1⟩:S52)]) t105 (wrap64 (x11_1 + 1))) else (none)))) else (none)) else (none)) else (if x5_1.length < 8796093022208 then (bitmap_pieces.l0 k1 l0 (x5_1 ++ [(⟨x11_1,1⟩:S52)]) t105 (wrap64 (x11_1 + 1))) else (none))))=some r:=H
    have A5:=zm A50
    clear A50
    by_cases c6:t106=true
    ·subst c6
     have H1:(bitmap_pieces.l0 k1 l0 x5_1 t105 (wrap64 (x11_1 + 1)))=some r:=by rw [if_pos rfl] at H;exact H
     clear H
     have H:=H1
     clear H1
     have H':=zm H
     clear H
     obtain ⟨Ao7,co7,eo7⟩:=Kd.R_slice HO_5.out
     subst eo7
     go_wp2_with (first|((with_reducible refine gate_callee (f:=31) rfl ?_);refine goesL_ (some 25) rfl rfl Try.func31 (by kernel_rfl) rfl #[.slice A0 l0.length c0,.int .i64 x11_1] rfl (by (try simp only [List.map_toArray,List.map_cons,List.map_nil]);first|done|rfl|(simp only [List.length_drop,List.length_take];rfl)) ?_;(with_reducible refine (bitmap_bit.calls _ _ l0 x11_1 true _ ?side1 ?side2 A5.out).mono ?_);(case side1=>repeat (first|exact (Kd.C_below HR0.out HB.out)|(with_reducible refine Kd.C_alloc ?_ _)|(with_reducible refine Kd.C_drewN ?_ _)|(with_reducible refine Kd.C_drew ?_)));(case side2=>exact HC0.out);rintro e w' ⟨rfl,⟨nd,rfl⟩⟩;refine ⟨_,rfl,?_⟩))
     go_roundg k1
     case measure=>have:=HK1.out;omega
     case rel=>exact ⟨(x5_1),(wrap64 (x11_1 + 1)),(by first|rfl|(simp;done)|(simp [*];done)),H',⟨by have:=HK1.out;omega⟩,⟨by (with_reducible repeat (first|apply zrA|apply zrN|apply zrD));exact HO_5.out⟩,⟨by repeat (first|(with_reducible first|exact HB.out|apply zlA|apply zlN|apply zlD)|exact HB.out)⟩⟩
    ·replace c6:=Bool.eq_false_iff.mpr c6
     subst c6
     have H1:(if (wrap64 ((x5_1.length:Int) - 1)) ≥ 0 then (if 0≤(wrap64 ((x5_1.length:Int) - 1)) then (if (wrap64 ((x5_1.length:Int) - 1)) < (x5_1.length:Int) then ((bitmap_piece_end.f ((rd_T52 x5_1 (wrap64 ((x5_1.length:Int) - 1))).f0) ((rd_T52 x5_1 (wrap64 ((x5_1.length:Int) - 1))).f1)).bind fun t108=>(if t108=x11_1 then (bitmap_pieces.l0 k1 l0 (x5_1.set ((wrap64 ((x5_1.length:Int) - 1)):Int).toNat (⟨(rd_T52 x5_1 (wrap64 ((x5_1.length:Int) - 1))).f0,wrap64 (((rd_T52 x5_1 (wrap64 ((x5_1.length:Int) - 1))).f1) + 1)⟩:S52)) t105 (wrap64 (x11_1 + 1))) else (if x5_1.length < 8796093022208 then (bitmap_pieces.l0 k1 l0 (x5_1 ++ [(⟨x11_1,1⟩:S52)]) t105 (wrap64 (x11_1 + 1))) else (none)))) else (none)) else (none)) else (if x5_1.length < 8796093022208 then (bitmap_pieces.l0 k1 l0 (x5_1 ++ [(⟨x11_1,1⟩:S52)]) t105 (wrap64 (x11_1 + 1))) else (none)))=some r:=by rw [if_neg (show ¬ (false=true) by decide)] at H;exact H
     clear H
     have H:=H1
     clear H1
     by_cases c8:(wrap64 ((x5_1.length:Int) - 1)) ≥ 0
     ·rw [if_pos c8] at H
      have c8b0:decide (0≤(wrap64 ((x5_1.length:Int) - 1)))=true:=decide_eq_true c8
      clear c8
      obtain ⟨ji9,hji9⟩:∃ j_:Int,(wrap64 ((x5_1.length:Int) - 1))=j_:=⟨_,rfl⟩
      replace H:(if 0≤(ji9) then (if (ji9) < (x5_1.length:Int) then ((bitmap_piece_end.f ((rd_T52 x5_1 (ji9)).f0) ((rd_T52 x5_1 (ji9)).f1)).bind fun t108=>(if t108=x11_1 then (bitmap_pieces.l0 k1 l0 (x5_1.set ((ji9):Int).toNat (⟨(rd_T52 x5_1 (ji9)).f0,wrap64 (((rd_T52 x5_1 (ji9)).f1) + 1)⟩:S52)) t105 (wrap64 (x11_1 + 1))) else (if x5_1.length < 8796093022208 then (bitmap_pieces.l0 k1 l0 (x5_1 ++ [(⟨x11_1,1⟩:S52)]) t105 (wrap64 (x11_1 + 1))) else (none)))) else (none)) else (none))=some r:=by first|(rw [hji9] at H;exact H)|(simp only [hji9] at H ⊢;exact H)
      (try rw [hji9] at c8b0)
      (try rw [hji9] at A5)
      have hji9w:(IntKind.i64.wrap ((x5_1.length:Int) - 1))=ji9:=(i64_w _).trans hji9
      by_cases c10:0≤(ji9)
      ·rw [if_pos c10] at H
       have c10b0:decide (0≤(ji9))=true:=decide_eq_true c10
       clear c10
       by_cases c11:(ji9) < (x5_1.length:Int)
       ·rw [if_pos c11] at H
        have c11b0:decide ((ji9) < (x5_1.length:Int))=true:=decide_eq_true c11
        clear c11
        replace H:=Option.bind_eq_some_iff.mp H
        obtain ⟨t108,A120,H⟩:=H
        replace H:(if t108=x11_1 then (bitmap_pieces.l0 k1 l0 (x5_1.set ((ji9):Int).toNat (⟨(rd_T52 x5_1 (ji9)).f0,wrap64 (((rd_T52 x5_1 (ji9)).f1) + 1)⟩:S52)) t105 (wrap64 (x11_1 + 1))) else (if x5_1.length < 8796093022208 then (bitmap_pieces.l0 k1 l0 (x5_1 ++ [(⟨x11_1,1⟩:S52)]) t105 (wrap64 (x11_1 + 1))) else (none)))=some r:=H
        have A12:=zm A120
        clear A120
        by_cases c13:t108=x11_1
        ·rw [if_pos c13] at H
         have c13b0:(t108 == x11_1)=true:=beq_iff_eq.mpr c13
         have c13b1:(t108 != x11_1)=false:=bne_eq_false_iff_eq.mpr c13
         clear c13
         obtain ⟨y110,hy110⟩:∃ y_:List (S52),y_=(x5_1.set ((ji9):Int).toNat (⟨(rd_T52 x5_1 (ji9)).f0,wrap64 (((rd_T52 x5_1 (ji9)).f1) + 1)⟩:S52)):=⟨_,rfl⟩
         replace H:(bitmap_pieces.l0 k1 l0 y110 t105 (wrap64 (x11_1 + 1)))=some r:=by first|(rw [hy110];with_reducible exact H)|(have H2_:=(Option.bind_some _ _).symm.trans H;rw [hy110];with_reducible exact H2_)|(have H2_:=(Option.bind_some _ _).symm.trans H;with_reducible exact H2_)|with_reducible exact H|(rw [hy110];exact H)|exact H
         have Ny110:=zm hy110
         clear hy110
         have H':=zm H
         clear H
         obtain ⟨Ao15,co15,eo15⟩:=Kd.R_slice HO_5.out
         subst eo15
         go_wp2_with (first|((with_reducible refine gate_callee (f:=31) rfl ?_);refine goesL_ (some 25) rfl rfl Try.func31 (by kernel_rfl) rfl #[.slice A0 l0.length c0,.int .i64 x11_1] rfl (by (try simp only [List.map_toArray,List.map_cons,List.map_nil]);first|done|rfl|(simp only [List.length_drop,List.length_take];rfl)) ?_;(with_reducible refine (bitmap_bit.calls _ _ l0 x11_1 false _ ?side1 ?side2 A5.out).mono ?_);(case side1=>repeat (first|exact (Kd.C_below HR0.out HB.out)|(with_reducible refine Kd.C_alloc ?_ _)|(with_reducible refine Kd.C_drewN ?_ _)|(with_reducible refine Kd.C_drew ?_)));(case side2=>exact HC0.out);rintro e w' ⟨rfl,⟨nd,rfl⟩⟩;refine ⟨_,rfl,?_⟩;(try (rw [drewN_self wr];generalize hq_:World.drewN wr _=wr;have n0_:Aside0 (Kd.R k52 52 wr w.heap.size (fun _=>True) (.slice Ao15 x5_1.length co15) x5_1):=⟨by rw [← hq_];exact (by (with_reducible repeat (first|apply zrA|apply zrN|apply zrD));exact HO_5.out)⟩;have n1_:Aside0 (Below w.heap.size w wr):=⟨by rw [← hq_];exact (by repeat (first|(with_reducible first|exact HB.out|apply zlA|apply zlN|apply zlD)|exact HB.out))⟩;clear HO_5 HB hq_;have HO_5:=n0_;have HB:=n1_;clear n0_ n1_));have p107:0≤((ji9):Int):=of_decide_eq_true (by first|(with_reducible assumption)|assumption);have q107:(ji9) < (x5_1.length:Int):=of_decide_eq_true (by first|(with_reducible assumption)|assumption);obtain ⟨ad107,e107,hx107_0,hx107_1⟩:=at_T52 (Kd.R_reads' HO_5.out).2.2 (ji9) p107 q107;cases e107;replace p107:=eq_true p107;replace q107:=eq_true q107)|(go_at_call 34;(with_reducible refine (bitmap_piece_end.calls ((rd_T52 x5_1 (ji9)).f0) ((rd_T52 x5_1 (ji9)).f1) t108 _ A12.out).mono ?_);rintro e w16 ⟨rfl,hb⟩;have n0_:=zm (Kd.R_below (by (with_reducible repeat (first|apply zrA|apply zrN|apply zrD));exact HO_5.out) hb);have n1_:=zm (below_step (by repeat (first|(with_reducible first|exact HB.out|apply zlA|apply zlN|apply zlD)|exact HB.out)) hb);clear HO_5 HB;have HO_5:=n0_;have HB:=n1_;clear n0_ n1_;(try clear hb);(try clear hb2);(try clear hk);(try clear hi);have p109:0≤((ji9):Int):=of_decide_eq_true (by first|(with_reducible assumption)|assumption);have q109:(ji9) < (x5_1.length:Int):=of_decide_eq_true (by first|(with_reducible assumption)|assumption);obtain ⟨ad109,e109,hx109_0,hx109_1⟩:=at_T52 (Kd.R_reads' HO_5.out).2.2 (ji9) p109 q109;obtain rfl:ad107=ad109:=(by injection e109);replace p109:=eq_true p109;replace q109:=eq_true q109;have p14:0≤((ji9):Int):=of_decide_eq_true (by first|(with_reducible assumption)|assumption);have q14:((ji9):Int) < ((x5_1.length:Int):Int):=of_decide_eq_true (by first|(with_reducible assumption)|assumption);obtain ⟨go14,co14,eo14,gb14,gl14,cl14,HG14⟩:=Kd.R_form HO_5.out (by omega);(first|cases eo14|(injection eo14 with ea_ en_ ec_;(first|subst ea_|(injection ea_ with ea_;subst ea_));subst ec_;clear en_));have GB14:=zm gb14;have GG14:=zm HG14;clear gb14 gl14 HG14;(first|simp only [add_plain] at hx107_0|skip);(first|simp only [add_plain] at hx107_1|skip);(first|simp only [add_plain] at hx109_0|skip);(first|simp only [add_plain] at hx109_1|skip);obtain ⟨ce14,hcl14,hM14,hcc14,hfr14⟩:=Kd.R_elem HO_5.out z52 ((ji9):Int) p14 q14;obtain rfl:=k52_openM hM14;have hx14_0:w16.cell? ⟨go14,((ji9):Int).toNat * 2,none⟩=some (.int .i64 ((rd_T52 x5_1 (ji9)).f0)):=hcc14 0 _ rfl;have hx14_1:w16.cell? ⟨go14,((ji9):Int).toNat * 2 + 1,none⟩=some (.int .i64 ((rd_T52 x5_1 (ji9)).f1)):=hcc14 1 _ rfl;have hf14_0:w16.frozen? ⟨go14,((ji9):Int).toNat * 2,none⟩=false:=hfr14 0;have hf14_1:w16.frozen? ⟨go14,((ji9):Int).toNat * 2 + 1,none⟩=false:=hfr14 1;clear hcl14 hcc14 hfr14 hM14;replace p14:=eq_true p14;replace q14:=eq_true q14;have HX17:=zm (show Kd.R k52 52 w16 w.heap.size (fun _=>True) (.slice (some ⟨go14,0,none⟩) x5_1.length co15) x5_1 from (by (with_reducible repeat (first|apply zrA|apply zrN|apply zrD));exact HO_5.out));obtain ⟨ce17,hcl17,hM17,hcc17,hfr17⟩:=Kd.R_elem HX17.out z52 ((ji9):Int) (of_decide_eq_true (by first|(with_reducible assumption)|assumption)) (by have h_:((ji9):Int) < ((x5_1.length:Int):Int):=of_decide_eq_true (by first|(with_reducible assumption)|assumption);first|exact h_|(have e_:=(Kd.R_reads' HO_5.out).1;omega)|simpa using h_);obtain rfl:=k52_openM hM17;have HP17:=Kd.R_seg HX17.out ((ji9):Int) (of_decide_eq_true (by first|(with_reducible assumption)|assumption)) (by have h_:((ji9):Int) < ((x5_1.length:Int):Int):=of_decide_eq_true (by first|(with_reducible assumption)|assumption);first|exact h_|(have e_:=(Kd.R_reads' HO_5.out).1;omega)|simpa using h_) (seg:=[.int .i64 (wrap64 (((rd_T52 x5_1 (ji9)).f1) + 1))]) (j:=1) hcl17 hcc17 (show 2≤2 from by decide) (x':=(⟨(rd_T52 x5_1 (ji9)).f0,wrap64 (((rd_T52 x5_1 (ji9)).f1) + 1)⟩:S52)) (k52_mkM _ _ _ (⟨(rd_T52 x5_1 (ji9)).f0,wrap64 (((rd_T52 x5_1 (ji9)).f1) + 1)⟩:S52) ) (fun _ hk=>hk);have hx17_1:=hcc17 1 _ rfl;(try simp only [show (k52).sz=2 from rfl,Nat.mul_one,Nat.add_zero] at hx17_1);have hf17_1:=hfr17 1;(try simp only [show (k52).sz=2 from rfl,Nat.mul_one,Nat.add_zero] at hf17_1);clear hcl17 hcc17 hfr17 hM17)|((with_reducible refine gate_store (t:=3) (p:=45) rfl ?_);refine store_event (t:=3) (p:=45) (v:=?vo_w18) (w1:=(w16.setCell ⟨go14,((ji9):Int).toNat * 2 + 1,none⟩ (.int .i64 (wrap64 (((rd_T52 x5_1 (ji9)).f1) + 1))))) ?hg ?ho ?hn ?hr ?_;(case ho=>rfl);(case hg=>rfl);(case hn=>rfl);(case hr=>first|(go_simp;done)|(go_simp;rfl));intro w18 hw;have hg:w16.grownBy w18 (some go14):=(by rw [hw];exact HP17.2);have hp_:Kd.R k52 52 w18 w.heap.size (fun _=>True) (.slice (some ⟨go14,0,none⟩) x5_1.length co15) y110:=(by rw [hw,Ny110.out];exact HP17.1);clear HP17;have n0_:=zm (hp_);have n1_:=zm ((by rw [hw];exact zlS (HB.out) GB14.out:Below w.heap.size w w18));clear HO_5 HB;have HO_5:=n0_;have HB:=n1_;clear n0_ n1_;clear hg hw hp_))
         go_roundg k1
         case measure=>have:=HK1.out;omega
         case rel=>exact ⟨(y110),(wrap64 (x11_1 + 1)),(by first|rfl|(simp;done)|(simp [*];done)),H',⟨by have:=HK1.out;omega⟩,⟨by (with_reducible repeat (first|apply zrA|apply zrN|apply zrD));exact HO_5.out⟩,⟨by repeat (first|(with_reducible first|exact HB.out|apply zlA|apply zlN|apply zlD)|exact HB.out)⟩⟩
        ·rw [if_neg c13] at H
         have c13b0:(t108 == x11_1)=false:=beq_eq_false_iff_ne.mpr c13
         have c13b1:(t108 != x11_1)=true:=bne_iff_ne.mpr c13
         by_cases c19:x5_1.length < 8796093022208
         ·rw [if_pos c19] at H
          have LMc19:=zm c19
          clear c19
          obtain ⟨y111,hy111⟩:∃ y_:List (S52),y_=(x5_1 ++ [(⟨x11_1,1⟩:S52)]):=⟨_,rfl⟩
          replace H:(bitmap_pieces.l0 k1 l0 y111 t105 (wrap64 (x11_1 + 1)))=some r:=by first|(rw [hy111];with_reducible exact H)|(have H2_:=(Option.bind_some _ _).symm.trans H;rw [hy111];with_reducible exact H2_)|(have H2_:=(Option.bind_some _ _).symm.trans H;with_reducible exact H2_)|with_reducible exact H|(rw [hy111];exact H)|exact H
          have Ny111:=zm hy111
          clear hy111
          have H':=zm H
          clear H
          obtain ⟨Ao20,co20,eo20⟩:=Kd.R_slice HO_5.out
          subst eo20
          go_wp2_with (first|((with_reducible refine gate_callee (f:=31) rfl ?_);refine goesL_ (some 25) rfl rfl Try.func31 (by kernel_rfl) rfl #[.slice A0 l0.length c0,.int .i64 x11_1] rfl (by (try simp only [List.map_toArray,List.map_cons,List.map_nil]);first|done|rfl|(simp only [List.length_drop,List.length_take];rfl)) ?_;(with_reducible refine (bitmap_bit.calls _ _ l0 x11_1 false _ ?side1 ?side2 A5.out).mono ?_);(case side1=>repeat (first|exact (Kd.C_below HR0.out HB.out)|(with_reducible refine Kd.C_alloc ?_ _)|(with_reducible refine Kd.C_drewN ?_ _)|(with_reducible refine Kd.C_drew ?_)));(case side2=>exact HC0.out);rintro e w' ⟨rfl,⟨nd,rfl⟩⟩;refine ⟨_,rfl,?_⟩;have p107:0≤((ji9):Int):=of_decide_eq_true (by first|(with_reducible assumption)|assumption);have q107:(ji9) < (x5_1.length:Int):=of_decide_eq_true (by first|(with_reducible assumption)|assumption);obtain ⟨ad107,e107,hx107_0,hx107_1⟩:=at_T52 (Kd.R_reads' HO_5.out).2.2 (ji9) p107 q107;cases e107;replace p107:=eq_true p107;replace q107:=eq_true q107)|(go_at_call 34;(with_reducible refine (bitmap_piece_end.calls ((rd_T52 x5_1 (ji9)).f0) ((rd_T52 x5_1 (ji9)).f1) t108 _ A12.out).mono ?_);rintro e w21 ⟨rfl,hb⟩;have n0_:=zm (Kd.R_below (by (with_reducible repeat (first|apply zrA|apply zrN|apply zrD));exact HO_5.out) hb);have n1_:=zm (below_step (by repeat (first|(with_reducible first|exact HB.out|apply zlA|apply zlN|apply zlD)|exact HB.out)) hb);clear HO_5 HB;have HO_5:=n0_;have HB:=n1_;clear n0_ n1_;(try clear hb);(try clear hb2);(try clear hk);(try clear hi))|((with_reducible refine gate_builtin (b:=.append) (xs:=#[.tmp 17,.tmp 20]) rfl ?_);at_builtin;refine Kd.R_append k52 (w0:=w) w.heap.size rfl (.tmp 17) (.tmp 20) 49 52 (.agg #[(.int .i64 0),(.int .i64 0)]) 16 rfl Try.underlying49 info52 rfl (by decide) (by omega) (.slice (some ad107) x5_1.length co20) x5_1 (⟨x11_1,1⟩:S52) [.int .i64 x11_1,.int .i64 1] (fun _=>True) (fun _=>False) rfl rfl ?aP (fun _ hk=>hk.elim) ?aF ?aO ?aB ?aS ?aL ?_;(case aP=>exact k52_mkM _ _ _ (⟨x11_1,1⟩:S52));(case aB=>exact (by repeat (first|(with_reducible first|exact HB.out|apply zlA|apply zlN|apply zlD)|exact HB.out)));(case aF=>exact (fun _ _=>trivial));(case aO=>exact (by (with_reducible repeat (first|apply zrA|apply zrN|apply zrD));exact HO_5.out));(case aS=>exact (below_size (by repeat (first|(with_reducible first|exact HB.out|apply zlA|apply zlN|apply zlD)|exact HB.out))));(case aL=>have:=LMc19.out;omega);intro v112 w22 ho hb hg hat;rw [← Ny111.out] at ho;have n0_:=zm (hb);have n1_:=zm (ho);clear HB HO_5;have HB:=n0_;have HO113:=n1_;clear n0_ n1_;clear ho hb hg hat))
          go_roundg k1
          case measure=>have:=HK1.out;omega
          case rel=>exact ⟨(y111),(wrap64 (x11_1 + 1)),(by first|rfl|(simp;done)|(simp [*];done)),H',⟨by have:=HK1.out;omega⟩,⟨by (with_reducible repeat (first|apply zrA|apply zrN|apply zrD));exact HO113.out⟩,⟨by repeat (first|(with_reducible first|exact HB.out|apply zlA|apply zlN|apply zlD)|exact HB.out)⟩⟩
         ·rw [if_neg c19] at H
          exact absurd H (by simp)
       ·rw [if_neg c11] at H
        exact absurd H (by simp)
      ·rw [if_neg c10] at H
       exact absurd H (by simp)
     ·rw [if_neg c8] at H
      have c8b0:decide (0≤(wrap64 ((x5_1.length:Int) - 1)))=false:=decide_eq_false c8
      clear c8
      by_cases c23:x5_1.length < 8796093022208
      ·rw [if_pos c23] at H
       have LMc23:=zm c23
       clear c23
       obtain ⟨y114,hy114⟩:∃ y_:List (S52),y_=(x5_1 ++ [(⟨x11_1,1⟩:S52)]):=⟨_,rfl⟩
       replace H:(bitmap_pieces.l0 k1 l0 y114 t105 (wrap64 (x11_1 + 1)))=some r:=by first|(rw [hy114];with_reducible exact H)|(have H2_:=(Option.bind_some _ _).symm.trans H;rw [hy114];with_reducible exact H2_)|(have H2_:=(Option.bind_some _ _).symm.trans H;with_reducible exact H2_)|with_reducible exact H|(rw [hy114];exact H)|exact H
       have Ny114:=zm hy114
       clear hy114
       have H':=zm H
       clear H
       obtain ⟨Ao24,co24,eo24⟩:=Kd.R_slice HO_5.out
       subst eo24
       go_wp2_with (first|((with_reducible refine gate_callee (f:=31) rfl ?_);refine goesL_ (some 25) rfl rfl Try.func31 (by kernel_rfl) rfl #[.slice A0 l0.length c0,.int .i64 x11_1] rfl (by (try simp only [List.map_toArray,List.map_cons,List.map_nil]);first|done|rfl|(simp only [List.length_drop,List.length_take];rfl)) ?_;(with_reducible refine (bitmap_bit.calls _ _ l0 x11_1 false _ ?side1 ?side2 A5.out).mono ?_);(case side1=>repeat (first|exact (Kd.C_below HR0.out HB.out)|(with_reducible refine Kd.C_alloc ?_ _)|(with_reducible refine Kd.C_drewN ?_ _)|(with_reducible refine Kd.C_drew ?_)));(case side2=>exact HC0.out);rintro e w' ⟨rfl,⟨nd,rfl⟩⟩;refine ⟨_,rfl,?_⟩)|((with_reducible refine gate_builtin (b:=.append) (xs:=#[.tmp 17,.tmp 20]) rfl ?_);at_builtin;refine Kd.R_append k52 (w0:=w) w.heap.size rfl (.tmp 17) (.tmp 20) 49 52 (.agg #[(.int .i64 0),(.int .i64 0)]) 16 rfl Try.underlying49 info52 rfl (by decide) (by omega) (.slice Ao24 x5_1.length co24) x5_1 (⟨x11_1,1⟩:S52) [.int .i64 x11_1,.int .i64 1] (fun _=>True) (fun _=>False) rfl rfl ?aP (fun _ hk=>hk.elim) ?aF ?aO ?aB ?aS ?aL ?_;(case aP=>exact k52_mkM _ _ _ (⟨x11_1,1⟩:S52));(case aB=>exact (by repeat (first|(with_reducible first|exact HB.out|apply zlA|apply zlN|apply zlD)|exact HB.out)));(case aF=>exact (fun _ _=>trivial));(case aO=>exact (by (with_reducible repeat (first|apply zrA|apply zrN|apply zrD));exact HO_5.out));(case aS=>exact (below_size (by repeat (first|(with_reducible first|exact HB.out|apply zlA|apply zlN|apply zlD)|exact HB.out))));(case aL=>have:=LMc23.out;omega);intro v115 w25 ho hb hg hat;rw [← Ny114.out] at ho;have n0_:=zm (hb);have n1_:=zm (ho);clear HB HO_5;have HB:=n0_;have HO116:=n1_;clear n0_ n1_;clear ho hb hg hat))
       go_roundg k1
       case measure=>have:=HK1.out;omega
       case rel=>exact ⟨(y114),(wrap64 (x11_1 + 1)),(by first|rfl|(simp;done)|(simp [*];done)),H',⟨by have:=HK1.out;omega⟩,⟨by (with_reducible repeat (first|apply zrA|apply zrN|apply zrD));exact HO116.out⟩,⟨by repeat (first|(with_reducible first|exact HB.out|apply zlA|apply zlN|apply zlD)|exact HB.out)⟩⟩
      ·rw [if_neg c23] at H
       exact absurd H (by simp)
   ·rw [if_neg c4] at H
    have c4b0:decide (x11_1 < t105)=false:=decide_eq_false c4
    clear c4
    obtain rfl:=Option.some.inj H
    go_wp2
    go_ret
    exact ⟨_,by first|rfl|(simp [errW_none,errW_some] <;> rfl)|(simp [*,errW_none,errW_some] <;> rfl),by (with_reducible repeat (first|apply zrA|apply zrN|apply zrD));exact HO_5.out,by repeat (first|(with_reducible first|exact HB.out|apply zlA|apply zlN|apply zlD)|exact HB.out)⟩
end Go.Proofs.Ytllodfjbenmlpaa.Print
end
section
namespace Go.Proofs.Ytllodfjbenmlpaa.Print
open Go.RowKit Go.Proofs.YtllodfjbenmlpaaW.PrintWords Go.Proofs.YtllodfjbenmlpaaW.PrintLast Go.Proofs.YtllodfjbenmlpaaW.PrintMore
attribute [local go_sem] max2_int min2_int max_two min_two max_three min_three max_four min_four   -- for this text's walks alone
attribute [local go_sem ↓] Go.Proofs.Ytllodfjbenmlpaa.Sem.isSome_setCell
attribute [local go_sem] Go.Instr.field Go.asAgg
set_option linter.unusedVariables false
set_option linter.unusedSimpArgs false
mutual
def bitmap_Run.j0:Nat → List Int → Int → Int → Int → Bool → Option (Int × Int)
 | 0,_,_,_,_,_=>none
 | k + 1,x0,x1,x2,x3,x27=>if x27=true then (bitmap_Run.j1 k x0 x1 0 x3) else (bitmap_Run.j1 k x0 x1 x2 x3)
def bitmap_Run.j1:Nat → List Int → Int → Int → Int → Option (Int × Int)
 | 0,_,_,_,_=>none
 | k + 1,x0,x1,x2,x3=>(bitmap_pieces.f k x0 x1).bind fun t118=>(bitmap_Run.l0 k x2 x3 t118 t118 (t118.length:Int) 0)
def bitmap_Run.l0:Nat → Int → Int → List (S52) → List (S52) → Int → Int → Option (Int × Int)
 | 0,_,_,_,_,_,_=>none
 | k + 1,x2,x3,x10,x31,x32,x33=>if x33 < x32 then (if 0≤x33 then (if x33 < (x31.length:Int) then ((bitmap_piece_end.f ((rd_T52 x31 x33).f0) ((rd_T52 x31 x33).f1)).bind fun t123=>(if (wrap64 (t123 - (mx ((rd_T52 x31 x33).f0) x2))) ≥ x3 then (some (mx ((rd_T52 x31 x33).f0) x2,x3)) else (bitmap_Run.l0 k x2 x3 x10 x31 x32 (wrap64 (x33 + 1))))) else (none)) else (none)) else (bitmap_Run.l1 k x2 x3 x10 (x10.length:Int) 0 0 0)
def bitmap_Run.l1:Nat → Int → Int → List (S52) → Int → Int → Int → Int → Option (Int × Int)
 | 0,_,_,_,_,_,_,_=>none
 | k + 1,x2,x3,x51,x52,x53,x125000,x125001=>if x53 < x52 then (if 0≤x53 then (if x53 < (x51.length:Int) then (if ((rd_T52 x51 x53).f0) < x2 then (bitmap_Run.j4 k x2 x3 x51 x52 x53 (decide (((rd_T52 x51 x53).f1) ≥ x3)) x125000 x125001 ((rd_T52 x51 x53).f0) ((rd_T52 x51 x53).f1)) else (bitmap_Run.j4 k x2 x3 x51 x52 x53 false x125000 x125001 ((rd_T52 x51 x53).f0) ((rd_T52 x51 x53).f1))) else (none)) else (none)) else (some (x125000,x125001))
def bitmap_Run.j4:Nat → Int → Int → List (S52) → Int → Int → Bool → Int → Int → Int → Int → Option (Int × Int)
 | 0,_,_,_,_,_,_,_,_,_,_=>none
 | k + 1,x2,x3,x51,x52,x53,x66,x125000,x125001,x127000,x127001=>if x66=true then (some (x127000,x3)) else (if x127001 > x125001 then (bitmap_Run.l1 k x2 x3 x51 x52 (wrap64 (x53 + 1)) x127000 x127001) else (bitmap_Run.l1 k x2 x3 x51 x52 (wrap64 (x53 + 1)) x125000 x125001))
end
def bitmap_Run.f (k:Nat) (l0:List Int) (a1:Int) (a2:Int) (a3:Int):Option (Int × Int):=if a3 < 1 then (some (0,0)) else (if a2 < 0 then (bitmap_Run.j0 k l0 a1 a2 a3 true) else ((bitmap_may.f k l0 a1).bind fun t117=>(bitmap_Run.j0 k l0 a1 a2 a3 (decide (a2 ≥ t117)))))
theorem bitmap_Run.mono_l:∀ k,(∀ y0 y1 y2 y3 y4,LeO (bitmap_Run.j0 k y0 y1 y2 y3 y4) (bitmap_Run.j0 (k + 1) y0 y1 y2 y3 y4))∧(∀ y0 y1 y2 y3,LeO (bitmap_Run.j1 k y0 y1 y2 y3) (bitmap_Run.j1 (k + 1) y0 y1 y2 y3))∧(∀ y0 y1 y2 y3 y4 y5,LeO (bitmap_Run.l0 k y0 y1 y2 y3 y4 y5) (bitmap_Run.l0 (k + 1) y0 y1 y2 y3 y4 y5))∧(∀ y0 y1 y2 y3 y4 y5 y6,LeO (bitmap_Run.l1 k y0 y1 y2 y3 y4 y5 y6) (bitmap_Run.l1 (k + 1) y0 y1 y2 y3 y4 y5 y6))∧(∀ y0 y1 y2 y3 y4 y5 y6 y7 y8 y9,LeO (bitmap_Run.j4 k y0 y1 y2 y3 y4 y5 y6 y7 y8 y9) (bitmap_Run.j4 (k + 1) y0 y1 y2 y3 y4 y5 y6 y7 y8 y9))
 | 0=>⟨fun _ _ _ _ _ r h=>by simp [bitmap_Run.j0] at h,fun _ _ _ _ r h=>by simp [bitmap_Run.j1] at h,fun _ _ _ _ _ _ r h=>by simp [bitmap_Run.l0] at h,fun _ _ _ _ _ _ _ r h=>by simp [bitmap_Run.l1] at h,fun _ _ _ _ _ _ _ _ _ _ r h=>by simp [bitmap_Run.j4] at h⟩
 | k + 1=>by
  obtain ⟨ih0,ih1,ih2,ih3,ih4⟩:=bitmap_Run.mono_l k
  refine ⟨?_,?_,?_,?_,?_⟩
  ·intro y0 y1 y2 y3 y4
   unfold bitmap_Run.j0
   repeat' first
   | (with_reducible exact ih0 _ _ _ _ _)
   | (with_reducible exact ih1 _ _ _ _)
   | (with_reducible exact ih2 _ _ _ _ _ _)
   | (with_reducible exact ih3 _ _ _ _ _ _ _)
   | (with_reducible exact ih4 _ _ _ _ _ _ _ _ _ _)
   | (with_reducible exact bitmap_may.mono _ _ _)
   | (with_reducible exact bitmap_pieces.mono _ _ _)
   | (with_reducible exact LeO.refl _)
   | (with_reducible exact LeO.none _)
   | (with_reducible refine LeO.ite ?_ ?_)
   | (with_reducible refine LeO.bind ?_ (fun _=>?_))
   | exact ih0 _ _ _ _ _
   | exact ih1 _ _ _ _
   | exact ih2 _ _ _ _ _ _
   | exact ih3 _ _ _ _ _ _ _
   | exact ih4 _ _ _ _ _ _ _ _ _ _
   | exact bitmap_may.mono _ _ _
   | exact bitmap_pieces.mono _ _ _
   | exact LeO.none _
   | refine LeO.ite ?_ ?_
   | refine LeO.bind ?_ (fun _=>?_)
  ·intro y0 y1 y2 y3
   unfold bitmap_Run.j1
   repeat' first
   | (with_reducible exact ih0 _ _ _ _ _)
   | (with_reducible exact ih1 _ _ _ _)
   | (with_reducible exact ih2 _ _ _ _ _ _)
   | (with_reducible exact ih3 _ _ _ _ _ _ _)
   | (with_reducible exact ih4 _ _ _ _ _ _ _ _ _ _)
   | (with_reducible exact bitmap_may.mono _ _ _)
   | (with_reducible exact bitmap_pieces.mono _ _ _)
   | (with_reducible exact LeO.refl _)
   | (with_reducible exact LeO.none _)
   | (with_reducible refine LeO.ite ?_ ?_)
   | (with_reducible refine LeO.bind ?_ (fun _=>?_))
   | exact ih0 _ _ _ _ _
   | exact ih1 _ _ _ _
   | exact ih2 _ _ _ _ _ _
   | exact ih3 _ _ _ _ _ _ _
   | exact ih4 _ _ _ _ _ _ _ _ _ _
   | exact bitmap_may.mono _ _ _
   | exact bitmap_pieces.mono _ _ _
   | exact LeO.none _
   | refine LeO.ite ?_ ?_
   | refine LeO.bind ?_ (fun _=>?_)
  ·intro y0 y1 y2 y3 y4 y5
   unfold bitmap_Run.l0
   repeat' first
   | (with_reducible exact ih0 _ _ _ _ _)
   | (with_reducible exact ih1 _ _ _ _)
   | (with_reducible exact ih2 _ _ _ _ _ _)
   | (with_reducible exact ih3 _ _ _ _ _ _ _)
   | (with_reducible exact ih4 _ _ _ _ _ _ _ _ _ _)
   | (with_reducible exact bitmap_may.mono _ _ _)
   | (with_reducible exact bitmap_pieces.mono _ _ _)
   | (with_reducible exact LeO.refl _)
   | (with_reducible exact LeO.none _)
   | (with_reducible refine LeO.ite ?_ ?_)
   | (with_reducible refine LeO.bind ?_ (fun _=>?_))
   | exact ih0 _ _ _ _ _
   | exact ih1 _ _ _ _
   | exact ih2 _ _ _ _ _ _
   | exact ih3 _ _ _ _ _ _ _
   | exact ih4 _ _ _ _ _ _ _ _ _ _
   | exact bitmap_may.mono _ _ _
   | exact bitmap_pieces.mono _ _ _
   | exact LeO.none _
   | refine LeO.ite ?_ ?_
   | refine LeO.bind ?_ (fun _=>?_)
  ·intro y0 y1 y2 y3 y4 y5 y6
   unfold bitmap_Run.l1
   repeat' first
   | (with_reducible exact ih0 _ _ _ _ _)
   | (with_reducible exact ih1 _ _ _ _)
   | (with_reducible exact ih2 _ _ _ _ _ _)
   | (with_reducible exact ih3 _ _ _ _ _ _ _)
   | (with_reducible exact ih4 _ _ _ _ _ _ _ _ _ _)
   | (with_reducible exact bitmap_may.mono _ _ _)
   | (with_reducible exact bitmap_pieces.mono _ _ _)
   | (with_reducible exact LeO.refl _)
   | (with_reducible exact LeO.none _)
   | (with_reducible refine LeO.ite ?_ ?_)
   | (with_reducible refine LeO.bind ?_ (fun _=>?_))
   | exact ih0 _ _ _ _ _
   | exact ih1 _ _ _ _
   | exact ih2 _ _ _ _ _ _
   | exact ih3 _ _ _ _ _ _ _
   | exact ih4 _ _ _ _ _ _ _ _ _ _
   | exact bitmap_may.mono _ _ _
   | exact bitmap_pieces.mono _ _ _
   | exact LeO.none _
   | refine LeO.ite ?_ ?_
   | refine LeO.bind ?_ (fun _=>?_)
  ·intro y0 y1 y2 y3 y4 y5 y6 y7 y8 y9
   unfold bitmap_Run.j4
   repeat' first
   | (with_reducible exact ih0 _ _ _ _ _)
   | (with_reducible exact ih1 _ _ _ _)
   | (with_reducible exact ih2 _ _ _ _ _ _)
   | (with_reducible exact ih3 _ _ _ _ _ _ _)
   | (with_reducible exact ih4 _ _ _ _ _ _ _ _ _ _)
   | (with_reducible exact bitmap_may.mono _ _ _)
   | (with_reducible exact bitmap_pieces.mono _ _ _)
   | (with_reducible exact LeO.refl _)
   | (with_reducible exact LeO.none _)
   | (with_reducible refine LeO.ite ?_ ?_)
   | (with_reducible refine LeO.bind ?_ (fun _=>?_))
   | exact ih0 _ _ _ _ _
   | exact ih1 _ _ _ _
   | exact ih2 _ _ _ _ _ _
   | exact ih3 _ _ _ _ _ _ _
   | exact ih4 _ _ _ _ _ _ _ _ _ _
   | exact bitmap_may.mono _ _ _
   | exact bitmap_pieces.mono _ _ _
   | exact LeO.none _
   | refine LeO.ite ?_ ?_
   | refine LeO.bind ?_ (fun _=>?_)
theorem bitmap_Run.mono:∀ a0 a1 a2 a3 k,LeO (bitmap_Run.f k a0 a1 a2 a3) (bitmap_Run.f (k + 1) a0 a1 a2 a3):=by
 intro a0 a1 a2 a3 k
 obtain ⟨ih0,ih1,ih2,ih3,ih4⟩:=bitmap_Run.mono_l k
 unfold bitmap_Run.f
 repeat' first
   | (with_reducible exact ih0 _ _ _ _ _)
   | (with_reducible exact ih1 _ _ _ _)
   | (with_reducible exact ih2 _ _ _ _ _ _)
   | (with_reducible exact ih3 _ _ _ _ _ _ _)
   | (with_reducible exact ih4 _ _ _ _ _ _ _ _ _ _)
   | (with_reducible exact bitmap_may.mono _ _ _)
   | (with_reducible exact bitmap_pieces.mono _ _ _)
   | (with_reducible exact LeO.refl _)
   | (with_reducible exact LeO.none _)
   | (with_reducible refine LeO.ite ?_ ?_)
   | (with_reducible refine LeO.bind ?_ (fun _=>?_))
   | exact ih0 _ _ _ _ _
   | exact ih1 _ _ _ _
   | exact ih2 _ _ _ _ _ _
   | exact ih3 _ _ _ _ _ _ _
   | exact ih4 _ _ _ _ _ _ _ _ _ _
   | exact bitmap_may.mono _ _ _
   | exact bitmap_pieces.mono _ _ _
   | exact LeO.none _
   | refine LeO.ite ?_ ?_
   | refine LeO.bind ?_ (fun _=>?_)
set_option maxHeartbeats 8000000 in
set_option maxRecDepth 100000 in
theorem bitmap_Run.calls (k:Nat) (A0:Option Addr) (c0:Nat) (l0:List Int) (a1:Int) (a2:Int) (a3:Int) (r1:Int) (r2:Int) (w:World) (hr0:Kd.C (Kd.int .u8) w A0 l0.length l0) (hc0:l0.length≤c0) (h:bitmap_Run.f k l0 a1 a2 a3=some (r1,r2)) :
  Calls Try.prog 10 #[.slice A0 l0.length c0,.int .i64 a1,.int .i64 a2,.int .i64 a3] w fun e w'=>e=.returned (.tuple #[.int .i64 r1,.int .i64 r2])∧Below w.heap.size w w':=by
 have hu52:=Try.underlying52
 have HR0:=zm hr0
 have HC0:=zm hc0
 clear hr0 hc0
 have HB:=zm (Below.refl w.heap.size w)
 have H:(if a3 < 1 then (some (0,0)) else (if a2 < 0 then (bitmap_Run.j0 k l0 a1 a2 a3 true) else ((bitmap_may.f k l0 a1).bind fun t117=>(bitmap_Run.j0 k l0 a1 a2 a3 (decide (a2 ≥ t117))))))=some (r1,r2):=h
 clear h
 by_cases c5:a3 < 1
 ·rw [if_pos c5] at H
  have c5b0:decide (a3 < 1)=true:=decide_eq_true c5
  clear c5
  simp only [Option.some.injEq,Prod.mk.injEq] at H
  obtain ⟨rfl,rfl⟩:=H
  go_enter Try.func10,Try.ntmps10
  go_wp2
  repeat (go_quiet (fail);try go_wp2)
  go_ret2
  exact ⟨by first|rfl|(simp [errW_none,errW_some] <;> rfl)|(simp [*,errW_none,errW_some] <;> rfl),by repeat (first|(with_reducible first|exact HB.out|apply zlA|apply zlN|apply zlD)|exact HB.out)⟩
 ·rw [if_neg c5] at H
  have c5b0:decide (a3 < 1)=false:=decide_eq_false c5
  clear c5
  have HC6:=zm H
  clear H
  go_enter Try.func10,Try.ntmps10
  go_upto_region 3 with (fail)
  repeat (go_quiet (fail);go_upto_region 3 with (fail))
  go_cut [27] (fun v27 wc=>∃ (kq:Nat) (x27_5:Bool),v27=.bool x27_5∧Aside0 (bitmap_Run.j0 kq l0 a1 a2 a3 x27_5=some (r1,r2))∧Aside0 (kq≤k)∧Aside0 (Below w.heap.size w wc))
  case first =>
   have H:=HC6.out
   clear HC6
   by_cases c7:a2 < 0
   ·rw [if_pos c7] at H
    have c7b0:decide (a2 < 0)=true:=decide_eq_true c7
    clear c7
    (first|rw [c7b0]|(simp only [i64_w,i32_w];rw [c7b0])|skip)
    have H':=zm H
    clear H
    go_wp2
    repeat (go_quiet (fail);try go_wp2)
    go_meet
    case rel=>exact ⟨_,(true),(by first|rfl|(simp;done)|(simp [*];done)),H',⟨by first|omega|exact Nat.le_refl _⟩,⟨by repeat (first|(with_reducible first|exact HB.out|apply zlA|apply zlN|apply zlD)|exact HB.out)⟩⟩
   ·rw [if_neg c7] at H
    have c7b0:decide (a2 < 0)=false:=decide_eq_false c7
    clear c7
    (first|rw [c7b0]|(simp only [i64_w,i32_w];rw [c7b0])|skip)
    replace H:=Option.bind_eq_some_iff.mp H
    obtain ⟨t117,A80,H⟩:=H
    replace H:(bitmap_Run.j0 k l0 a1 a2 a3 (decide (a2 ≥ t117)))=some (r1,r2):=H
    have A8:=zm A80
    clear A80
    have H':=zm H
    clear H
    go_wp2_with (first|(go_at_call 32;(with_reducible refine (bitmap_may.calls k _ _ l0 a1 t117 _ ?side1 ?side2 A8.out).mono ?_);(case side1=>repeat (first|exact (Kd.C_below HR0.out HB.out)|(with_reducible refine Kd.C_alloc ?_ _)|(with_reducible refine Kd.C_drewN ?_ _)|(with_reducible refine Kd.C_drew ?_)));(case side2=>exact HC0.out);rintro e w' ⟨rfl,⟨nd,rfl⟩⟩;(try first|exact ⟨rfl,_,World.drewN_drewN _ _ _⟩|exact ⟨rfl,_,Eq.trans (World.drewN_drewN _ _ _) (congrArg (World.drewN _) (Nat.add_assoc _ _ _))⟩)))
    repeat (go_quiet (first|(go_at_call 32;(with_reducible refine (bitmap_may.calls k _ _ l0 a1 t117 _ ?side1 ?side2 A8.out).mono ?_);(case side1=>repeat (first|exact (Kd.C_below HR0.out HB.out)|(with_reducible refine Kd.C_alloc ?_ _)|(with_reducible refine Kd.C_drewN ?_ _)|(with_reducible refine Kd.C_drew ?_)));(case side2=>exact HC0.out);rintro e w' ⟨rfl,⟨nd,rfl⟩⟩;(try first|exact ⟨rfl,_,World.drewN_drewN _ _ _⟩|exact ⟨rfl,_,Eq.trans (World.drewN_drewN _ _ _) (congrArg (World.drewN _) (Nat.add_assoc _ _ _))⟩)));try go_wp2_with (first|(go_at_call 32;(with_reducible refine (bitmap_may.calls k _ _ l0 a1 t117 _ ?side1 ?side2 A8.out).mono ?_);(case side1=>repeat (first|exact (Kd.C_below HR0.out HB.out)|(with_reducible refine Kd.C_alloc ?_ _)|(with_reducible refine Kd.C_drewN ?_ _)|(with_reducible refine Kd.C_drew ?_)));(case side2=>exact HC0.out);rintro e w' ⟨rfl,⟨nd,rfl⟩⟩;(try first|exact ⟨rfl,_,World.drewN_drewN _ _ _⟩|exact ⟨rfl,_,Eq.trans (World.drewN_drewN _ _ _) (congrArg (World.drewN _) (Nat.add_assoc _ _ _))⟩))))
    go_meet
    case rel=>exact ⟨_,(decide (a2 ≥ t117)),(by first|rfl|(simp;done)|(simp [*];done)),H',⟨by first|omega|exact Nat.le_refl _⟩,⟨by repeat (first|(with_reducible first|exact HB.out|apply zlA|apply zlN|apply zlD)|exact HB.out)⟩⟩
  case rest =>
   clear HC6
   try clear c1
   try clear p2
   try clear c5
   try clear c5b0
   try clear c7
   try clear c7b0
   obtain ⟨kq,x27_5,rfl,HA,HJ5,HB⟩:=hcut
   cases kq with
   | zero=>exact absurd HA.out (by simp [bitmap_Run.j0])
   | succ kj5 =>
    have H:=HA.out
    clear HA
    simp only [bitmap_Run.j0] at H
    have HC9:=zm H
    clear H
    go_upto_if 27 with (fail)
    repeat (go_quiet (fail);go_upto_if 27 with (fail))
    go_cut [2] (fun v2 wc=>∃ (kq:Nat) (x2_8:Int),v2=.int .i64 x2_8∧Aside0 (bitmap_Run.j1 kq l0 a1 x2_8 a3=some (r1,r2))∧Aside0 (kq≤kj5)∧Aside0 (Below w.heap.size w wc))
    case first =>
     have H:=HC9.out
     clear HC9
     by_cases c10:x27_5=true
     ·subst c10
      have H1:(bitmap_Run.j1 kj5 l0 a1 0 a3)=some (r1,r2):=by rw [if_pos rfl] at H;exact H
      clear H
      have H:=H1
      clear H1
      have H':=zm H
      clear H
      go_wp2
      repeat (go_quiet (fail);try go_wp2)
      go_meet
      case rel=>exact ⟨_,(0),(by first|rfl|(simp;done)|(simp [*];done)),H',⟨by have:=HJ5.out;first|omega|exact Nat.le_refl _⟩,⟨by repeat (first|(with_reducible first|exact HB.out|apply zlA|apply zlN|apply zlD)|exact HB.out)⟩⟩
     ·replace c10:=Bool.eq_false_iff.mpr c10
      subst c10
      have H1:(bitmap_Run.j1 kj5 l0 a1 a2 a3)=some (r1,r2):=by rw [if_neg (show ¬ (false=true) by decide)] at H;exact H
      clear H
      have H:=H1
      clear H1
      have H':=zm H
      clear H
      go_wp2
      repeat (go_quiet (fail);try go_wp2)
      go_meet
      case rel=>exact ⟨_,(a2),(by first|rfl|(simp;done)|(simp [*];done)),H',⟨by have:=HJ5.out;first|omega|exact Nat.le_refl _⟩,⟨by repeat (first|(with_reducible first|exact HB.out|apply zlA|apply zlN|apply zlD)|exact HB.out)⟩⟩
    case rest =>
     clear HC9
     try clear c1
     try clear p2
     try clear c5
     try clear c5b0
     try clear c7
     try clear c7b0
     try clear c10
     try clear p2
     obtain ⟨kq,x2_8,rfl,HA,HJ8,HB⟩:=hcut
     cases kq with
     | zero=>exact absurd HA.out (by simp [bitmap_Run.j1])
     | succ kj8 =>
      have H:=HA.out
      clear HA
      simp only [bitmap_Run.j1] at H
      replace H:=Option.bind_eq_some_iff.mp H
      obtain ⟨t118,A110,H⟩:=H
      replace H:(bitmap_Run.l0 kj8 x2_8 a3 t118 t118 (t118.length:Int) 0)=some (r1,r2):=H
      have A11:=zm A110
      clear A110
      have H':=zm H
      clear H
      go_wp2_with (first|(go_at_call 33;(with_reducible refine (bitmap_pieces.calls kj8 _ _ l0 a1 t118 _ ?side1 ?side2 A11.out).mono ?_);(case side1=>repeat (first|exact (Kd.C_below HR0.out HB.out)|(with_reducible refine Kd.C_alloc ?_ _)|(with_reducible refine Kd.C_drewN ?_ _)|(with_reducible refine Kd.C_drew ?_)));(case side2=>exact HC0.out);rintro e w12 ⟨v119,rfl,ho0,hb⟩;have n0_:=zm (Kd.R_lower ho0 (below_size (by repeat (first|(with_reducible first|exact HB.out|apply zlA|apply zlN|apply zlD)|exact HB.out))));have n1_:=zm (below_step (by repeat (first|(with_reducible first|exact HB.out|apply zlA|apply zlN|apply zlD)|exact HB.out)) hb);clear HB;have HO120:=n0_;have HB:=n1_;clear n0_ n1_;(try clear hb);(try clear hb2);(try clear hk);(try clear hi);(try clear ho0);obtain ⟨Ao13,co13,eo13⟩:=Kd.R_slice HO120.out;subst eo13))
      repeat (go_quiet (first|(go_at_call 33;(with_reducible refine (bitmap_pieces.calls kj8 _ _ l0 a1 t118 _ ?side1 ?side2 A11.out).mono ?_);(case side1=>repeat (first|exact (Kd.C_below HR0.out HB.out)|(with_reducible refine Kd.C_alloc ?_ _)|(with_reducible refine Kd.C_drewN ?_ _)|(with_reducible refine Kd.C_drew ?_)));(case side2=>exact HC0.out);rintro e w12 ⟨v119,rfl,ho0,hb⟩;have n0_:=zm (Kd.R_lower ho0 (below_size (by repeat (first|(with_reducible first|exact HB.out|apply zlA|apply zlN|apply zlD)|exact HB.out))));have n1_:=zm (below_step (by repeat (first|(with_reducible first|exact HB.out|apply zlA|apply zlN|apply zlD)|exact HB.out)) hb);clear HB;have HO120:=n0_;have HB:=n1_;clear n0_ n1_;(try clear hb);(try clear hb2);(try clear hk);(try clear hi);(try clear ho0);obtain ⟨Ao13,co13,eo13⟩:=Kd.R_slice HO120.out;subst eo13));try go_wp2_with (first|(go_at_call 33;(with_reducible refine (bitmap_pieces.calls kj8 _ _ l0 a1 t118 _ ?side1 ?side2 A11.out).mono ?_);(case side1=>repeat (first|exact (Kd.C_below HR0.out HB.out)|(with_reducible refine Kd.C_alloc ?_ _)|(with_reducible refine Kd.C_drewN ?_ _)|(with_reducible refine Kd.C_drew ?_)));(case side2=>exact HC0.out);rintro e w12 ⟨v119,rfl,ho0,hb⟩;have n0_:=zm (Kd.R_lower ho0 (below_size (by repeat (first|(with_reducible first|exact HB.out|apply zlA|apply zlN|apply zlD)|exact HB.out))));have n1_:=zm (below_step (by repeat (first|(with_reducible first|exact HB.out|apply zlA|apply zlN|apply zlD)|exact HB.out)) hb);clear HB;have HO120:=n0_;have HB:=n1_;clear n0_ n1_;(try clear hb);(try clear hb2);(try clear hk);(try clear hi);(try clear ho0);obtain ⟨Ao13,co13,eo13⟩:=Kd.R_slice HO120.out;subst eo13)))
      go_loopg [33] kj8 (fun kq v33 w'=>∃ (x33_3:Int),v33=.int .i64 x33_3∧Aside0 (bitmap_Run.l0 kq x2_8 a3 t118 t118 (t118.length:Int) x33_3=some (r1,r2))∧Aside0 (kq≤kj8)∧Aside0 (Kd.R k52 52 w' w.heap.size (fun _=>True) (.slice Ao13 t118.length co13) t118)∧Aside0 (Kd.R k52 52 w' w.heap.size (fun _=>True) (.slice Ao13 t118.length co13) t118)∧Aside0 (Below w.heap.size w w'))
      case atStart=>exact ⟨(0),(by first|rfl|(simp;done)|(simp [*];done)),H',⟨Nat.le_refl _⟩,⟨by (with_reducible repeat (first|apply zrA|apply zrN|apply zrD));exact HO120.out⟩,⟨by (with_reducible repeat (first|apply zrA|apply zrN|apply zrD));exact HO120.out⟩,⟨by repeat (first|(with_reducible first|exact HB.out|apply zlA|apply zlN|apply zlD)|exact HB.out)⟩⟩
      case round =>
       clear H'
       try clear c1
       try clear p2
       try clear c5
       try clear c5b0
       try clear c7
       try clear c7b0
       try clear c10
       try clear p2
       obtain ⟨x33_3,rfl,HA,HK3,HO_10,HO_31,HB⟩:=hrel
       cases gk with
       | zero=>exact absurd HA.out (by simp [bitmap_Run.l0])
       | succ k3 =>
        have H:=HA.out
        clear HA
        simp only [bitmap_Run.l0] at H
        by_cases c14:x33_3 < (t118.length:Int)
        ·rw [if_pos c14] at H
         have c14b0:decide (x33_3 < (t118.length:Int))=true:=decide_eq_true c14
         clear c14
         by_cases c15:0≤x33_3
         ·rw [if_pos c15] at H
          have c15b0:decide (0≤x33_3)=true:=decide_eq_true c15
          clear c15
          by_cases c16:x33_3 < (t118.length:Int)
          ·rw [if_pos c16] at H
           have c16b0:decide (x33_3 < (t118.length:Int))=true:=decide_eq_true c16
           clear c16
           obtain ⟨ji17,hji17⟩:∃ j_:Int,(mx ((rd_T52 t118 x33_3).f0) x2_8)=j_:=⟨_,rfl⟩
           replace H:((bitmap_piece_end.f ((rd_T52 t118 x33_3).f0) ((rd_T52 t118 x33_3).f1)).bind fun t123=>(if (wrap64 (t123 - (ji17))) ≥ a3 then (some (ji17,a3)) else (bitmap_Run.l0 k3 x2_8 a3 t118 t118 (t118.length:Int) (wrap64 (x33_3 + 1)))))=some (r1,r2):=by first|(rw [hji17] at H;exact H)|(simp only [hji17] at H ⊢;exact H)
           have hji17_:(if ((rd_T52 t118 x33_3).f0) < x2_8 then x2_8 else ((rd_T52 t118 x33_3).f0))=ji17:=hji17
           replace H:=Option.bind_eq_some_iff.mp H
           obtain ⟨t123,A180,H⟩:=H
           replace H:(if (wrap64 (t123 - (ji17))) ≥ a3 then (some (ji17,a3)) else (bitmap_Run.l0 k3 x2_8 a3 t118 t118 (t118.length:Int) (wrap64 (x33_3 + 1))))=some (r1,r2):=H
           have A18:=zm A180
           clear A180
           by_cases c19:(wrap64 (t123 - (ji17))) ≥ a3
           ·rw [if_pos c19] at H
            have c19b0:decide (a3≤(wrap64 (t123 - (ji17))))=true:=decide_eq_true c19
            clear c19
            simp only [Option.some.injEq,Prod.mk.injEq] at H
            obtain ⟨rfl,rfl⟩:=H
            have p121:0≤(x33_3:Int):=of_decide_eq_true (by first|(with_reducible assumption)|assumption)
            have q121:x33_3 < (t118.length:Int):=of_decide_eq_true (by first|(with_reducible assumption)|assumption)
            obtain ⟨ad121,e121,hx121_0,hx121_1⟩:=at_T52 (Kd.R_reads' HO_31.out).2.2 x33_3 p121 q121
            cases e121
            replace p121:=eq_true p121
            replace q121:=eq_true q121
            go_wp2_with (first|((with_reducible refine gate_dst (N:=12) rfl ?_);refine box_event ?hg (N:=12) ?hd (cs:=#[.int .i64 0,.int .i64 0]) (t:=52) ?hr ?_;(case hd=>rfl);(case hg=>rfl);(case hr=>first|(go_simp;done)|(go_simp;rfl));intro gb122 hg w20 hbox hb;have n0_:=zm (Kd.R_below (Kd.R_elderB (by (with_reducible repeat (first|apply zrA|apply zrN|apply zrD));exact HO_10.out) gb122 (Nat.le_of_eq hg.symm)) hb);have n1_:=zm (Kd.R_below (Kd.R_elderB (by (with_reducible repeat (first|apply zrA|apply zrN|apply zrD));exact HO_31.out) gb122 (Nat.le_of_eq hg.symm)) hb);have n2_:=zm (below_step (by repeat (first|(with_reducible first|exact HB.out|apply zlA|apply zlN|apply zlD)|exact HB.out)) hb);have n3_:=zm (hbox);have n4_:=zm ((by rw [hg];exact (below_size (by repeat (first|(with_reducible first|exact HB.out|apply zlA|apply zlN|apply zlD)|exact HB.out))):w.heap.size≤gb122));have n5_:=zm ((by rw [hg];exact (below_size (by repeat (first|(with_reducible first|exact HB.out|apply zlA|apply zlN|apply zlD)|exact HB.out))):w.heap.size≤gb122));clear HO_10 HO_31 HB;have HO_10:=n0_;have HO_31:=n1_;have HB:=n2_;have BK122:=n3_;have GW122:=n4_;have GE122:=n5_;clear n0_ n1_ n2_ n3_ n4_ n5_;clear hb hbox hg;have hcz21_0:w20.cell? ⟨gb122,0,none⟩=some (.int .i64 0):=(blk_cell BK122.out 0).trans rfl;have hcz21_1:w20.cell? ⟨gb122,1,none⟩=some (.int .i64 0):=(blk_cell BK122.out 1).trans rfl;have hfz21_0:=blk_frozen BK122.out 0;have hfz21_1:=blk_frozen BK122.out 1)|(go_at_call 34;(with_reducible refine (bitmap_piece_end.calls ((rd_T52 t118 x33_3).f0) ((rd_T52 t118 x33_3).f1) t123 _ A18.out).mono ?_);rintro e w22 ⟨rfl,hb⟩;have n0_:=zm (Kd.R_below (by (with_reducible repeat (first|apply zrA|apply zrN|apply zrD));exact (Kd.R_mono (Kd.R_far (p:=⟨gb122,1,none⟩) (Kd.R_far (p:=⟨gb122,0,none⟩) (Kd.R_mono HO_10.out (fun k_ hk=>(⟨hk,hk.2⟩:_∧k_≠gb122))) (fun _ hk=>hk.2) (.int .i64 ((rd_T52 t118 x33_3).f0))) (fun _ hk=>hk.2) (.int .i64 ((rd_T52 t118 x33_3).f1))) (fun _ h_=>h_.1))) hb);have n1_:=zm (Kd.R_below (by (with_reducible repeat (first|apply zrA|apply zrN|apply zrD));exact (Kd.R_mono (Kd.R_far (p:=⟨gb122,1,none⟩) (Kd.R_far (p:=⟨gb122,0,none⟩) (Kd.R_mono HO_31.out (fun k_ hk=>(⟨hk,hk.2⟩:_∧k_≠gb122))) (fun _ hk=>hk.2) (.int .i64 ((rd_T52 t118 x33_3).f0))) (fun _ hk=>hk.2) (.int .i64 ((rd_T52 t118 x33_3).f1))) (fun _ h_=>h_.1))) hb);have n2_:=zm (zbB (g:=gb122) (o:=.cells #[.int .i64 ((rd_T52 t118 x33_3).f0),.int .i64 ((rd_T52 t118 x33_3).f1)] 52 (0,0)) (by (with_reducible repeat (first|refine zbN ?_ _|refine zbD ?_|refine zbA ?_ _));refine blk_put (cs:=#[.int .i64 ((rd_T52 t118 x33_3).f0),.int .i64 0]) ?_ 1 _ rfl;(with_reducible repeat (first|refine zbN ?_ _|refine zbD ?_|refine zbA ?_ _));refine blk_put (cs:=#[.int .i64 0,.int .i64 0]) ?_ 0 _ rfl;(with_reducible repeat (first|refine zbN ?_ _|refine zbD ?_|refine zbA ?_ _));exact BK122.out) hb);have n3_:=zm (below_step (by repeat (first|(with_reducible first|exact HB.out|apply zlA|apply zlN|apply zlD|refine zlS ?_ GE122.out)|exact HB.out)) hb);clear HO_10 HO_31 BK122 HB;have HO_10:=n0_;have HO_31:=n1_;have BK122:=n2_;have HB:=n3_;clear n0_ n1_ n2_ n3_;(try clear hb);(try clear hb2);(try clear hk);(try clear hi)))
            repeat (go_quiet (first|((with_reducible refine gate_dst (N:=12) rfl ?_);refine box_event ?hg (N:=12) ?hd (cs:=#[.int .i64 0,.int .i64 0]) (t:=52) ?hr ?_;(case hd=>rfl);(case hg=>rfl);(case hr=>first|(go_simp;done)|(go_simp;rfl));intro gb122 hg w20 hbox hb;have n0_:=zm (Kd.R_below (Kd.R_elderB (by (with_reducible repeat (first|apply zrA|apply zrN|apply zrD));exact HO_10.out) gb122 (Nat.le_of_eq hg.symm)) hb);have n1_:=zm (Kd.R_below (Kd.R_elderB (by (with_reducible repeat (first|apply zrA|apply zrN|apply zrD));exact HO_31.out) gb122 (Nat.le_of_eq hg.symm)) hb);have n2_:=zm (below_step (by repeat (first|(with_reducible first|exact HB.out|apply zlA|apply zlN|apply zlD)|exact HB.out)) hb);have n3_:=zm (hbox);have n4_:=zm ((by rw [hg];exact (below_size (by repeat (first|(with_reducible first|exact HB.out|apply zlA|apply zlN|apply zlD)|exact HB.out))):w.heap.size≤gb122));have n5_:=zm ((by rw [hg];exact (below_size (by repeat (first|(with_reducible first|exact HB.out|apply zlA|apply zlN|apply zlD)|exact HB.out))):w.heap.size≤gb122));clear HO_10 HO_31 HB;have HO_10:=n0_;have HO_31:=n1_;have HB:=n2_;have BK122:=n3_;have GW122:=n4_;have GE122:=n5_;clear n0_ n1_ n2_ n3_ n4_ n5_;clear hb hbox hg;have hcz21_0:w20.cell? ⟨gb122,0,none⟩=some (.int .i64 0):=(blk_cell BK122.out 0).trans rfl;have hcz21_1:w20.cell? ⟨gb122,1,none⟩=some (.int .i64 0):=(blk_cell BK122.out 1).trans rfl;have hfz21_0:=blk_frozen BK122.out 0;have hfz21_1:=blk_frozen BK122.out 1)|(go_at_call 34;(with_reducible refine (bitmap_piece_end.calls ((rd_T52 t118 x33_3).f0) ((rd_T52 t118 x33_3).f1) t123 _ A18.out).mono ?_);rintro e w22 ⟨rfl,hb⟩;have n0_:=zm (Kd.R_below (by (with_reducible repeat (first|apply zrA|apply zrN|apply zrD));exact (Kd.R_mono (Kd.R_far (p:=⟨gb122,1,none⟩) (Kd.R_far (p:=⟨gb122,0,none⟩) (Kd.R_mono HO_10.out (fun k_ hk=>(⟨hk,hk.2⟩:_∧k_≠gb122))) (fun _ hk=>hk.2) (.int .i64 ((rd_T52 t118 x33_3).f0))) (fun _ hk=>hk.2) (.int .i64 ((rd_T52 t118 x33_3).f1))) (fun _ h_=>h_.1))) hb);have n1_:=zm (Kd.R_below (by (with_reducible repeat (first|apply zrA|apply zrN|apply zrD));exact (Kd.R_mono (Kd.R_far (p:=⟨gb122,1,none⟩) (Kd.R_far (p:=⟨gb122,0,none⟩) (Kd.R_mono HO_31.out (fun k_ hk=>(⟨hk,hk.2⟩:_∧k_≠gb122))) (fun _ hk=>hk.2) (.int .i64 ((rd_T52 t118 x33_3).f0))) (fun _ hk=>hk.2) (.int .i64 ((rd_T52 t118 x33_3).f1))) (fun _ h_=>h_.1))) hb);have n2_:=zm (zbB (g:=gb122) (o:=.cells #[.int .i64 ((rd_T52 t118 x33_3).f0),.int .i64 ((rd_T52 t118 x33_3).f1)] 52 (0,0)) (by (with_reducible repeat (first|refine zbN ?_ _|refine zbD ?_|refine zbA ?_ _));refine blk_put (cs:=#[.int .i64 ((rd_T52 t118 x33_3).f0),.int .i64 0]) ?_ 1 _ rfl;(with_reducible repeat (first|refine zbN ?_ _|refine zbD ?_|refine zbA ?_ _));refine blk_put (cs:=#[.int .i64 0,.int .i64 0]) ?_ 0 _ rfl;(with_reducible repeat (first|refine zbN ?_ _|refine zbD ?_|refine zbA ?_ _));exact BK122.out) hb);have n3_:=zm (below_step (by repeat (first|(with_reducible first|exact HB.out|apply zlA|apply zlN|apply zlD|refine zlS ?_ GE122.out)|exact HB.out)) hb);clear HO_10 HO_31 BK122 HB;have HO_10:=n0_;have HO_31:=n1_;have BK122:=n2_;have HB:=n3_;clear n0_ n1_ n2_ n3_;(try clear hb);(try clear hb2);(try clear hk);(try clear hi)));try go_wp2_with (first|((with_reducible refine gate_dst (N:=12) rfl ?_);refine box_event ?hg (N:=12) ?hd (cs:=#[.int .i64 0,.int .i64 0]) (t:=52) ?hr ?_;(case hd=>rfl);(case hg=>rfl);(case hr=>first|(go_simp;done)|(go_simp;rfl));intro gb122 hg w20 hbox hb;have n0_:=zm (Kd.R_below (Kd.R_elderB (by (with_reducible repeat (first|apply zrA|apply zrN|apply zrD));exact HO_10.out) gb122 (Nat.le_of_eq hg.symm)) hb);have n1_:=zm (Kd.R_below (Kd.R_elderB (by (with_reducible repeat (first|apply zrA|apply zrN|apply zrD));exact HO_31.out) gb122 (Nat.le_of_eq hg.symm)) hb);have n2_:=zm (below_step (by repeat (first|(with_reducible first|exact HB.out|apply zlA|apply zlN|apply zlD)|exact HB.out)) hb);have n3_:=zm (hbox);have n4_:=zm ((by rw [hg];exact (below_size (by repeat (first|(with_reducible first|exact HB.out|apply zlA|apply zlN|apply zlD)|exact HB.out))):w.heap.size≤gb122));have n5_:=zm ((by rw [hg];exact (below_size (by repeat (first|(with_reducible first|exact HB.out|apply zlA|apply zlN|apply zlD)|exact HB.out))):w.heap.size≤gb122));clear HO_10 HO_31 HB;have HO_10:=n0_;have HO_31:=n1_;have HB:=n2_;have BK122:=n3_;have GW122:=n4_;have GE122:=n5_;clear n0_ n1_ n2_ n3_ n4_ n5_;clear hb hbox hg;have hcz21_0:w20.cell? ⟨gb122,0,none⟩=some (.int .i64 0):=(blk_cell BK122.out 0).trans rfl;have hcz21_1:w20.cell? ⟨gb122,1,none⟩=some (.int .i64 0):=(blk_cell BK122.out 1).trans rfl;have hfz21_0:=blk_frozen BK122.out 0;have hfz21_1:=blk_frozen BK122.out 1)|(go_at_call 34;(with_reducible refine (bitmap_piece_end.calls ((rd_T52 t118 x33_3).f0) ((rd_T52 t118 x33_3).f1) t123 _ A18.out).mono ?_);rintro e w22 ⟨rfl,hb⟩;have n0_:=zm (Kd.R_below (by (with_reducible repeat (first|apply zrA|apply zrN|apply zrD));exact (Kd.R_mono (Kd.R_far (p:=⟨gb122,1,none⟩) (Kd.R_far (p:=⟨gb122,0,none⟩) (Kd.R_mono HO_10.out (fun k_ hk=>(⟨hk,hk.2⟩:_∧k_≠gb122))) (fun _ hk=>hk.2) (.int .i64 ((rd_T52 t118 x33_3).f0))) (fun _ hk=>hk.2) (.int .i64 ((rd_T52 t118 x33_3).f1))) (fun _ h_=>h_.1))) hb);have n1_:=zm (Kd.R_below (by (with_reducible repeat (first|apply zrA|apply zrN|apply zrD));exact (Kd.R_mono (Kd.R_far (p:=⟨gb122,1,none⟩) (Kd.R_far (p:=⟨gb122,0,none⟩) (Kd.R_mono HO_31.out (fun k_ hk=>(⟨hk,hk.2⟩:_∧k_≠gb122))) (fun _ hk=>hk.2) (.int .i64 ((rd_T52 t118 x33_3).f0))) (fun _ hk=>hk.2) (.int .i64 ((rd_T52 t118 x33_3).f1))) (fun _ h_=>h_.1))) hb);have n2_:=zm (zbB (g:=gb122) (o:=.cells #[.int .i64 ((rd_T52 t118 x33_3).f0),.int .i64 ((rd_T52 t118 x33_3).f1)] 52 (0,0)) (by (with_reducible repeat (first|refine zbN ?_ _|refine zbD ?_|refine zbA ?_ _));refine blk_put (cs:=#[.int .i64 ((rd_T52 t118 x33_3).f0),.int .i64 0]) ?_ 1 _ rfl;(with_reducible repeat (first|refine zbN ?_ _|refine zbD ?_|refine zbA ?_ _));refine blk_put (cs:=#[.int .i64 0,.int .i64 0]) ?_ 0 _ rfl;(with_reducible repeat (first|refine zbN ?_ _|refine zbD ?_|refine zbA ?_ _));exact BK122.out) hb);have n3_:=zm (below_step (by repeat (first|(with_reducible first|exact HB.out|apply zlA|apply zlN|apply zlD|refine zlS ?_ GE122.out)|exact HB.out)) hb);clear HO_10 HO_31 BK122 HB;have HO_10:=n0_;have HO_31:=n1_;have BK122:=n2_;have HB:=n3_;clear n0_ n1_ n2_ n3_;(try clear hb);(try clear hb2);(try clear hk);(try clear hi))))
            go_ret2
            exact ⟨by first|rfl|(simp [errW_none,errW_some] <;> rfl)|(simp only [← hji17];first|rfl|(simp [errW_none,errW_some] <;> rfl))|(simp [*,errW_none,errW_some] <;> rfl),by repeat (first|(with_reducible first|exact HB.out|apply zlA|apply zlN|apply zlD|refine zlS ?_ GE122.out)|exact HB.out)⟩
           ·rw [if_neg c19] at H
            have c19b0:decide (a3≤(wrap64 (t123 - (ji17))))=false:=decide_eq_false c19
            clear c19
            have H':=zm H
            clear H
            have p121:0≤(x33_3:Int):=of_decide_eq_true (by first|(with_reducible assumption)|assumption)
            have q121:x33_3 < (t118.length:Int):=of_decide_eq_true (by first|(with_reducible assumption)|assumption)
            obtain ⟨ad121,e121,hx121_0,hx121_1⟩:=at_T52 (Kd.R_reads' HO_31.out).2.2 x33_3 p121 q121
            cases e121
            replace p121:=eq_true p121
            replace q121:=eq_true q121
            go_wp2_with (first|((with_reducible refine gate_dst (N:=12) rfl ?_);refine box_event ?hg (N:=12) ?hd (cs:=#[.int .i64 0,.int .i64 0]) (t:=52) ?hr ?_;(case hd=>rfl);(case hg=>rfl);(case hr=>first|(go_simp;done)|(go_simp;rfl));intro gb122 hg w23 hbox hb;have n0_:=zm (Kd.R_below (Kd.R_elderB (by (with_reducible repeat (first|apply zrA|apply zrN|apply zrD));exact HO_10.out) gb122 (Nat.le_of_eq hg.symm)) hb);have n1_:=zm (Kd.R_below (Kd.R_elderB (by (with_reducible repeat (first|apply zrA|apply zrN|apply zrD));exact HO_31.out) gb122 (Nat.le_of_eq hg.symm)) hb);have n2_:=zm (below_step (by repeat (first|(with_reducible first|exact HB.out|apply zlA|apply zlN|apply zlD)|exact HB.out)) hb);have n3_:=zm (hbox);have n4_:=zm ((by rw [hg];exact (below_size (by repeat (first|(with_reducible first|exact HB.out|apply zlA|apply zlN|apply zlD)|exact HB.out))):w.heap.size≤gb122));have n5_:=zm ((by rw [hg];exact (below_size (by repeat (first|(with_reducible first|exact HB.out|apply zlA|apply zlN|apply zlD)|exact HB.out))):w.heap.size≤gb122));clear HO_10 HO_31 HB;have HO_10:=n0_;have HO_31:=n1_;have HB:=n2_;have BK122:=n3_;have GW122:=n4_;have GE122:=n5_;clear n0_ n1_ n2_ n3_ n4_ n5_;clear hb hbox hg;have hcz24_0:w23.cell? ⟨gb122,0,none⟩=some (.int .i64 0):=(blk_cell BK122.out 0).trans rfl;have hcz24_1:w23.cell? ⟨gb122,1,none⟩=some (.int .i64 0):=(blk_cell BK122.out 1).trans rfl;have hfz24_0:=blk_frozen BK122.out 0;have hfz24_1:=blk_frozen BK122.out 1)|(go_at_call 34;(with_reducible refine (bitmap_piece_end.calls ((rd_T52 t118 x33_3).f0) ((rd_T52 t118 x33_3).f1) t123 _ A18.out).mono ?_);rintro e w25 ⟨rfl,hb⟩;have n0_:=zm (Kd.R_below (by (with_reducible repeat (first|apply zrA|apply zrN|apply zrD));exact (Kd.R_mono (Kd.R_far (p:=⟨gb122,1,none⟩) (Kd.R_far (p:=⟨gb122,0,none⟩) (Kd.R_mono HO_10.out (fun k_ hk=>(⟨hk,hk.2⟩:_∧k_≠gb122))) (fun _ hk=>hk.2) (.int .i64 ((rd_T52 t118 x33_3).f0))) (fun _ hk=>hk.2) (.int .i64 ((rd_T52 t118 x33_3).f1))) (fun _ h_=>h_.1))) hb);have n1_:=zm (Kd.R_below (by (with_reducible repeat (first|apply zrA|apply zrN|apply zrD));exact (Kd.R_mono (Kd.R_far (p:=⟨gb122,1,none⟩) (Kd.R_far (p:=⟨gb122,0,none⟩) (Kd.R_mono HO_31.out (fun k_ hk=>(⟨hk,hk.2⟩:_∧k_≠gb122))) (fun _ hk=>hk.2) (.int .i64 ((rd_T52 t118 x33_3).f0))) (fun _ hk=>hk.2) (.int .i64 ((rd_T52 t118 x33_3).f1))) (fun _ h_=>h_.1))) hb);have n2_:=zm (zbB (g:=gb122) (o:=.cells #[.int .i64 ((rd_T52 t118 x33_3).f0),.int .i64 ((rd_T52 t118 x33_3).f1)] 52 (0,0)) (by (with_reducible repeat (first|refine zbN ?_ _|refine zbD ?_|refine zbA ?_ _));refine blk_put (cs:=#[.int .i64 ((rd_T52 t118 x33_3).f0),.int .i64 0]) ?_ 1 _ rfl;(with_reducible repeat (first|refine zbN ?_ _|refine zbD ?_|refine zbA ?_ _));refine blk_put (cs:=#[.int .i64 0,.int .i64 0]) ?_ 0 _ rfl;(with_reducible repeat (first|refine zbN ?_ _|refine zbD ?_|refine zbA ?_ _));exact BK122.out) hb);have n3_:=zm (below_step (by repeat (first|(with_reducible first|exact HB.out|apply zlA|apply zlN|apply zlD|refine zlS ?_ GE122.out)|exact HB.out)) hb);clear HO_10 HO_31 BK122 HB;have HO_10:=n0_;have HO_31:=n1_;have BK122:=n2_;have HB:=n3_;clear n0_ n1_ n2_ n3_;(try clear hb);(try clear hb2);(try clear hk);(try clear hi)))
            repeat (go_quiet (first|((with_reducible refine gate_dst (N:=12) rfl ?_);refine box_event ?hg (N:=12) ?hd (cs:=#[.int .i64 0,.int .i64 0]) (t:=52) ?hr ?_;(case hd=>rfl);(case hg=>rfl);(case hr=>first|(go_simp;done)|(go_simp;rfl));intro gb122 hg w23 hbox hb;have n0_:=zm (Kd.R_below (Kd.R_elderB (by (with_reducible repeat (first|apply zrA|apply zrN|apply zrD));exact HO_10.out) gb122 (Nat.le_of_eq hg.symm)) hb);have n1_:=zm (Kd.R_below (Kd.R_elderB (by (with_reducible repeat (first|apply zrA|apply zrN|apply zrD));exact HO_31.out) gb122 (Nat.le_of_eq hg.symm)) hb);have n2_:=zm (below_step (by repeat (first|(with_reducible first|exact HB.out|apply zlA|apply zlN|apply zlD)|exact HB.out)) hb);have n3_:=zm (hbox);have n4_:=zm ((by rw [hg];exact (below_size (by repeat (first|(with_reducible first|exact HB.out|apply zlA|apply zlN|apply zlD)|exact HB.out))):w.heap.size≤gb122));have n5_:=zm ((by rw [hg];exact (below_size (by repeat (first|(with_reducible first|exact HB.out|apply zlA|apply zlN|apply zlD)|exact HB.out))):w.heap.size≤gb122));clear HO_10 HO_31 HB;have HO_10:=n0_;have HO_31:=n1_;have HB:=n2_;have BK122:=n3_;have GW122:=n4_;have GE122:=n5_;clear n0_ n1_ n2_ n3_ n4_ n5_;clear hb hbox hg;have hcz24_0:w23.cell? ⟨gb122,0,none⟩=some (.int .i64 0):=(blk_cell BK122.out 0).trans rfl;have hcz24_1:w23.cell? ⟨gb122,1,none⟩=some (.int .i64 0):=(blk_cell BK122.out 1).trans rfl;have hfz24_0:=blk_frozen BK122.out 0;have hfz24_1:=blk_frozen BK122.out 1)|(go_at_call 34;(with_reducible refine (bitmap_piece_end.calls ((rd_T52 t118 x33_3).f0) ((rd_T52 t118 x33_3).f1) t123 _ A18.out).mono ?_);rintro e w25 ⟨rfl,hb⟩;have n0_:=zm (Kd.R_below (by (with_reducible repeat (first|apply zrA|apply zrN|apply zrD));exact (Kd.R_mono (Kd.R_far (p:=⟨gb122,1,none⟩) (Kd.R_far (p:=⟨gb122,0,none⟩) (Kd.R_mono HO_10.out (fun k_ hk=>(⟨hk,hk.2⟩:_∧k_≠gb122))) (fun _ hk=>hk.2) (.int .i64 ((rd_T52 t118 x33_3).f0))) (fun _ hk=>hk.2) (.int .i64 ((rd_T52 t118 x33_3).f1))) (fun _ h_=>h_.1))) hb);have n1_:=zm (Kd.R_below (by (with_reducible repeat (first|apply zrA|apply zrN|apply zrD));exact (Kd.R_mono (Kd.R_far (p:=⟨gb122,1,none⟩) (Kd.R_far (p:=⟨gb122,0,none⟩) (Kd.R_mono HO_31.out (fun k_ hk=>(⟨hk,hk.2⟩:_∧k_≠gb122))) (fun _ hk=>hk.2) (.int .i64 ((rd_T52 t118 x33_3).f0))) (fun _ hk=>hk.2) (.int .i64 ((rd_T52 t118 x33_3).f1))) (fun _ h_=>h_.1))) hb);have n2_:=zm (zbB (g:=gb122) (o:=.cells #[.int .i64 ((rd_T52 t118 x33_3).f0),.int .i64 ((rd_T52 t118 x33_3).f1)] 52 (0,0)) (by (with_reducible repeat (first|refine zbN ?_ _|refine zbD ?_|refine zbA ?_ _));refine blk_put (cs:=#[.int .i64 ((rd_T52 t118 x33_3).f0),.int .i64 0]) ?_ 1 _ rfl;(with_reducible repeat (first|refine zbN ?_ _|refine zbD ?_|refine zbA ?_ _));refine blk_put (cs:=#[.int .i64 0,.int .i64 0]) ?_ 0 _ rfl;(with_reducible repeat (first|refine zbN ?_ _|refine zbD ?_|refine zbA ?_ _));exact BK122.out) hb);have n3_:=zm (below_step (by repeat (first|(with_reducible first|exact HB.out|apply zlA|apply zlN|apply zlD|refine zlS ?_ GE122.out)|exact HB.out)) hb);clear HO_10 HO_31 BK122 HB;have HO_10:=n0_;have HO_31:=n1_;have BK122:=n2_;have HB:=n3_;clear n0_ n1_ n2_ n3_;(try clear hb);(try clear hb2);(try clear hk);(try clear hi)));try go_wp2_with (first|((with_reducible refine gate_dst (N:=12) rfl ?_);refine box_event ?hg (N:=12) ?hd (cs:=#[.int .i64 0,.int .i64 0]) (t:=52) ?hr ?_;(case hd=>rfl);(case hg=>rfl);(case hr=>first|(go_simp;done)|(go_simp;rfl));intro gb122 hg w23 hbox hb;have n0_:=zm (Kd.R_below (Kd.R_elderB (by (with_reducible repeat (first|apply zrA|apply zrN|apply zrD));exact HO_10.out) gb122 (Nat.le_of_eq hg.symm)) hb);have n1_:=zm (Kd.R_below (Kd.R_elderB (by (with_reducible repeat (first|apply zrA|apply zrN|apply zrD));exact HO_31.out) gb122 (Nat.le_of_eq hg.symm)) hb);have n2_:=zm (below_step (by repeat (first|(with_reducible first|exact HB.out|apply zlA|apply zlN|apply zlD)|exact HB.out)) hb);have n3_:=zm (hbox);have n4_:=zm ((by rw [hg];exact (below_size (by repeat (first|(with_reducible first|exact HB.out|apply zlA|apply zlN|apply zlD)|exact HB.out))):w.heap.size≤gb122));have n5_:=zm ((by rw [hg];exact (below_size (by repeat (first|(with_reducible first|exact HB.out|apply zlA|apply zlN|apply zlD)|exact HB.out))):w.heap.size≤gb122));clear HO_10 HO_31 HB;have HO_10:=n0_;have HO_31:=n1_;have HB:=n2_;have BK122:=n3_;have GW122:=n4_;have GE122:=n5_;clear n0_ n1_ n2_ n3_ n4_ n5_;clear hb hbox hg;have hcz24_0:w23.cell? ⟨gb122,0,none⟩=some (.int .i64 0):=(blk_cell BK122.out 0).trans rfl;have hcz24_1:w23.cell? ⟨gb122,1,none⟩=some (.int .i64 0):=(blk_cell BK122.out 1).trans rfl;have hfz24_0:=blk_frozen BK122.out 0;have hfz24_1:=blk_frozen BK122.out 1)|(go_at_call 34;(with_reducible refine (bitmap_piece_end.calls ((rd_T52 t118 x33_3).f0) ((rd_T52 t118 x33_3).f1) t123 _ A18.out).mono ?_);rintro e w25 ⟨rfl,hb⟩;have n0_:=zm (Kd.R_below (by (with_reducible repeat (first|apply zrA|apply zrN|apply zrD));exact (Kd.R_mono (Kd.R_far (p:=⟨gb122,1,none⟩) (Kd.R_far (p:=⟨gb122,0,none⟩) (Kd.R_mono HO_10.out (fun k_ hk=>(⟨hk,hk.2⟩:_∧k_≠gb122))) (fun _ hk=>hk.2) (.int .i64 ((rd_T52 t118 x33_3).f0))) (fun _ hk=>hk.2) (.int .i64 ((rd_T52 t118 x33_3).f1))) (fun _ h_=>h_.1))) hb);have n1_:=zm (Kd.R_below (by (with_reducible repeat (first|apply zrA|apply zrN|apply zrD));exact (Kd.R_mono (Kd.R_far (p:=⟨gb122,1,none⟩) (Kd.R_far (p:=⟨gb122,0,none⟩) (Kd.R_mono HO_31.out (fun k_ hk=>(⟨hk,hk.2⟩:_∧k_≠gb122))) (fun _ hk=>hk.2) (.int .i64 ((rd_T52 t118 x33_3).f0))) (fun _ hk=>hk.2) (.int .i64 ((rd_T52 t118 x33_3).f1))) (fun _ h_=>h_.1))) hb);have n2_:=zm (zbB (g:=gb122) (o:=.cells #[.int .i64 ((rd_T52 t118 x33_3).f0),.int .i64 ((rd_T52 t118 x33_3).f1)] 52 (0,0)) (by (with_reducible repeat (first|refine zbN ?_ _|refine zbD ?_|refine zbA ?_ _));refine blk_put (cs:=#[.int .i64 ((rd_T52 t118 x33_3).f0),.int .i64 0]) ?_ 1 _ rfl;(with_reducible repeat (first|refine zbN ?_ _|refine zbD ?_|refine zbA ?_ _));refine blk_put (cs:=#[.int .i64 0,.int .i64 0]) ?_ 0 _ rfl;(with_reducible repeat (first|refine zbN ?_ _|refine zbD ?_|refine zbA ?_ _));exact BK122.out) hb);have n3_:=zm (below_step (by repeat (first|(with_reducible first|exact HB.out|apply zlA|apply zlN|apply zlD|refine zlS ?_ GE122.out)|exact HB.out)) hb);clear HO_10 HO_31 BK122 HB;have HO_10:=n0_;have HO_31:=n1_;have BK122:=n2_;have HB:=n3_;clear n0_ n1_ n2_ n3_;(try clear hb);(try clear hb2);(try clear hk);(try clear hi))))
            go_roundg k3
            case measure=>have:=HJ5.out;have:=HJ8.out;have:=HK3.out;omega
            case rel=>exact ⟨(wrap64 (x33_3 + 1)),(by first|rfl|(simp;done)|(simp [*];done)),H',⟨by have:=HJ5.out;have:=HJ8.out;have:=HK3.out;omega⟩,⟨by (with_reducible repeat (first|apply zrA|apply zrN|apply zrD));exact Kd.R_mono HO_10.out (fun _ hk=>trivial)⟩,⟨by (with_reducible repeat (first|apply zrA|apply zrN|apply zrD));exact Kd.R_mono HO_31.out (fun _ hk=>trivial)⟩,⟨by repeat (first|(with_reducible first|exact HB.out|apply zlA|apply zlN|apply zlD|refine zlS ?_ GE122.out)|exact HB.out)⟩⟩
          ·rw [if_neg c16] at H
           exact absurd H (by simp)
         ·rw [if_neg c15] at H
          exact absurd H (by simp)
        ·rw [if_neg c14] at H
         have c14b0:decide (x33_3 < (t118.length:Int))=false:=decide_eq_false c14
         clear c14
         have H':=zm H
         clear H
         go_wp2_with (first|((with_reducible refine gate_dst (N:=14) rfl ?_);refine box_event ?hg (N:=14) ?hd (cs:=#[.int .i64 0,.int .i64 0]) (t:=52) ?hr ?_;(case hd=>rfl);(case hg=>rfl);(case hr=>first|(go_simp;done)|(go_simp;rfl));intro gb124 hg w26 hbox hb;have n0_:=zm (Kd.R_below (Kd.R_elderB (by (with_reducible repeat (first|apply zrA|apply zrN|apply zrD));exact HO_10.out) gb124 (Nat.le_of_eq hg.symm)) hb);have n1_:=zm (Kd.R_below (Kd.R_elderB (by (with_reducible repeat (first|apply zrA|apply zrN|apply zrD));exact HO_31.out) gb124 (Nat.le_of_eq hg.symm)) hb);have n2_:=zm (below_step (by repeat (first|(with_reducible first|exact HB.out|apply zlA|apply zlN|apply zlD)|exact HB.out)) hb);have n3_:=zm (hbox);have n4_:=zm ((by rw [hg];exact (below_size (by repeat (first|(with_reducible first|exact HB.out|apply zlA|apply zlN|apply zlD)|exact HB.out))):w.heap.size≤gb124));have n5_:=zm ((by rw [hg];exact (below_size (by repeat (first|(with_reducible first|exact HB.out|apply zlA|apply zlN|apply zlD)|exact HB.out))):w.heap.size≤gb124));clear HO_10 HO_31 HB;have HO_10:=n0_;have HO_31:=n1_;have HB:=n2_;have BK124:=n3_;have GW124:=n4_;have GE124:=n5_;clear n0_ n1_ n2_ n3_ n4_ n5_;clear hb hbox hg;have hcz27_0:w26.cell? ⟨gb124,0,none⟩=some (.int .i64 0):=(blk_cell BK124.out 0).trans rfl;have hcz27_1:w26.cell? ⟨gb124,1,none⟩=some (.int .i64 0):=(blk_cell BK124.out 1).trans rfl;have hfz27_0:=blk_frozen BK124.out 0;have hfz27_1:=blk_frozen BK124.out 1))
         repeat (go_quiet (first|((with_reducible refine gate_dst (N:=14) rfl ?_);refine box_event ?hg (N:=14) ?hd (cs:=#[.int .i64 0,.int .i64 0]) (t:=52) ?hr ?_;(case hd=>rfl);(case hg=>rfl);(case hr=>first|(go_simp;done)|(go_simp;rfl));intro gb124 hg w26 hbox hb;have n0_:=zm (Kd.R_below (Kd.R_elderB (by (with_reducible repeat (first|apply zrA|apply zrN|apply zrD));exact HO_10.out) gb124 (Nat.le_of_eq hg.symm)) hb);have n1_:=zm (Kd.R_below (Kd.R_elderB (by (with_reducible repeat (first|apply zrA|apply zrN|apply zrD));exact HO_31.out) gb124 (Nat.le_of_eq hg.symm)) hb);have n2_:=zm (below_step (by repeat (first|(with_reducible first|exact HB.out|apply zlA|apply zlN|apply zlD)|exact HB.out)) hb);have n3_:=zm (hbox);have n4_:=zm ((by rw [hg];exact (below_size (by repeat (first|(with_reducible first|exact HB.out|apply zlA|apply zlN|apply zlD)|exact HB.out))):w.heap.size≤gb124));have n5_:=zm ((by rw [hg];exact (below_size (by repeat (first|(with_reducible first|exact HB.out|apply zlA|apply zlN|apply zlD)|exact HB.out))):w.heap.size≤gb124));clear HO_10 HO_31 HB;have HO_10:=n0_;have HO_31:=n1_;have HB:=n2_;have BK124:=n3_;have GW124:=n4_;have GE124:=n5_;clear n0_ n1_ n2_ n3_ n4_ n5_;clear hb hbox hg;have hcz27_0:w26.cell? ⟨gb124,0,none⟩=some (.int .i64 0):=(blk_cell BK124.out 0).trans rfl;have hcz27_1:w26.cell? ⟨gb124,1,none⟩=some (.int .i64 0):=(blk_cell BK124.out 1).trans rfl;have hfz27_0:=blk_frozen BK124.out 0;have hfz27_1:=blk_frozen BK124.out 1));try go_wp2_with (first|((with_reducible refine gate_dst (N:=14) rfl ?_);refine box_event ?hg (N:=14) ?hd (cs:=#[.int .i64 0,.int .i64 0]) (t:=52) ?hr ?_;(case hd=>rfl);(case hg=>rfl);(case hr=>first|(go_simp;done)|(go_simp;rfl));intro gb124 hg w26 hbox hb;have n0_:=zm (Kd.R_below (Kd.R_elderB (by (with_reducible repeat (first|apply zrA|apply zrN|apply zrD));exact HO_10.out) gb124 (Nat.le_of_eq hg.symm)) hb);have n1_:=zm (Kd.R_below (Kd.R_elderB (by (with_reducible repeat (first|apply zrA|apply zrN|apply zrD));exact HO_31.out) gb124 (Nat.le_of_eq hg.symm)) hb);have n2_:=zm (below_step (by repeat (first|(with_reducible first|exact HB.out|apply zlA|apply zlN|apply zlD)|exact HB.out)) hb);have n3_:=zm (hbox);have n4_:=zm ((by rw [hg];exact (below_size (by repeat (first|(with_reducible first|exact HB.out|apply zlA|apply zlN|apply zlD)|exact HB.out))):w.heap.size≤gb124));have n5_:=zm ((by rw [hg];exact (below_size (by repeat (first|(with_reducible first|exact HB.out|apply zlA|apply zlN|apply zlD)|exact HB.out))):w.heap.size≤gb124));clear HO_10 HO_31 HB;have HO_10:=n0_;have HO_31:=n1_;have HB:=n2_;have BK124:=n3_;have GW124:=n4_;have GE124:=n5_;clear n0_ n1_ n2_ n3_ n4_ n5_;clear hb hbox hg;have hcz27_0:w26.cell? ⟨gb124,0,none⟩=some (.int .i64 0):=(blk_cell BK124.out 0).trans rfl;have hcz27_1:w26.cell? ⟨gb124,1,none⟩=some (.int .i64 0):=(blk_cell BK124.out 1).trans rfl;have hfz27_0:=blk_frozen BK124.out 0;have hfz27_1:=blk_frozen BK124.out 1)))
         go_loopg [53] k3 (fun kq v53 w'=>∃ (x53_4:Int) (x125000_4:Int) (x125001_4:Int),v53=.int .i64 x53_4∧Aside0 (bitmap_Run.l1 kq x2_8 a3 t118 (t118.length:Int) x53_4 x125000_4 x125001_4=some (r1,r2))∧Aside0 (kq≤k3)∧Aside0 (Kd.R k52 52 w' w.heap.size (fun k_=>k_≠gb124) (.slice Ao13 t118.length co13) t118)∧Aside0 (w'.heap[gb124]?=some (.cells #[.int .i64 x125000_4,.int .i64 x125001_4] 52 (0,0)))∧Aside0 (Below w.heap.size w w'))
         case atStart=>exact ⟨(0),(0),(0),(by first|rfl|(simp;done)|(simp [*];done)),H',⟨Nat.le_refl _⟩,⟨by (with_reducible repeat (first|apply zrA|apply zrN|apply zrD));exact Kd.R_mono (Kd.R_far (p:=⟨gb124,1,none⟩) (Kd.R_far (p:=⟨gb124,0,none⟩) (Kd.R_mono HO_10.out (fun k_ hk=>(⟨hk,hk.2⟩:_∧k_≠gb124))) (fun _ hk=>hk.2) (.int .i64 0)) (fun _ hk=>hk.2) (.int .i64 0)) (fun _ hk=>hk.1.2)⟩,⟨by (with_reducible repeat (first|refine zbN ?_ _|refine zbD ?_|refine zbA ?_ _));refine blk_put (cs:=#[.int .i64 0,.int .i64 0]) ?_ 1 _ rfl;(with_reducible repeat (first|refine zbN ?_ _|refine zbD ?_|refine zbA ?_ _));refine blk_put (cs:=#[.int .i64 0,.int .i64 0]) ?_ 0 _ rfl;(with_reducible repeat (first|refine zbN ?_ _|refine zbD ?_|refine zbA ?_ _));exact BK124.out⟩,⟨by repeat (first|(with_reducible first|exact HB.out|apply zlA|apply zlN|apply zlD|refine zlS ?_ GE124.out)|exact HB.out)⟩⟩
         case round =>
          clear H'
          try clear c1
          try clear p1
          try clear q1
          try clear hx1
          try clear p2
          try clear c5
          try clear c5b0
          try clear p6
          try clear c7
          try clear c7b0
          try clear c10
          try clear p12
          try clear q12
          try clear hx12
          try clear c14
          try clear c14b0
          try clear c15
          try clear c15b0
          try clear c16
          try clear c16b0
          try clear c19
          try clear c19b0
          try clear hcz21_0
          try clear hcz21_1
          try clear hcz24_0
          try clear hcz24_1
          try clear hcz27_0
          try clear hcz27_1
          try clear hfz21_0
          try clear hfz21_1
          try clear hfz24_0
          try clear hfz24_1
          try clear hfz27_0
          try clear hfz27_1
          try clear hx121_0
          try clear hx121_1
          try clear p121
          try clear p2
          try clear q121
          obtain ⟨x53_4,x125000_4,x125001_4,rfl,HA,HK4,HO_51,BK124,HB⟩:=hrel
          cases gk with
          | zero=>exact absurd HA.out (by simp [bitmap_Run.l1])
          | succ k4 =>
           have H:=HA.out
           clear HA
           simp only [bitmap_Run.l1] at H
           by_cases c28:x53_4 < (t118.length:Int)
           ·rw [if_pos c28] at H
            have c28b0:decide (x53_4 < (t118.length:Int))=true:=decide_eq_true c28
            clear c28
            by_cases c29:0≤x53_4
            ·rw [if_pos c29] at H
             have c29b0:decide (0≤x53_4)=true:=decide_eq_true c29
             clear c29
             by_cases c30:x53_4 < (t118.length:Int)
             ·rw [if_pos c30] at H
              have c30b0:decide (x53_4 < (t118.length:Int))=true:=decide_eq_true c30
              clear c30
              have HC31:=zm H
              clear H
              have p125:0≤(x53_4:Int):=of_decide_eq_true (by first|(with_reducible assumption)|assumption)
              have q125:x53_4 < (t118.length:Int):=of_decide_eq_true (by first|(with_reducible assumption)|assumption)
              obtain ⟨ad125,e125,hx125_0,hx125_1⟩:=at_T52 (Kd.R_reads' HO_51.out).2.2 x53_4 p125 q125
              cases e125
              replace p125:=eq_true p125
              replace q125:=eq_true q125
              go_upto_region 17 with (first|((with_reducible refine gate_dst (N:=16) rfl ?_);refine box_event ?hg (N:=16) ?hd (cs:=#[.int .i64 0,.int .i64 0]) (t:=52) ?hr ?_;(case hd=>rfl);(case hg=>rfl);(case hr=>first|(go_simp;done)|(go_simp;rfl));intro gb126 hg w32 hbox hb;have n0_:=zm (Kd.R_below (Kd.R_elderB (by (with_reducible repeat (first|apply zrA|apply zrN|apply zrD));exact HO_51.out) gb126 (Nat.le_of_eq hg.symm)) hb);have n1_:=zm (zbB (g:=gb124) (o:=.cells #[.int .i64 x125000_4,.int .i64 x125001_4] 52 (0,0)) (by (with_reducible repeat (first|refine zbN ?_ _|refine zbD ?_|refine zbA ?_ _));exact BK124.out) hb);have n2_:=zm (below_step (by repeat (first|(with_reducible first|exact HB.out|apply zlA|apply zlN|apply zlD|refine zlS ?_ GE124.out)|exact HB.out)) hb);have n3_:=zm (hbox);have n4_:=zm ((by rw [hg];exact (below_size (by repeat (first|(with_reducible first|exact HB.out|apply zlA|apply zlN|apply zlD|refine zlS ?_ GE124.out)|exact HB.out))):w.heap.size≤gb126));have n5_:=zm ((by rw [hg];exact (below_size (by repeat (first|(with_reducible first|exact HB.out|apply zlA|apply zlN|apply zlD|refine zlS ?_ GE124.out)|exact HB.out))):w.heap.size≤gb126));have n6_:=zm ((by rw [hg];exact Nat.ne_of_lt (blk_lt (g:=gb124) (o:=.cells #[.int .i64 x125000_4,.int .i64 x125001_4] 52 (0,0)) (by (with_reducible repeat (first|refine zbN ?_ _|refine zbD ?_|refine zbA ?_ _));exact BK124.out)):gb124≠gb126));have n7_:=zm ((by rw [hg];exact Nat.ne_of_gt (blk_lt (g:=gb124) (o:=.cells #[.int .i64 x125000_4,.int .i64 x125001_4] 52 (0,0)) (by (with_reducible repeat (first|refine zbN ?_ _|refine zbD ?_|refine zbA ?_ _));exact BK124.out)):gb126≠gb124));clear HO_51 BK124 HB;have HO_51:=n0_;have BK124:=n1_;have HB:=n2_;have BK126:=n3_;have GW126:=n4_;have GE126:=n5_;have NB124_126:=n6_;have NB126_124:=n7_;clear n0_ n1_ n2_ n3_ n4_ n5_ n6_ n7_;clear hb hbox hg;have hnb33:=NB126_124.out;have hnc33:=NB124_126.out;have hcz34_0:w32.cell? ⟨gb126,0,none⟩=some (.int .i64 0):=(blk_cell BK126.out 0).trans rfl;have hcz34_1:w32.cell? ⟨gb126,1,none⟩=some (.int .i64 0):=(blk_cell BK126.out 1).trans rfl;have hfz34_0:=blk_frozen BK126.out 0;have hfz34_1:=blk_frozen BK126.out 1))
              repeat (go_quiet (first|((with_reducible refine gate_dst (N:=16) rfl ?_);refine box_event ?hg (N:=16) ?hd (cs:=#[.int .i64 0,.int .i64 0]) (t:=52) ?hr ?_;(case hd=>rfl);(case hg=>rfl);(case hr=>first|(go_simp;done)|(go_simp;rfl));intro gb126 hg w32 hbox hb;have n0_:=zm (Kd.R_below (Kd.R_elderB (by (with_reducible repeat (first|apply zrA|apply zrN|apply zrD));exact HO_51.out) gb126 (Nat.le_of_eq hg.symm)) hb);have n1_:=zm (zbB (g:=gb124) (o:=.cells #[.int .i64 x125000_4,.int .i64 x125001_4] 52 (0,0)) (by (with_reducible repeat (first|refine zbN ?_ _|refine zbD ?_|refine zbA ?_ _));exact BK124.out) hb);have n2_:=zm (below_step (by repeat (first|(with_reducible first|exact HB.out|apply zlA|apply zlN|apply zlD|refine zlS ?_ GE124.out)|exact HB.out)) hb);have n3_:=zm (hbox);have n4_:=zm ((by rw [hg];exact (below_size (by repeat (first|(with_reducible first|exact HB.out|apply zlA|apply zlN|apply zlD|refine zlS ?_ GE124.out)|exact HB.out))):w.heap.size≤gb126));have n5_:=zm ((by rw [hg];exact (below_size (by repeat (first|(with_reducible first|exact HB.out|apply zlA|apply zlN|apply zlD|refine zlS ?_ GE124.out)|exact HB.out))):w.heap.size≤gb126));have n6_:=zm ((by rw [hg];exact Nat.ne_of_lt (blk_lt (g:=gb124) (o:=.cells #[.int .i64 x125000_4,.int .i64 x125001_4] 52 (0,0)) (by (with_reducible repeat (first|refine zbN ?_ _|refine zbD ?_|refine zbA ?_ _));exact BK124.out)):gb124≠gb126));have n7_:=zm ((by rw [hg];exact Nat.ne_of_gt (blk_lt (g:=gb124) (o:=.cells #[.int .i64 x125000_4,.int .i64 x125001_4] 52 (0,0)) (by (with_reducible repeat (first|refine zbN ?_ _|refine zbD ?_|refine zbA ?_ _));exact BK124.out)):gb126≠gb124));clear HO_51 BK124 HB;have HO_51:=n0_;have BK124:=n1_;have HB:=n2_;have BK126:=n3_;have GW126:=n4_;have GE126:=n5_;have NB124_126:=n6_;have NB126_124:=n7_;clear n0_ n1_ n2_ n3_ n4_ n5_ n6_ n7_;clear hb hbox hg;have hnb33:=NB126_124.out;have hnc33:=NB124_126.out;have hcz34_0:w32.cell? ⟨gb126,0,none⟩=some (.int .i64 0):=(blk_cell BK126.out 0).trans rfl;have hcz34_1:w32.cell? ⟨gb126,1,none⟩=some (.int .i64 0):=(blk_cell BK126.out 1).trans rfl;have hfz34_0:=blk_frozen BK126.out 0;have hfz34_1:=blk_frozen BK126.out 1));go_upto_region 17 with (first|((with_reducible refine gate_dst (N:=16) rfl ?_);refine box_event ?hg (N:=16) ?hd (cs:=#[.int .i64 0,.int .i64 0]) (t:=52) ?hr ?_;(case hd=>rfl);(case hg=>rfl);(case hr=>first|(go_simp;done)|(go_simp;rfl));intro gb126 hg w32 hbox hb;have n0_:=zm (Kd.R_below (Kd.R_elderB (by (with_reducible repeat (first|apply zrA|apply zrN|apply zrD));exact HO_51.out) gb126 (Nat.le_of_eq hg.symm)) hb);have n1_:=zm (zbB (g:=gb124) (o:=.cells #[.int .i64 x125000_4,.int .i64 x125001_4] 52 (0,0)) (by (with_reducible repeat (first|refine zbN ?_ _|refine zbD ?_|refine zbA ?_ _));exact BK124.out) hb);have n2_:=zm (below_step (by repeat (first|(with_reducible first|exact HB.out|apply zlA|apply zlN|apply zlD|refine zlS ?_ GE124.out)|exact HB.out)) hb);have n3_:=zm (hbox);have n4_:=zm ((by rw [hg];exact (below_size (by repeat (first|(with_reducible first|exact HB.out|apply zlA|apply zlN|apply zlD|refine zlS ?_ GE124.out)|exact HB.out))):w.heap.size≤gb126));have n5_:=zm ((by rw [hg];exact (below_size (by repeat (first|(with_reducible first|exact HB.out|apply zlA|apply zlN|apply zlD|refine zlS ?_ GE124.out)|exact HB.out))):w.heap.size≤gb126));have n6_:=zm ((by rw [hg];exact Nat.ne_of_lt (blk_lt (g:=gb124) (o:=.cells #[.int .i64 x125000_4,.int .i64 x125001_4] 52 (0,0)) (by (with_reducible repeat (first|refine zbN ?_ _|refine zbD ?_|refine zbA ?_ _));exact BK124.out)):gb124≠gb126));have n7_:=zm ((by rw [hg];exact Nat.ne_of_gt (blk_lt (g:=gb124) (o:=.cells #[.int .i64 x125000_4,.int .i64 x125001_4] 52 (0,0)) (by (with_reducible repeat (first|refine zbN ?_ _|refine zbD ?_|refine zbA ?_ _));exact BK124.out)):gb126≠gb124));clear HO_51 BK124 HB;have HO_51:=n0_;have BK124:=n1_;have HB:=n2_;have BK126:=n3_;have GW126:=n4_;have GE126:=n5_;have NB124_126:=n6_;have NB126_124:=n7_;clear n0_ n1_ n2_ n3_ n4_ n5_ n6_ n7_;clear hb hbox hg;have hnb33:=NB126_124.out;have hnc33:=NB124_126.out;have hcz34_0:w32.cell? ⟨gb126,0,none⟩=some (.int .i64 0):=(blk_cell BK126.out 0).trans rfl;have hcz34_1:w32.cell? ⟨gb126,1,none⟩=some (.int .i64 0):=(blk_cell BK126.out 1).trans rfl;have hfz34_0:=blk_frozen BK126.out 0;have hfz34_1:=blk_frozen BK126.out 1)))
              (try simp only [Act.put,List.setIfInBounds_toArray,List.set_cons_zero,List.set_cons_succ])
              go_cut [66] (fun v66 wc=>∃ (kq:Nat) (x66_30:Bool),v66=.bool x66_30∧Aside0 (bitmap_Run.j4 kq x2_8 a3 t118 (t118.length:Int) x53_4 x66_30 x125000_4 x125001_4 ((rd_T52 t118 x53_4).f0) ((rd_T52 t118 x53_4).f1)=some (r1,r2))∧Aside0 (kq≤k4)∧Aside0 (Kd.R k52 52 wc w.heap.size (fun k_=>k_≠gb124∧k_≠gb126) (.slice (some ad125) t118.length co13) t118)∧Aside0 (wc.heap[gb124]?=some (.cells #[.int .i64 x125000_4,.int .i64 x125001_4] 52 (0,0)))∧Aside0 (wc.heap[gb126]?=some (.cells #[.int .i64 ((rd_T52 t118 x53_4).f0),.int .i64 ((rd_T52 t118 x53_4).f1)] 52 (0,0)))∧Aside0 (Below w.heap.size w wc))
              case first =>
               have H:=HC31.out
               clear HC31
               by_cases c35:((rd_T52 t118 x53_4).f0) < x2_8
               ·rw [if_pos c35] at H
                have c35b0:decide (((rd_T52 t118 x53_4).f0) < x2_8)=true:=decide_eq_true c35
                clear c35
                (first|rw [c35b0]|(simp only [i64_w,i32_w];rw [c35b0])|skip)
                have H':=zm H
                clear H
                have hnb36:=NB126_124.out
                have hnc36:=NB124_126.out
                have hcz37_0:w32.cell? ⟨gb126,0,none⟩=some (.int .i64 0):=(blk_cell BK126.out 0).trans rfl
                have hcz37_1:w32.cell? ⟨gb126,1,none⟩=some (.int .i64 0):=(blk_cell BK126.out 1).trans rfl
                have hfz37_0:=blk_frozen BK126.out 0
                have hfz37_1:=blk_frozen BK126.out 1
                go_wp2
                repeat (go_quiet (fail);try go_wp2)
                go_meet
                case rel=>exact ⟨_,(decide (((rd_T52 t118 x53_4).f1) ≥ a3)),(by first|rfl|(simp;done)|(simp [*];done)),H',⟨by have:=HJ5.out;have:=HJ8.out;have:=HK3.out;have:=HK4.out;first|omega|exact Nat.le_refl _⟩,⟨by (with_reducible repeat (first|apply zrA|apply zrN|apply zrD));exact Kd.R_mono (Kd.R_far (p:=⟨gb126,1,none⟩) (Kd.R_far (p:=⟨gb126,0,none⟩) (Kd.R_mono HO_51.out (fun k_ hk=>(⟨hk,hk.2⟩:_∧k_≠gb126))) (fun _ hk=>hk.2) (.int .i64 ((rd_T52 t118 x53_4).f0))) (fun _ hk=>hk.2) (.int .i64 ((rd_T52 t118 x53_4).f1))) (fun _ hk=>⟨hk.1.1,hk.1.2⟩)⟩,⟨by (with_reducible repeat (first|refine zbN ?_ _|refine zbD ?_|refine zbA ?_ _));refine blk_far ?_ NB124_126.out _;(with_reducible repeat (first|refine zbN ?_ _|refine zbD ?_|refine zbA ?_ _));refine blk_far ?_ NB124_126.out _;(with_reducible repeat (first|refine zbN ?_ _|refine zbD ?_|refine zbA ?_ _));exact BK124.out⟩,⟨by (with_reducible repeat (first|refine zbN ?_ _|refine zbD ?_|refine zbA ?_ _));refine blk_put (cs:=#[.int .i64 ((rd_T52 t118 x53_4).f0),.int .i64 0]) ?_ 1 _ rfl;(with_reducible repeat (first|refine zbN ?_ _|refine zbD ?_|refine zbA ?_ _));refine blk_put (cs:=#[.int .i64 0,.int .i64 0]) ?_ 0 _ rfl;(with_reducible repeat (first|refine zbN ?_ _|refine zbD ?_|refine zbA ?_ _));exact BK126.out⟩,⟨by repeat (first|(with_reducible first|exact HB.out|apply zlA|apply zlN|apply zlD|refine zlS ?_ GE124.out|refine zlS ?_ GE126.out)|exact HB.out)⟩⟩
               ·rw [if_neg c35] at H
                have c35b0:decide (((rd_T52 t118 x53_4).f0) < x2_8)=false:=decide_eq_false c35
                clear c35
                (first|rw [c35b0]|(simp only [i64_w,i32_w];rw [c35b0])|skip)
                have H':=zm H
                clear H
                have hnb38:=NB126_124.out
                have hnc38:=NB124_126.out
                have hcz39_0:w32.cell? ⟨gb126,0,none⟩=some (.int .i64 0):=(blk_cell BK126.out 0).trans rfl
                have hcz39_1:w32.cell? ⟨gb126,1,none⟩=some (.int .i64 0):=(blk_cell BK126.out 1).trans rfl
                have hfz39_0:=blk_frozen BK126.out 0
                have hfz39_1:=blk_frozen BK126.out 1
                go_wp2
                repeat (go_quiet (fail);try go_wp2)
                go_meet
                case rel=>exact ⟨_,(false),(by first|rfl|(simp;done)|(simp [*];done)),H',⟨by have:=HJ5.out;have:=HJ8.out;have:=HK3.out;have:=HK4.out;first|omega|exact Nat.le_refl _⟩,⟨by (with_reducible repeat (first|apply zrA|apply zrN|apply zrD));exact Kd.R_mono (Kd.R_far (p:=⟨gb126,1,none⟩) (Kd.R_far (p:=⟨gb126,0,none⟩) (Kd.R_mono HO_51.out (fun k_ hk=>(⟨hk,hk.2⟩:_∧k_≠gb126))) (fun _ hk=>hk.2) (.int .i64 ((rd_T52 t118 x53_4).f0))) (fun _ hk=>hk.2) (.int .i64 ((rd_T52 t118 x53_4).f1))) (fun _ hk=>⟨hk.1.1,hk.1.2⟩)⟩,⟨by (with_reducible repeat (first|refine zbN ?_ _|refine zbD ?_|refine zbA ?_ _));refine blk_far ?_ NB124_126.out _;(with_reducible repeat (first|refine zbN ?_ _|refine zbD ?_|refine zbA ?_ _));refine blk_far ?_ NB124_126.out _;(with_reducible repeat (first|refine zbN ?_ _|refine zbD ?_|refine zbA ?_ _));exact BK124.out⟩,⟨by (with_reducible repeat (first|refine zbN ?_ _|refine zbD ?_|refine zbA ?_ _));refine blk_put (cs:=#[.int .i64 ((rd_T52 t118 x53_4).f0),.int .i64 0]) ?_ 1 _ rfl;(with_reducible repeat (first|refine zbN ?_ _|refine zbD ?_|refine zbA ?_ _));refine blk_put (cs:=#[.int .i64 0,.int .i64 0]) ?_ 0 _ rfl;(with_reducible repeat (first|refine zbN ?_ _|refine zbD ?_|refine zbA ?_ _));exact BK126.out⟩,⟨by repeat (first|(with_reducible first|exact HB.out|apply zlA|apply zlN|apply zlD|refine zlS ?_ GE124.out|refine zlS ?_ GE126.out)|exact HB.out)⟩⟩
              case rest =>
               clear HC31
               try clear c1
               try clear p1
               try clear q1
               try clear hx1
               try clear c2
               try clear p2
               try clear c3
               try clear c5
               try clear c5b0
               try clear p6
               try clear c7
               try clear c7b0
               try clear c10
               try clear p12
               try clear q12
               try clear hx12
               try clear c14
               try clear c14b0
               try clear c15
               try clear c15b0
               try clear c16
               try clear c16b0
               try clear c19
               try clear c19b0
               try clear c28
               try clear c28b0
               try clear c29
               try clear c29b0
               try clear c30
               try clear c30b0
               try clear c33
               try clear c35
               try clear c35b0
               try clear c36
               try clear c38
               try clear hcz21_0
               try clear hcz21_1
               try clear hcz24_0
               try clear hcz24_1
               try clear hcz27_0
               try clear hcz27_1
               try clear hcz34_0
               try clear hcz34_1
               try clear hcz37_0
               try clear hcz37_1
               try clear hcz39_0
               try clear hcz39_1
               try clear hfz21_0
               try clear hfz21_1
               try clear hfz24_0
               try clear hfz24_1
               try clear hfz27_0
               try clear hfz27_1
               try clear hfz34_0
               try clear hfz34_1
               try clear hfz37_0
               try clear hfz37_1
               try clear hfz39_0
               try clear hfz39_1
               try clear hx121_0
               try clear hx121_1
               try clear hx125_0
               try clear hx125_1
               try clear p1
               try clear p12
               try clear p121
               try clear p125
               try clear p2
               try clear p6
               try clear q1
               try clear q12
               try clear q121
               try clear q125
               obtain ⟨kq,x66_30,rfl,HA,HJ30,HO_51,BK124,BK126,HB⟩:=hcut
               cases kq with
               | zero=>exact absurd HA.out (by simp [bitmap_Run.j4])
               | succ kj30 =>
                have H:=HA.out
                clear HA
                simp only [bitmap_Run.j4] at H
                by_cases c40:x66_30=true
                ·subst c40
                 have H1:(some (((rd_T52 t118 x53_4).f0),a3))=some (r1,r2):=by rw [if_pos rfl] at H;exact H
                 clear H
                 have H:=H1
                 clear H1
                 simp only [Option.some.injEq,Prod.mk.injEq] at H
                 obtain ⟨rfl,rfl⟩:=H
                 have hnb41:=NB126_124.out
                 have hnc41:=NB124_126.out
                 have hcz42_0:wc.cell? ⟨gb126,0,none⟩=some (.int .i64 ((rd_T52 t118 x53_4).f0)):=(blk_cell BK126.out 0).trans rfl
                 have hcz42_1:wc.cell? ⟨gb126,1,none⟩=some (.int .i64 ((rd_T52 t118 x53_4).f1)):=(blk_cell BK126.out 1).trans rfl
                 have hfz42_0:=blk_frozen BK126.out 0
                 have hfz42_1:=blk_frozen BK126.out 1
                 go_wp2
                 repeat (go_quiet (fail);try go_wp2)
                 go_ret2
                 exact ⟨by first|rfl|(simp [errW_none,errW_some] <;> rfl)|(simp [*,errW_none,errW_some] <;> rfl),by repeat (first|(with_reducible first|exact HB.out|apply zlA|apply zlN|apply zlD|refine zlS ?_ GE124.out|refine zlS ?_ GE126.out)|exact HB.out)⟩
                ·replace c40:=Bool.eq_false_iff.mpr c40
                 subst c40
                 have H1:(if ((rd_T52 t118 x53_4).f1) > x125001_4 then (bitmap_Run.l1 kj30 x2_8 a3 t118 (t118.length:Int) (wrap64 (x53_4 + 1)) ((rd_T52 t118 x53_4).f0) ((rd_T52 t118 x53_4).f1)) else (bitmap_Run.l1 kj30 x2_8 a3 t118 (t118.length:Int) (wrap64 (x53_4 + 1)) x125000_4 x125001_4))=some (r1,r2):=by rw [if_neg (show ¬ (false=true) by decide)] at H;exact H
                 clear H
                 have H:=H1
                 clear H1
                 by_cases c43:((rd_T52 t118 x53_4).f1) > x125001_4
                 ·rw [if_pos c43] at H
                  have c43b0:decide (x125001_4 < ((rd_T52 t118 x53_4).f1))=true:=decide_eq_true c43
                  clear c43
                  have H':=zm H
                  clear H
                  have hnb44:=NB126_124.out
                  have hnc44:=NB124_126.out
                  have hcz45_0:wc.cell? ⟨gb126,0,none⟩=some (.int .i64 ((rd_T52 t118 x53_4).f0)):=(blk_cell BK126.out 0).trans rfl
                  have hcz45_1:wc.cell? ⟨gb126,1,none⟩=some (.int .i64 ((rd_T52 t118 x53_4).f1)):=(blk_cell BK126.out 1).trans rfl
                  have hfz45_0:=blk_frozen BK126.out 0
                  have hfz45_1:=blk_frozen BK126.out 1
                  have hcz46_0:wc.cell? ⟨gb124,0,none⟩=some (.int .i64 x125000_4):=(blk_cell BK124.out 0).trans rfl
                  have hcz46_1:wc.cell? ⟨gb124,1,none⟩=some (.int .i64 x125001_4):=(blk_cell BK124.out 1).trans rfl
                  have hfz46_0:=blk_frozen BK124.out 0
                  have hfz46_1:=blk_frozen BK124.out 1
                  go_wp2
                  repeat (go_quiet (fail);try go_wp2)
                  go_roundg kj30
                  case measure=>have:=HJ5.out;have:=HJ8.out;have:=HK3.out;have:=HK4.out;have:=HJ30.out;omega
                  case rel=>exact ⟨(wrap64 (x53_4 + 1)),(((rd_T52 t118 x53_4).f0)),(((rd_T52 t118 x53_4).f1)),(by first|rfl|(simp;done)|(simp [*];done)),H',⟨by have:=HJ5.out;have:=HJ8.out;have:=HK3.out;have:=HK4.out;have:=HJ30.out;omega⟩,⟨by (with_reducible repeat (first|apply zrA|apply zrN|apply zrD));exact Kd.R_mono (Kd.R_far (p:=⟨gb124,1,none⟩) (Kd.R_far (p:=⟨gb124,0,none⟩) (Kd.R_mono HO_51.out (fun k_ hk=>(⟨hk,hk.1⟩:_∧k_≠gb124))) (fun _ hk=>hk.2) (.int .i64 ((rd_T52 t118 x53_4).f0))) (fun _ hk=>hk.2) (.int .i64 ((rd_T52 t118 x53_4).f1))) (fun _ hk=>hk.1.1)⟩,⟨by (with_reducible repeat (first|refine zbN ?_ _|refine zbD ?_|refine zbA ?_ _));refine blk_put (cs:=#[.int .i64 ((rd_T52 t118 x53_4).f0),.int .i64 x125001_4]) ?_ 1 _ rfl;(with_reducible repeat (first|refine zbN ?_ _|refine zbD ?_|refine zbA ?_ _));refine blk_put (cs:=#[.int .i64 x125000_4,.int .i64 x125001_4]) ?_ 0 _ rfl;(with_reducible repeat (first|refine zbN ?_ _|refine zbD ?_|refine zbA ?_ _));exact BK124.out⟩,⟨by repeat (first|(with_reducible first|exact HB.out|apply zlA|apply zlN|apply zlD|refine zlS ?_ GE124.out|refine zlS ?_ GE126.out)|exact HB.out)⟩⟩
                 ·rw [if_neg c43] at H
                  have c43b0:decide (x125001_4 < ((rd_T52 t118 x53_4).f1))=false:=decide_eq_false c43
                  clear c43
                  have H':=zm H
                  clear H
                  have hnb47:=NB126_124.out
                  have hnc47:=NB124_126.out
                  have hcz48_0:wc.cell? ⟨gb126,0,none⟩=some (.int .i64 ((rd_T52 t118 x53_4).f0)):=(blk_cell BK126.out 0).trans rfl
                  have hcz48_1:wc.cell? ⟨gb126,1,none⟩=some (.int .i64 ((rd_T52 t118 x53_4).f1)):=(blk_cell BK126.out 1).trans rfl
                  have hfz48_0:=blk_frozen BK126.out 0
                  have hfz48_1:=blk_frozen BK126.out 1
                  have hcz49_0:wc.cell? ⟨gb124,0,none⟩=some (.int .i64 x125000_4):=(blk_cell BK124.out 0).trans rfl
                  have hcz49_1:wc.cell? ⟨gb124,1,none⟩=some (.int .i64 x125001_4):=(blk_cell BK124.out 1).trans rfl
                  have hfz49_0:=blk_frozen BK124.out 0
                  have hfz49_1:=blk_frozen BK124.out 1
                  go_wp2
                  repeat (go_quiet (fail);try go_wp2)
                  go_roundg kj30
                  case measure=>have:=HJ5.out;have:=HJ8.out;have:=HK3.out;have:=HK4.out;have:=HJ30.out;omega
                  case rel=>exact ⟨(wrap64 (x53_4 + 1)),(x125000_4),(x125001_4),(by first|rfl|(simp;done)|(simp [*];done)),H',⟨by have:=HJ5.out;have:=HJ8.out;have:=HK3.out;have:=HK4.out;have:=HJ30.out;omega⟩,⟨by (with_reducible repeat (first|apply zrA|apply zrN|apply zrD));exact Kd.R_mono HO_51.out (fun _ hk=>hk.1)⟩,⟨by (with_reducible repeat (first|refine zbN ?_ _|refine zbD ?_|refine zbA ?_ _));exact BK124.out⟩,⟨by repeat (first|(with_reducible first|exact HB.out|apply zlA|apply zlN|apply zlD|refine zlS ?_ GE124.out|refine zlS ?_ GE126.out)|exact HB.out)⟩⟩
             ·rw [if_neg c30] at H
              exact absurd H (by simp)
            ·rw [if_neg c29] at H
             exact absurd H (by simp)
           ·rw [if_neg c28] at H
            have c28b0:decide (x53_4 < (t118.length:Int))=false:=decide_eq_false c28
            clear c28
            simp only [Option.some.injEq,Prod.mk.injEq] at H
            obtain ⟨rfl,rfl⟩:=H
            have hcz50_0:wr.cell? ⟨gb124,0,none⟩=some (.int .i64 x125000_4):=(blk_cell BK124.out 0).trans rfl
            have hcz50_1:wr.cell? ⟨gb124,1,none⟩=some (.int .i64 x125001_4):=(blk_cell BK124.out 1).trans rfl
            have hfz50_0:=blk_frozen BK124.out 0
            have hfz50_1:=blk_frozen BK124.out 1
            go_wp2
            repeat (go_quiet (fail);try go_wp2)
            go_ret2
            exact ⟨by first|rfl|(simp [errW_none,errW_some] <;> rfl)|(simp [*,errW_none,errW_some] <;> rfl),by repeat (first|(with_reducible first|exact HB.out|apply zlA|apply zlN|apply zlD|refine zlS ?_ GE124.out)|exact HB.out)⟩
end Go.Proofs.Ytllodfjbenmlpaa.Print
end
section
namespace Go.Proofs.Ytllodfjbenmlpaa.Print
open Go.RowKit Go.Proofs.YtllodfjbenmlpaaW.PrintWords Go.Proofs.YtllodfjbenmlpaaW.PrintLast Go.Proofs.YtllodfjbenmlpaaW.PrintMore
attribute [local go_sem] max2_int min2_int max_two min_two max_three min_three max_four min_four   -- for this text's walks alone
attribute [local go_sem ↓] Go.Proofs.Ytllodfjbenmlpaa.Sem.isSome_setCell
attribute [local go_sem] Go.Instr.field Go.asAgg
set_option linter.unusedVariables false
set_option linter.unusedSimpArgs false
-- RANGEFUNC
section
open Go.Shelf
attribute [local go_sem] Oper.semAt_some
namespace RunsIt
abbrev encs (p:S52):Array Value:=#[.int .i64 p.f0,.int .i64 p.f1]
def Kp (Bs:Nat) (A:Option Addr) (X Y:World):Prop:=Y.heap[Bs]?=X.heap[Bs]?∧∀ ad,A=some ad → Y.heap[ad.block]?=X.heap[ad.block]?
theorem C_same {X Y:World} {A:Option Addr} {l:List S52} (h:Kd.C k52 X A l.length l) (hk:∀ ad,A=some ad → Y.heap[ad.block]?=X.heap[ad.block]?):Kd.C k52 Y A l.length l:=by
 refine ⟨h.1,h.2.1,fun hn=>?_⟩
 obtain ⟨ad,e,hc⟩:=h.2.2 hn
 refine ⟨ad,e,fun j p hj=>?_⟩
 obtain ⟨c,h1,h2,h3⟩:=hc j p hj
 refine ⟨c,h1,by rw [k52_open h2];exact k52_mk Y p,fun i u hu=>?_⟩
 rw [World.cell?_of_block (w:=X) (w':=Y) (a:=ad.add (j * k52.sz + i)) (by rw [add_block];exact hk ad e)]
 exact h3 i u hu
theorem take_rd (l:List S52) (q:Nat) (h:q < l.length):l.take q ++ [rd_T52 l (q:Int)]=l.take (q + 1):=by
 rw [List.take_add_one,rd_T52,Int.toNat_natCast,List.getD_eq_getElem?_getD,List.getElem?_eq_getElem h]
 rfl
set_option maxRecDepth 100000 in
set_option maxHeartbeats 4000000 in
theorem all_stops (l:List S52) (A:Option Addr) (c:Nat) (Bs:Nat) (w:World) (hBs:w.heap[Bs]?=some (.cells #[.slice A l.length c] 49 (0,0))) (hC:Kd.C k52 w A l.length l) (hlc:l.length≤c) (hA:∀ ad,A=some ad → ad.block < w.heap.size)
  (n:Nat) (hn:1≤n) :
  SeqStopsK Fence.wide n Try.prog 36 #[.pointer (some ⟨Bs,0,none⟩)] encs (Kp Bs A) (fun xs=>xs=l) (fun xs=>∃ q,xs=l.take q) l.length w:=fun L J Jx W hW hJ hJx hY h0=>by
 have hlt:Bs < w.heap.size:=(Array.getElem?_eq_some_iff.1 hBs).1
 have hbx:W.heap[Bs]?=some (.cells #[.slice A l.length c] 49 (0,0)):=(hW.block Bs hlt).trans hBs
 have hCW:Kd.C k52 W A l.length l:=C_same hC (fun ad e=>hW.block _ (hA ad e))
 have hc0:W.cell? ⟨Bs,0,none⟩=some (.slice A l.length c):=(blk_cell hbx 0).trans rfl
 have hu49:=Try.underlying49
 have hu52:=Try.underlying52
 have hl63:=hC.2.1
 clear hC hA hBs hW
 refine callsIn_of_wp Try.func36 rfl (by trivial) ?_ rfl
 simp only [Try.ntmps36,List.size_toArray,List.length_cons,List.length_nil,Nat.reduceAdd,Nat.reduceSub,Array.replicate_succ,Array.replicate_zero,List.push_toArray,List.append_toArray,List.nil_append,List.cons_append]
 gi_wp2
 clear hc0
 gi_loopw [7] (fun i wr=>∃ q:Nat,q≤l.length∧i=.int .i64 q∧J (l.take q) wr∧Hid (wr.heap[Bs]?=some (.cells #[.slice A l.length c] 49 (0,0)))∧Hid (Kd.C k52 wr A l.length l))
  (fun i _=>l.length - (intOf i).toNat)
 case atStart=>exact ⟨0,Nat.zero_le _,rfl,h0,hbx,hCW⟩
 case round =>
  obtain ⟨q,hq,rfl,hJs,hbr,hCr⟩:=hrel
  by_cases hlt:q < l.length
  ·obtain ⟨ad,rfl,hx0,hx1⟩:=at_T52 hCr.out (q:Int) (by omega) (by omega)
   rw [Int.toNat_natCast] at hx0 hx1
   obtain ⟨fn,tmps,assign,body,hy,hR⟩:=hY _ (rd_T52 l (q:Int)) (wr.alloc (.cells #[.int .i64 (rd_T52 l (q:Int)).f0,.int .i64 (rd_T52 l (q:Int)).f1] 52 (0,0))) (hJ _ wr _ none hJs (World.grownBy_alloc wr _ none) (fun r e=>by cases e)) (by rw [List.length_take];omega)
   dsimp only [encs] at hy
   gi_wp2
   refine hR.mono ?_
   rintro e w3 (⟨rfl,hJ3,hk3⟩|⟨rfl,hx3⟩)
   ·have hk4:∀ ad_,some ad=some ad_ → w3.heap[ad_.block]?=wr.heap[ad_.block]?:=fun ad_ e=>by
     cases e
     have hb:=World.block_lt_of_cell? wr _ hx0
     rw [add_block] at hb
     exact (hk3.2 _ rfl).trans ((World.grownBy_alloc wr _ none).block _ hb (by simp))
    have hC3:Kd.C k52 w3 (some ad) l.length l:=C_same hCr.out hk4
    have hb3:w3.heap[Bs]?=some (.cells #[.slice (some ad) l.length c] 49 (0,0)):=hk3.1.trans (zbA hbr.out _)
    gi_wp2
    go_roundw
    case rel=>exact ⟨q + 1,by omega,by simp,by rw [← take_rd l q hlt];exact hJ3,hb3,hC3⟩
    case measure=>simp [intOf];omega
   ·gi_wp2
    refine bodyPost_ret (results_none rfl _ _ _) rfl ?_
    exact ⟨⟨_,rfl⟩,.inr ⟨_,⟨q + 1,take_rd l q hlt⟩,hx3⟩⟩
  ·obtain rfl:q=l.length:=by omega
   gi_wp2
   go_end0
   exact ⟨⟨_,rfl⟩,.inl ⟨_,rfl,by rw [List.take_length] at hJs;exact hJs⟩⟩
set_option maxHeartbeats 4000000 in
theorem runs_in (k:Nat) (A0:Option Addr) (c0:Nat) (l0:List Int) (a1:Int) (l:List S52) (w:World) (hr0:Kd.C (Kd.int .u8) w A0 l0.length l0) (hc0:l0.length≤c0) (hp:bitmap_pieces.f k l0 a1=some l) (n:Nat) (hn:1≤n) :
  CallsIn Fence.wide n Try.prog 13 #[.slice A0 l0.length c0,.int .i64 a1] w fun e w'=>∃ (Bs:Nat) (A:Option Addr) (c:Nat),e=.returned (.func (.func 36) #[] #[.pointer (some ⟨Bs,0,none⟩)])∧w'.heap[Bs]?=some (.cells #[.slice A l.length c] 49 (0,0))∧Kd.C k52 w' A l.length l∧l.length≤c∧(∀ ad,A=some ad → w.heap.size≤ad.block∧ad.block < w'.heap.size)∧w.heap.size≤Bs∧Below w.heap.size w w':=by
 have hu49:=Try.underlying49
 refine callsIn_of_wp Try.func13 rfl (by trivial) ?_ rfl
 simp only [Try.ntmps13,List.size_toArray,List.length_cons,List.length_nil,Nat.reduceAdd,Nat.reduceSub,Array.replicate_succ,Array.replicate_zero,List.push_toArray,List.append_toArray,List.nil_append,List.cons_append]
 gi_wp2
 refine ⟨trivial,(callsIn_wide.mpr (bitmap_pieces.calls k A0 c0 l0 a1 l _ hr0 hc0 hp)).mono ?_⟩
 rintro e w2 ⟨v,rfl,hR,hb⟩
 obtain ⟨A,c,rfl,hlc,hC⟩:=Kd.R_reads hR
 have hlt:=Kd.R_lt hR
 simp only []
 gi_wp2
 go_ret
 exact ⟨w2.heap.size,A,c,rfl,World.alloc_heap_new w2 _,Kd.C_alloc hC _,hlc,fun ad e=>⟨Kd.R_base hR _ (by rw [e];rfl),Nat.lt_of_lt_of_le (hlt _ (by rw [e];rfl)) (by rw [World.size_alloc];omega)⟩,hb.size,zlA hb _⟩
def tot:List S52 → Int:=List.foldl (fun s x=>wrap64 (s + x.f1)) 0
theorem tot_snoc (pre:List S52) (x:S52):tot (pre ++ [x])=wrap64 (tot pre + x.f1):=by simp [tot]
set_option maxRecDepth 100000 in
set_option maxHeartbeats 4000000 in
theorem count_in (k:Nat) (A0:Option Addr) (c0:Nat) (l0:List Int) (a1:Int) (l:List S52) (w:World) (hr0:Kd.C (Kd.int .u8) w A0 l0.length l0) (hc0:l0.length≤c0) (hp:bitmap_pieces.f k l0 a1=some l) :
  CallsIn Fence.wide 3 Try.prog 21 #[.slice A0 l0.length c0,.int .i64 a1] w fun e w'=>e=.returned (.int .i64 (tot l))∧Below w.heap.size w w':=by
 refine callsIn_of_wp_marks Try.func21 rfl (by trivial) ?_ rfl
 simp only [Try.ntmps21,List.size_toArray,List.length_cons,List.length_nil,Nat.reduceAdd,Nat.reduceSub,Array.replicate_succ,Array.replicate_zero,List.push_toArray,List.append_toArray,List.nil_append,List.cons_append]
 gi_wp2
 refine ⟨trivial,(runs_in k A0 c0 l0 a1 l _ (Kd.C_alloc hr0 _) hc0 hp _ (by decide)).mono ?_⟩
 rintro e W0 ⟨Bs,A,c,rfl,hBs,hC,hlc,hA,hBg,hb⟩
 simp only []
 have hsz:(w.alloc (.cells #[.int .i64 0] 3 (0,0))).heap.size=w.heap.size + 1:=by simp [World.size_alloc]
 rw [hsz] at hb hA hBg
 have hN0:W0.heap[w.heap.size]?=some (.cells #[.int .i64 0] 3 (0,0)):=by
  rw [hb.block _ (by omega)]
  exact World.alloc_heap_new w _
 have hW0:Below w.heap.size w W0:=(zlA (Below.refl _ _) _).trans (hb.mono (by omega))
 have hS0:w.heap.size + 1≤W0.heap.size:=by have:=hb.size;rw [hsz] at this;exact this
 have hBl:Bs < W0.heap.size:=(Array.getElem?_eq_some_iff.1 hBs).1
 gi_wp2
 refine wpIn_rangeFunc_ownH (F:=Fence.wide) rfl (by decide) (gf:=36) (lb:=#[.pointer (some ⟨Bs,0,none⟩)]) rfl (by trivial) (enters_of Try.func36 (by kernel_rfl) rfl) (all_stops l A c Bs W0 hBs hC hlc (fun ad e=>(hA ad e).2) 2 (by decide))
  (fun h1 h2=>⟨h2.1.trans h1.1,fun ad e=>(h2.2 ad e).trans (h1.2 ad e)⟩) (fun W q o o' hl ho hc _=>⟨World.putObj_heap_other (by omega),fun ad e=>World.putObj_heap_other (by have:=(hA ad e).2;omega)⟩) (Below.refl _ _) (fun _=>rfl)
  (fun pre W=>W.heap[w.heap.size]?=some (.cells #[.int .i64 (tot pre)] 3 (0,0))∧Below w.heap.size w W∧W0.heap.size≤W.heap.size)
  (fun _ _ _=>False)
  (fun s A B row hs hg' hr=>⟨(hg'.block _ (Array.getElem?_eq_some_iff.1 hs.1).1 (fun e=>by have:=(hr _ e.symm).1;omega)).trans hs.1,hs.2.1.grown hg' hs.2.1.size (fun q e=>by have:=(hr q e).1;omega),Nat.le_trans hs.2.2 hg'.size⟩)
  (fun _ _ _ _ _ hs _ _=>hs)
  ⟨by simpa [tot] using hN0,hW0,Nat.le_refl _⟩
  (fun x a' W=>a'={ tmps:=#[.slice A0 l0.length c0,.int .i64 a1,undef,undef,.int .i64 0,.pointer (some ⟨w.heap.size,0,none⟩),undef,.int .i64 x.f1,.slice A0 l0.length c0,.int .i64 a1,.func (.func 36) #[] #[.pointer (some ⟨Bs,0,none⟩)],.int .i64 x.f0,.int .i64 x.f1,undef,undef,undef,undef],defers:=[] })
  (fun x a' s A B row hs hg' hr=>hs)
  ?assign ?body ?done ?stop
 case assign =>
  intro L pre x W K hI hK
  gi_wp2
  exact hK _ _ (KeepsFrom.refl _ _) ⟨rfl,fun _ _=>rfl⟩ hI rfl
 case body =>
  rintro L pre x a' W hL hLr ⟨hNb,hBw,hsz⟩ rfl _
  have hcn:W.cell? ⟨w.heap.size,0,none⟩=some (.int .i64 (tot pre)):=(blk_cell hNb 0).trans rfl
  have hfn:=blk_frozen hNb 0
  gi_wp2
  exact ⟨(KeepsOthers.setCell _ _ _).from _,⟨Below.heap_setCell _ _ _ _ (show Bs≠w.heap.size by omega),fun ad e=>Below.heap_setCell _ _ _ _ (show ad.block≠w.heap.size by have:=(hA ad e).1;omega)⟩,by rw [tot_snoc];exact blk_put hNb 0 _ rfl,zlS hBw (by omega),Nat.le_trans hsz (KeepsOthers.setCell W _ _).size⟩
 case done =>
  rintro D xs W hD rfl ⟨hNb,hBw,hsz⟩ hK
  have hcn:W.cell? ⟨w.heap.size,0,none⟩=some (.int .i64 (tot xs)):=(blk_cell hNb 0).trans rfl
  gi_wp2
  refine ⟨by simp,.inl ⟨_,_,rfl,run_takeDeferred hK,?_⟩⟩
  exact ⟨_,results_tmp rfl _ _ _,rfl,hBw.grown (grownBy_putObj' W D _) hBw.size (fun q e=>by cases e;omega)⟩
 case stop =>
  rintro D c pre W _ _ h _
  exact h.elim
end RunsIt
end
def bitmap_Count.f (k:Nat) (l0:List Int) (a1:Int):Option (Int):=(bitmap_pieces.f k l0 a1).bind fun l=>some (RunsIt.tot l)
theorem bitmap_Count.mono:∀ a0 a1 k,LeO (bitmap_Count.f k a0 a1) (bitmap_Count.f (k + 1) a0 a1):=by
 intro a0 a1 k
 unfold bitmap_Count.f
 exact LeO.bind (bitmap_pieces.mono _ _ k) (fun _=>LeO.refl _)
theorem bitmap_Count.calls (k:Nat) (A0:Option Addr) (c0:Nat) (l0:List Int) (a1:Int) (r:Int) (w:World) (hr0:Kd.C (Kd.int .u8) w A0 l0.length l0) (hc0:l0.length≤c0) (h:bitmap_Count.f k l0 a1=some r) :
  Calls Try.prog 21 #[.slice A0 l0.length c0,.int .i64 a1] w fun e w'=>e=.returned (.int .i64 r)∧Below w.heap.size w w':=by
 unfold bitmap_Count.f at h
 obtain ⟨l,hp,h⟩:=Option.bind_eq_some_iff.mp h
 cases h
 exact callsIn_wide.mp (RunsIt.count_in k A0 c0 l0 a1 l w hr0 hc0 hp)
end Go.Proofs.Ytllodfjbenmlpaa.Print
end
section
namespace Go.Proofs.Ytllodfjbenmlpaa.Print
open Go.RowKit Go.Proofs.YtllodfjbenmlpaaW.PrintWords Go.Proofs.YtllodfjbenmlpaaW.PrintLast Go.Proofs.YtllodfjbenmlpaaW.PrintMore
attribute [local go_sem] max2_int min2_int max_two min_two max_three min_three max_four min_four   -- for this text's walks alone
attribute [local go_sem ↓] Go.Proofs.Ytllodfjbenmlpaa.Sem.isSome_setCell
attribute [local go_sem] Go.Instr.field Go.asAgg
set_option linter.unusedVariables false
set_option linter.unusedSimpArgs false
def bitmap_turn.f (l0:List Int) (a1:Int):Option (List Int):=if 0≤(wrap64 (Int.tdiv a1 8)) then (if (wrap64 (Int.tdiv a1 8)) < (l0.length:Int) then (if 0≤(Int.tmod a1 8) then (some (l0.set ((wrap64 (Int.tdiv a1 8)):Int).toNat (Go.bits .xor .u8 (rd l0 (wrap64 (Int.tdiv a1 8))) (shl .u8 1 (Int.tmod a1 8))))) else (none)) else (none)) else (none)
def bitmap_turn.T0:Bool × List (List Nat × List Nat):=(true,[([],[]),([],[]),([1],[1]),([0,2],[0,2]),([3],[3]),([],[]),([5],[5]),([6],[6]),([4,7],[4,7]),([0,2,0,1,2,3,4,5,6,7,8],[0,2]),([9,8,0,1,2,3,4,5,6,7,8],[8,9])])
def bitmap_turn.B0:List Nat:=[0,0,2,7,15,0,32,96,255,511,1023]
theorem bitmap_turn.tab0:rtab .any (opsOf Try.f38 0)=bitmap_turn.T0:=by kernel_rfl
theorem bitmap_turn.bits0:waitsOk bitmap_turn.T0.2 bitmap_turn.B0=true:=by kernel_rfl
set_option maxHeartbeats 8000000 in
set_option maxRecDepth 100000 in
theorem bitmap_turn.calls (P0_:Nat → Prop) (u9000_:Value) (l0:List Int) (a1:Int) (r:List Int) (w0 w:World) (hB:Below w0.heap.size w0 w) (ho0:Kd.R (Kd.int .u8) 5 w w0.heap.size P0_ u9000_ l0) (h:bitmap_turn.f l0 a1=some r) :
  Calls Try.prog 38 #[u9000_,.int .i64 a1] w fun e w'=>e=.returned (.tuple #[])∧Kd.R (Kd.int .u8) 5 w' w0.heap.size (fun k_=>(P0_ k_∨w.heap.size≤k_)) u9000_ r∧Below w0.heap.size w0 w'∧Kept w w' (fun k_=>P0_ k_):=by
 have HO0:=zm (show Kd.R (Kd.int .u8) 5 w w0.heap.size (fun k_=>(P0_ k_∨w.heap.size≤k_)) u9000_ l0 from Kd.R_mono ho0 (fun k_ hk=>(.inl hk)))
 have HK:=zm (Kept.refl w (fun k_=>P0_ k_))
 have HW0:=zm hB.size
 have HB:=zm hB
 clear hB
 have H:(if 0≤(wrap64 (Int.tdiv a1 8)) then (if (wrap64 (Int.tdiv a1 8)) < (l0.length:Int) then (if 0≤(Int.tmod a1 8) then (some (l0.set ((wrap64 (Int.tdiv a1 8)):Int).toNat (Go.bits .xor .u8 (rd l0 (wrap64 (Int.tdiv a1 8))) (shl .u8 1 (Int.tmod a1 8))))) else (none)) else (none)) else (none))=some r:=h
 clear h
 obtain ⟨ji3,hji3⟩:∃ j_:Int,(wrap64 (Int.tdiv a1 8))=j_:=⟨_,rfl⟩
 replace H:(if 0≤(ji3) then (if (ji3) < (l0.length:Int) then (if 0≤(Int.tmod a1 8) then (some (l0.set ((ji3):Int).toNat (Go.bits .xor .u8 (rd l0 (ji3)) (shl .u8 1 (Int.tmod a1 8))))) else (none)) else (none)) else (none))=some r:=by first|(rw [hji3] at H;exact H)|(simp only [hji3] at H ⊢;exact H)
 have hji3w:(IntKind.i64.wrap (Int.tdiv a1 8))=ji3:=(i64_w _).trans hji3
 by_cases c4:0≤(ji3)
 ·rw [if_pos c4] at H
  have c4b0:decide (0≤(ji3))=true:=decide_eq_true c4
  clear c4
  by_cases c5:(ji3) < (l0.length:Int)
  ·rw [if_pos c5] at H
   have c5b0:decide ((ji3) < (l0.length:Int))=true:=decide_eq_true c5
   clear c5
   obtain ⟨ji6,hji6⟩:∃ j_:Int,(Int.tmod a1 8)=j_:=⟨_,rfl⟩
   replace H:(if 0≤(ji6) then (some (l0.set ((ji3):Int).toNat (Go.bits .xor .u8 (rd l0 (ji3)) (shl .u8 1 (ji6))))) else (none))=some r:=by first|(rw [hji6] at H;exact H)|(simp only [hji6] at H ⊢;exact H)
   by_cases c7:0≤(ji6)
   ·rw [if_pos c7] at H
    have c7b0:=eq_true c7
    have c7b1:decide (0≤(ji6))=true:=decide_eq_true c7
    clear c7
    obtain ⟨ji8,hji8⟩:∃ j_:Int,(shl .u8 1 (ji6))=j_:=⟨_,rfl⟩
    replace H:(some (l0.set ((ji3):Int).toNat (Go.bits .xor .u8 (rd l0 (ji3)) (ji8))))=some r:=by first|(rw [hji8] at H;exact H)|(simp only [hji8] at H ⊢;exact H)
    have hji8_:(IntKind.u8.wrap (1 * 2 ^ min (ji6).toNat 8))=ji8:=hji8
    have hji8z:(ji6)≤8 → (IntKind.u8.wrap (1 * 2 ^ (ji6).toNat))=ji8:=shl_small hji8
    have hji8m:(1 * 2 ^ min (ji6).toNat 8) % 256=ji8:=(IntKind.wrap_u8 _).symm.trans hji8_
    have hji8n:(ji6)≤8 → (1 * 2 ^ (ji6).toNat) % 256=ji8:=fun hle_=>(IntKind.wrap_u8 _).symm.trans (hji8z hle_)
    have hji8u:(IntKind.u8.wrap (2 ^ min (ji6).toNat 8))=ji8:=by have h_:=hji8_;rw [Int.one_mul] at h_;exact h_
    have hji8v:(ji6)≤8 → (IntKind.u8.wrap (2 ^ (ji6).toNat))=ji8:=fun hle_=>by have h_:=hji8z hle_;rw [Int.one_mul] at h_;exact h_
    obtain ⟨y128,hy128⟩:∃ y_:List Int,y_=(l0.set ((ji3):Int).toNat (Go.bits .xor .u8 (rd l0 (ji3)) (ji8))):=⟨_,rfl⟩
    replace H:(some y128)=some r:=by first|(rw [hy128];with_reducible exact H)|(have H2_:=(Option.bind_some _ _).symm.trans H;rw [hy128];with_reducible exact H2_)|(have H2_:=(Option.bind_some _ _).symm.trans H;with_reducible exact H2_)|with_reducible exact H|(rw [hy128];exact H)|exact H
    have Ny128:=zm hy128
    clear hy128
    obtain rfl:=Option.some.inj H
    go_enter Try.func38,Try.ntmps38
    try go_wp2
    have n0_:=zm (zrD HO0.out)
    have n1_:=zm (Kept.drew HK.out)
    have n2_:=zm (zlD HB.out)
    clear HO0 HK HB
    have HO0:=n0_
    have HK:=n1_
    have HB:=n2_
    clear n0_ n1_ n2_
    obtain ⟨Ao11,co11,eo11⟩:=Kd.R_slice HO0.out
    (first|subst eo11|(injection eo11 with f1_ f2_ f3_;have f4_:=f1_.symm;have f5_:=f3_.symm;clear f1_ f2_ f3_;subst f4_;subst f5_))
    have p127:0≤((ji3):Int):=of_decide_eq_true (by first|(with_reducible assumption)|assumption)
    have q127:(ji3) < (l0.length:Int):=of_decide_eq_true (by first|(with_reducible assumption)|assumption)
    obtain ⟨ad127,e127,hx127_0⟩:=Kd.at_int (Kd.R_reads' HO0.out).2.2 (ji3) p127 q127
    cases e127
    replace p127:=eq_true p127
    replace q127:=eq_true q127
    have p9:0≤((ji3):Int):=of_decide_eq_true (by first|(with_reducible assumption)|assumption)
    have q9:((ji3):Int) < ((l0.length:Int):Int):=of_decide_eq_true (by first|(with_reducible assumption)|assumption)
    obtain ⟨go9,co9,eo9,gb9,gl9,cl9,HG9⟩:=Kd.R_form HO0.out (by omega)
    (first|cases eo9|(injection eo9 with ea_ en_ ec_;(first|subst ea_|(injection ea_ with ea_;subst ea_));subst ec_;clear en_))
    have GB9:=zm gb9
    have GG9:=zm HG9
    clear gb9 gl9 HG9
    have HMgo9:=zm (show (P0_ go9∨w.heap.size≤go9) from (HO0.out.1 _ rfl))
    (first|simp only [add_plain] at hx127_0|skip)
    obtain ⟨hx9_0,hf9_0⟩:=Kd.R_celln 0 HO0.out ((ji3):Int) p9 q9
    replace p9:=eq_true p9
    replace q9:=eq_true q9
    have HP12:=Kd.R_putn HO0.out ((ji3):Int) (Go.bits .xor .u8 (rd l0 (ji3)) (ji8))
    rw [← Ny128.out] at HP12
    have HQ12:=zm HP12
    clear HP12
    refine start_ (n:=11) (S:=fun w'=>w'.cell? ⟨go9,((ji3)).toNat,none⟩=some (.int .u8 (rd l0 (ji3)))) (ds:=[10]) #[false,false,false,false,false,false,false,false,false,false,false] (by kernel_rfl) rfl rfl (hx127_0) (fun hHeld=>?_);refine with_tabW bitmap_turn.tab0 bitmap_turn.bits0 (fun HT_ HW_=>?_)
    generalize w.drew=w10 at HO0 HK HB GG9 HQ12 hf9_0 hx127_0 hx9_0 hHeld ⊢
    refine pure_ (i:=0) (N:=some 4) (v:=?_) (a':=?_) #[true,false,false,false,false,false,false,false,false,false,false] rfl rfl (any_of HT_.out (by kernel_rfl)) (fun _ _ _ h=>h) (Or.inl ⟨by rfl,?_⟩) ?_ ?_
    rotate_left
    ·intro w'
     go_simp
     with_reducible rfl
    rotate_left
    ·simp only [Act.put,List.setIfInBounds_toArray,List.set_cons_zero,List.set_cons_succ,i64_w,i32_w]
     rfl
    refine pure_ (i:=1) (N:=some 5) (v:=?_) (a':=?_) #[true,true,false,false,false,false,false,false,false,false,false] rfl rfl (any_of HT_.out (by kernel_rfl)) (fun _ _ _ h=>h) (Or.inl ⟨by rfl,?_⟩) ?_ ?_
    rotate_left
    ·intro w'
     go_simp
     with_reducible rfl
    rotate_left
    ·simp only [Act.put,List.setIfInBounds_toArray,List.set_cons_zero,List.set_cons_succ,i64_w,i32_w]
     rfl
    refine pure_ (i:=2) (N:=some 6) (v:=?_) (a':=?_) #[true,true,true,false,false,false,false,false,false,false,false] rfl rfl (any_of HT_.out (by kernel_rfl)) (fun _ _ _ h=>h) (Or.inl ⟨by rfl,?_⟩) ?_ ?_
    rotate_left
    ·intro w'
     go_simp
     with_reducible rfl
    rotate_left
    ·simp only [Act.put,List.setIfInBounds_toArray,List.set_cons_zero,List.set_cons_succ,i64_w,i32_w]
     rfl
    refine pure_ (i:=3) (N:=some 7) (v:=?_) (a':=?_) #[true,true,true,true,false,false,false,false,false,false,false] rfl rfl (any_of HT_.out (by kernel_rfl)) (fun _ _ _ h=>h) (Or.inl ⟨by rfl,?_⟩) ?_ ?_
    rotate_left
    ·intro w'
     go_simp
     with_reducible rfl
    rotate_left
    ·simp only [Act.put,List.setIfInBounds_toArray,List.set_cons_zero,List.set_cons_succ,i64_w,i32_w]
     rfl
    refine pure_ (i:=5) (N:=some 9) (v:=?_) (a':=?_) #[true,true,true,true,false,true,false,false,false,false,false] rfl rfl (any_of HT_.out (by kernel_rfl)) (fun _ _ _ h=>h) (Or.inl ⟨by rfl,?_⟩) ?_ ?_
    rotate_left
    ·intro w'
     go_simp
     with_reducible rfl
    rotate_left
    ·simp only [Act.put,List.setIfInBounds_toArray,List.set_cons_zero,List.set_cons_succ,i64_w,i32_w]
     rfl
    refine pure_ (i:=6) (N:=some 10) (v:=?_) (a':=?_) #[true,true,true,true,false,true,true,false,false,false,false] rfl rfl (any_of HT_.out (by kernel_rfl)) (fun _ _ _ h=>h) (Or.inl ⟨by rfl,?_⟩) ?_ ?_
    rotate_left
    ·intro w'
     go_simp
     with_reducible rfl
    rotate_left
    ·simp only [Act.put,List.setIfInBounds_toArray,List.set_cons_zero,List.set_cons_succ,i64_w,i32_w]
     rfl
    refine pure_ (i:=7) (N:=some 11) (v:=?_) (a':=?_) #[true,true,true,true,false,true,true,true,false,false,false] rfl rfl (any_of HT_.out (by kernel_rfl)) (fun _ _ _ h=>h) (Or.inl ⟨by rfl,?_⟩) ?_ ?_
    rotate_left
    ·intro w'
     go_simp
     with_reducible rfl
    rotate_left
    ·simp only [Act.put,List.setIfInBounds_toArray,List.set_cons_zero,List.set_cons_succ,i64_w,i32_w]
     rfl
    refine take_ (i:=4) (N:=some 8) (v:=?_) (a':=?_) #[true,true,true,true,true,true,true,true,false,false,false] rfl rfl (take_ofW HT_.out HW_.out (by kernel_rfl)) (fun _ _ _ h=>h) (Or.inl ⟨by rfl,?_⟩) hHeld ?_ ?_
    rotate_left
    ·intro w' s0
     go_simp
     with_reducible rfl
    rotate_left
    ·simp only [Act.put,List.setIfInBounds_toArray,List.set_cons_zero,List.set_cons_succ,i64_w,i32_w]
     rfl
    refine pure_ (i:=8) (N:=some 12) (v:=?_) (a':=?_) #[true,true,true,true,true,true,true,true,true,false,false] rfl rfl (any_of HT_.out (by kernel_rfl)) (fun _ _ _ h=>h) (Or.inl ⟨by rfl,?_⟩) ?_ ?_
    rotate_left
    ·intro w'
     go_simp
     with_reducible rfl
    rotate_left
    ·simp only [Act.put,List.setIfInBounds_toArray,List.set_cons_zero,List.set_cons_succ,i64_w,i32_w]
     rfl
    refine pure_ (i:=9) (N:=some 13) (v:=?_) (a':=?_) #[true,true,true,true,true,true,true,true,true,true,false] rfl rfl (any_of HT_.out (by kernel_rfl)) (fun _ _ _ h=>h) (Or.inl ⟨by rfl,?_⟩) ?_ ?_
    rotate_left
    ·intro w'
     go_simp
     with_reducible rfl
    rotate_left
    ·simp only [Act.put,List.setIfInBounds_toArray,List.set_cons_zero,List.set_cons_succ,i64_w,i32_w]
     rfl
    refine last_ (i:=10) (N:=none) #[true,true,true,true,true,true,true,true,true,true,true] rfl rfl (one_of HT_.out (by kernel_rfl)) (by decide) (fun K hK=>?_)
    refine skip_ (w1:=?_) (by rfl) rfl ?_ ?_
    rotate_left
    ·go_simp
     rfl
    refine hK.out _ _ ?_
    clear hK K
    refine done_ (done_of HT_.out (by kernel_rfl)) ?_
    try go_wp2
    first|go_end0|((try simp only [Exit.inBlock,Exit.then]);refine bodyPost_ret (results_none rfl _ _ _) rfl ?_)
    exact ⟨by first|rfl|(simp [errW_none,errW_some] <;> rfl)|(simp only [← hji3,← hji6,← hji8];first|rfl|(simp [errW_none,errW_some] <;> rfl))|(simp [*,errW_none,errW_some] <;> rfl),by (with_reducible repeat (first|apply zrA|apply zrN|apply zrD));exact HQ12.out,by repeat (first|(with_reducible first|exact HB.out|apply zlA|apply zlN|apply zlD|refine zlS ?_ GB9.out)|exact HB.out),by repeat (first|(with_reducible first|exact HK.out|apply Kept.alloc|apply Kept.drewN|apply Kept.drew|refine Kept.setCell ?_ HMgo9.out _)|exact HK.out)⟩
   ·rw [if_neg c7] at H
    exact absurd H (by simp)
  ·rw [if_neg c5] at H
   exact absurd H (by simp)
 ·rw [if_neg c4] at H
  exact absurd H (by simp)
end Go.Proofs.Ytllodfjbenmlpaa.Print
end
section
namespace Go.Proofs.Ytllodfjbenmlpaa.Print
open Go.RowKit Go.Proofs.YtllodfjbenmlpaaW.PrintWords Go.Proofs.YtllodfjbenmlpaaW.PrintLast Go.Proofs.YtllodfjbenmlpaaW.PrintMore
attribute [local go_sem] max2_int min2_int max_two min_two max_three min_three max_four min_four   -- for this text's walks alone
attribute [local go_sem ↓] Go.Proofs.Ytllodfjbenmlpaa.Sem.isSome_setCell
attribute [local go_sem] Go.Instr.field Go.asAgg
set_option linter.unusedVariables false
set_option linter.unusedSimpArgs false
mutual
def bitmap_turned.j0:Nat → List Int → Int → Int → Bool → Bool → Option (List Int × Int)
 | 0,_,_,_,_,_=>none
 | k + 1,x0,x2,x3,x4,x38=>if x38=true then (some (([]:List Int),121)) else (if ([]:List Int).length + x0.length < 140737488355328 then (bitmap_turned.l0 k x0 x2 x4 (([]:List Int) ++ x0) x3 0) else (none))
def bitmap_turned.l0:Nat → List Int → Int → Bool → List Int → Int → Int → Option (List Int × Int)
 | 0,_,_,_,_,_,_=>none
 | k + 1,x0,x2,x4,x13,x45,x46=>if x46 < x45 then ((bitmap_bit.f x0 (wrap64 (x2 + x46))).bind fun t133=>(if (t133 != x4)=true then (some (([]:List Int),122)) else ((bitmap_turn.f x13 (wrap64 (x2 + x46))).bind fun t134=>(bitmap_turned.l0 k x0 x2 x4 t134 x45 (wrap64 (x46 + 1)))))) else (some (x13,0))
end
def bitmap_turned.f (k:Nat) (l0:List Int) (a1:Int) (a2:Int) (a3:Int) (a4:Bool):Option (List Int × Int):=(bitmap_Check.f k l0 a1).bind fun t129=>(if t129=0 then (if a2 < 0 then (bitmap_turned.j0 k l0 a2 a3 a4 true) else (if a3 < 0 then (bitmap_turned.j0 k l0 a2 a3 a4 true) else (if a2 > a1 then (bitmap_turned.j0 k l0 a2 a3 a4 true) else (bitmap_turned.j0 k l0 a2 a3 a4 (decide (a3 > (wrap64 (a1 - a2)))))))) else (some (([]:List Int),t129)))
theorem bitmap_turned.mono_l:∀ k,(∀ y0 y1 y2 y3 y4,LeO (bitmap_turned.j0 k y0 y1 y2 y3 y4) (bitmap_turned.j0 (k + 1) y0 y1 y2 y3 y4))∧(∀ y0 y1 y2 y3 y4 y5,LeO (bitmap_turned.l0 k y0 y1 y2 y3 y4 y5) (bitmap_turned.l0 (k + 1) y0 y1 y2 y3 y4 y5))
 | 0=>⟨fun _ _ _ _ _ r h=>by simp [bitmap_turned.j0] at h,fun _ _ _ _ _ _ r h=>by simp [bitmap_turned.l0] at h⟩
 | k + 1=>by
  obtain ⟨ih0,ih1⟩:=bitmap_turned.mono_l k
  refine ⟨?_,?_⟩
  ·intro y0 y1 y2 y3 y4
   unfold bitmap_turned.j0
   repeat' first
   | (with_reducible exact ih0 _ _ _ _ _)
   | (with_reducible exact ih1 _ _ _ _ _ _)
   | (with_reducible exact bitmap_Check.mono _ _ _)
   | (with_reducible exact LeO.refl _)
   | (with_reducible exact LeO.none _)
   | (with_reducible refine LeO.ite ?_ ?_)
   | (with_reducible refine LeO.bind ?_ (fun _=>?_))
   | exact ih0 _ _ _ _ _
   | exact ih1 _ _ _ _ _ _
   | exact bitmap_Check.mono _ _ _
   | exact LeO.none _
   | refine LeO.ite ?_ ?_
   | refine LeO.bind ?_ (fun _=>?_)
  ·intro y0 y1 y2 y3 y4 y5
   unfold bitmap_turned.l0
   repeat' first
   | (with_reducible exact ih0 _ _ _ _ _)
   | (with_reducible exact ih1 _ _ _ _ _ _)
   | (with_reducible exact bitmap_Check.mono _ _ _)
   | (with_reducible exact LeO.refl _)
   | (with_reducible exact LeO.none _)
   | (with_reducible refine LeO.ite ?_ ?_)
   | (with_reducible refine LeO.bind ?_ (fun _=>?_))
   | exact ih0 _ _ _ _ _
   | exact ih1 _ _ _ _ _ _
   | exact bitmap_Check.mono _ _ _
   | exact LeO.none _
   | refine LeO.ite ?_ ?_
   | refine LeO.bind ?_ (fun _=>?_)
theorem bitmap_turned.mono:∀ a0 a1 a2 a3 a4 k,LeO (bitmap_turned.f k a0 a1 a2 a3 a4) (bitmap_turned.f (k + 1) a0 a1 a2 a3 a4):=by
 intro a0 a1 a2 a3 a4 k
 obtain ⟨ih0,ih1⟩:=bitmap_turned.mono_l k
 unfold bitmap_turned.f
 repeat' first
   | (with_reducible exact ih0 _ _ _ _ _)
   | (with_reducible exact ih1 _ _ _ _ _ _)
   | (with_reducible exact bitmap_Check.mono _ _ _)
   | (with_reducible exact LeO.refl _)
   | (with_reducible exact LeO.none _)
   | (with_reducible refine LeO.ite ?_ ?_)
   | (with_reducible refine LeO.bind ?_ (fun _=>?_))
   | exact ih0 _ _ _ _ _
   | exact ih1 _ _ _ _ _ _
   | exact bitmap_Check.mono _ _ _
   | exact LeO.none _
   | refine LeO.ite ?_ ?_
   | refine LeO.bind ?_ (fun _=>?_)
set_option maxHeartbeats 8000000 in
set_option maxRecDepth 100000 in
theorem bitmap_turned.calls (k:Nat) (A0:Option Addr) (c0:Nat) (l0:List Int) (a1:Int) (a2:Int) (a3:Int) (a4:Bool) (r1:List Int) (r2:Int) (w:World) (hr0:Kd.C (Kd.int .u8) w A0 l0.length l0) (hc0:l0.length≤c0) (h:bitmap_turned.f k l0 a1 a2 a3 a4=some (r1,r2)) :
  Calls Try.prog 35 #[.slice A0 l0.length c0,.int .i64 a1,.int .i64 a2,.int .i64 a3,.bool a4] w fun e w'=>∃ v0_:Value,e=.returned (.tuple #[v0_,.int .i64 r2])∧Kd.R (Kd.int .u8) 5 w' w.heap.size (fun _=>True) v0_ r1∧Below w.heap.size w w':=by
 have HR0:=zm hr0
 have HC0:=zm hc0
 clear hr0 hc0
 have HB:=zm (Below.refl w.heap.size w)
 have H:((bitmap_Check.f k l0 a1).bind fun t129=>(if t129=0 then (if a2 < 0 then (bitmap_turned.j0 k l0 a2 a3 a4 true) else (if a3 < 0 then (bitmap_turned.j0 k l0 a2 a3 a4 true) else (if a2 > a1 then (bitmap_turned.j0 k l0 a2 a3 a4 true) else (bitmap_turned.j0 k l0 a2 a3 a4 (decide (a3 > (wrap64 (a1 - a2)))))))) else (some (([]:List Int),t129))))=some (r1,r2):=h
 clear h
 replace H:=Option.bind_eq_some_iff.mp H
 obtain ⟨t129,A60,H⟩:=H
 replace H:(if t129=0 then (if a2 < 0 then (bitmap_turned.j0 k l0 a2 a3 a4 true) else (if a3 < 0 then (bitmap_turned.j0 k l0 a2 a3 a4 true) else (if a2 > a1 then (bitmap_turned.j0 k l0 a2 a3 a4 true) else (bitmap_turned.j0 k l0 a2 a3 a4 (decide (a3 > (wrap64 (a1 - a2)))))))) else (some (([]:List Int),t129)))=some (r1,r2):=H
 have A6:=zm A60
 clear A60
 by_cases c7:t129=0
 ·rw [if_pos c7] at H
  have c7b0:(t129 == 0)=true:=beq_iff_eq.mpr c7
  have c7b1:(t129 != 0)=false:=bne_eq_false_iff_eq.mpr c7
  clear c7
  have HC8:=zm H
  clear H
  go_enter Try.func35,Try.ntmps35
  go_upto_region 4 with (first|((with_reducible refine gate_callee (f:=9) rfl ?_);refine goesL_ (some 17) rfl rfl Try.func9 (by kernel_rfl) rfl #[.slice A0 l0.length c0,.int .i64 a1] rfl (by (try simp only [List.map_toArray,List.map_cons,List.map_nil]);first|done|rfl|(simp only [List.length_drop,List.length_take];rfl)) ?_;(with_reducible refine (bitmap_Check.calls k _ _ l0 a1 t129 _ ?side1 ?side2 A6.out).mono ?_);(case side1=>repeat (first|exact HR0.out|(with_reducible refine Kd.C_alloc ?_ _)|(with_reducible refine Kd.C_drewN ?_ _)|(with_reducible refine Kd.C_drew ?_)));(case side2=>exact HC0.out);rintro e w' ⟨rfl,⟨nd,rfl⟩⟩;refine ⟨_,rfl,?_⟩))
  (try simp only [Act.put,List.setIfInBounds_toArray,List.set_cons_zero,List.set_cons_succ])
  go_cut [38] (fun v38 wc=>∃ (kq:Nat) (x38_7:Bool),v38=.bool x38_7∧Aside0 (bitmap_turned.j0 kq l0 a2 a3 a4 x38_7=some (r1,r2))∧Aside0 (kq≤k)∧Aside0 (Below w.heap.size w wc))
  case first =>
   have H:=HC8.out
   clear HC8
   by_cases c9:a2 < 0
   ·rw [if_pos c9] at H
    have c9b0:decide (a2 < 0)=true:=decide_eq_true c9
    clear c9
    (first|rw [c9b0]|(simp only [i64_w,i32_w];rw [c9b0])|skip)
    have H':=zm H
    clear H
    go_wp2
    go_meet
    case rel=>exact ⟨_,(true),(by first|rfl|(simp;done)|(simp [*];done)),H',⟨by first|omega|exact Nat.le_refl _⟩,⟨by repeat (first|(with_reducible first|exact HB.out|apply zlA|apply zlN|apply zlD)|exact HB.out)⟩⟩
   ·rw [if_neg c9] at H
    have c9b0:decide (a2 < 0)=false:=decide_eq_false c9
    clear c9
    (first|rw [c9b0]|(simp only [i64_w,i32_w];rw [c9b0])|skip)
    by_cases c10:a3 < 0
    ·rw [if_pos c10] at H
     have c10b0:decide (a3 < 0)=true:=decide_eq_true c10
     clear c10
     have H':=zm H
     clear H
     go_wp2
     go_meet
     case rel=>exact ⟨_,(true),(by first|rfl|(simp;done)|(simp [*];done)),H',⟨by first|omega|exact Nat.le_refl _⟩,⟨by repeat (first|(with_reducible first|exact HB.out|apply zlA|apply zlN|apply zlD)|exact HB.out)⟩⟩
    ·rw [if_neg c10] at H
     have c10b0:decide (a3 < 0)=false:=decide_eq_false c10
     clear c10
     by_cases c11:a2 > a1
     ·rw [if_pos c11] at H
      have c11b0:decide (a1 < a2)=true:=decide_eq_true c11
      clear c11
      have H':=zm H
      clear H
      go_wp2
      go_meet
      case rel=>exact ⟨_,(true),(by first|rfl|(simp;done)|(simp [*];done)),H',⟨by first|omega|exact Nat.le_refl _⟩,⟨by repeat (first|(with_reducible first|exact HB.out|apply zlA|apply zlN|apply zlD)|exact HB.out)⟩⟩
     ·rw [if_neg c11] at H
      have c11b0:decide (a1 < a2)=false:=decide_eq_false c11
      clear c11
      have H':=zm H
      clear H
      go_wp2
      go_meet
      case rel=>exact ⟨_,(decide (a3 > (wrap64 (a1 - a2)))),(by first|rfl|(simp;done)|(simp [*];done)),H',⟨by first|omega|exact Nat.le_refl _⟩,⟨by repeat (first|(with_reducible first|exact HB.out|apply zlA|apply zlN|apply zlD)|exact HB.out)⟩⟩
  case rest =>
   clear HC8
   try clear c1
   try clear p2
   try clear c3
   try clear p6
   try clear c7
   try clear c7b0
   try clear c7b1
   try clear c9
   try clear c9b0
   try clear c10
   try clear c10b0
   try clear c11
   try clear c11b0
   obtain ⟨kq,x38_7,rfl,HA,HJ7,HB⟩:=hcut
   cases kq with
   | zero=>exact absurd HA.out (by simp [bitmap_turned.j0])
   | succ kj7 =>
    have H:=HA.out
    clear HA
    simp only [bitmap_turned.j0] at H
    by_cases c12:x38_7=true
    ·subst c12
     have H1:(some (([]:List Int),121))=some (r1,r2):=by rw [if_pos rfl] at H;exact H
     clear H
     have H:=H1
     clear H1
     simp only [Option.some.injEq,Prod.mk.injEq] at H
     obtain ⟨rfl,rfl⟩:=H
     go_wp2
     go_ret2
     exact ⟨_,by first|rfl|(simp [errW_none,errW_some] <;> rfl)|(simp [*,errW_none,errW_some] <;> rfl),by first|exact Kd.R_nil _ _ _ _ _|exact Kd.N_nil _ _ _ _ _|exact Kd.V_nil _ _ _ _ _|exact Kd.Q_nil _ _ _ _ _|exact Kd.S_nil _ _ _ _ _,by repeat (first|(with_reducible first|exact HB.out|apply zlA|apply zlN|apply zlD)|exact HB.out)⟩
    ·replace c12:=Bool.eq_false_iff.mpr c12
     subst c12
     have H1:(if ([]:List Int).length + l0.length < 140737488355328 then (bitmap_turned.l0 kj7 l0 a2 a4 (([]:List Int) ++ l0) a3 0) else (none))=some (r1,r2):=by rw [if_neg (show ¬ (false=true) by decide)] at H;exact H
     clear H
     have H:=H1
     clear H1
     by_cases c13:([]:List Int).length + l0.length < 140737488355328
     ·rw [if_pos c13] at H
      have LMc13:=zm c13
      clear c13
      obtain ⟨y130,hy130⟩:∃ y_:List Int,y_=(([]:List Int) ++ l0):=⟨_,rfl⟩
      replace H:(bitmap_turned.l0 kj7 l0 a2 a4 y130 a3 0)=some (r1,r2):=by first|(rw [hy130];with_reducible exact H)|(have H2_:=(Option.bind_some _ _).symm.trans H;rw [hy130];with_reducible exact H2_)|(have H2_:=(Option.bind_some _ _).symm.trans H;with_reducible exact H2_)|with_reducible exact H|(rw [hy130];exact H)|exact H
      have Ny130:=zm hy130
      clear hy130
      have H':=zm H
      clear H
      go_wp2_with (first|((with_reducible refine gate_dst (N:=41) rfl ?_);refine Kd.R_make (Kd.int .u8) (w0:=w) w.heap.size 5 rfl (N:=41) rfl 22 _ _ rfl (l0.length:Int) rfl rfl Try.underlying22 (.int .u8 0) 1 info5 rfl (by decide) (by omega) 0 (ok:=fun _=>True) (okp:=fun _=>True) rfl (fun _ hk=>hk) trivial (by omega) (by (have:=LMc13.out);simp only [List.length_nil] at this;omega) ((by repeat (first|(with_reducible first|exact HB.out|apply zlA|apply zlN|apply zlD)|exact HB.out))) ((below_size (by repeat (first|(with_reducible first|exact HB.out|apply zlA|apply zlN|apply zlD)|exact HB.out)))) ?_;intro v131 w_mk ho_mk hb hg_ hnew_;clear hg_ hnew_;have HMK:=zm ho_mk;have n0_:=zm (hb);clear HB;have HB:=n0_;clear n0_;clear hb ho_mk)|((with_reducible refine gate_builtin (b:=.copy) (xs:=#[.tmp 42,.tmp 43]) rfl ?_);refine Go.Proofs.Ytllodfjbenmlpaa.Cpy.R_copy (0:Int) (w0:=w) w.heap.size rfl (.tmp 42) (.tmp 43) 22 5 rfl Try.underlying22 (.int .u8 0) 1 info5 v131 _ l0 rfl _ _ rfl HMK.out ?aR (by simp) ((by repeat (first|(with_reducible first|exact HB.out|apply zlA|apply zlN|apply zlD)|exact HB.out))) ?_;(case aR=>repeat (first|exact (Kd.C_below HR0.out HB.out)|(with_reducible refine Kd.C_alloc ?_ _)|(with_reducible refine Kd.C_drewN ?_ _)|(with_reducible refine Kd.C_drew ?_)));intro w14 ho hb hg;rw [← List.nil_append l0,← Ny130.out] at ho;clear HMK;have n0_:=zm (hb);have n1_:=zm (ho);clear HB;have HB:=n0_;have HO132:=n1_;clear n0_ n1_;clear ho hb hg))
      go_loopg [46] kj7 (fun kq v46 w'=>∃ (x13_2:List Int) (x46_2:Int),v46=.int .i64 x46_2∧Aside0 (bitmap_turned.l0 kq l0 a2 a4 x13_2 a3 x46_2=some (r1,r2))∧Aside0 (kq≤kj7)∧Aside0 (Kd.R (Kd.int .u8) 5 w' w.heap.size (fun _=>True) v131 x13_2)∧Aside0 (Below w.heap.size w w'))
      case atStart=>exact ⟨(y130),(0),(by first|rfl|(simp;done)|(simp [*];done)),H',⟨Nat.le_refl _⟩,⟨by (with_reducible repeat (first|apply zrA|apply zrN|apply zrD));exact HO132.out⟩,⟨by repeat (first|(with_reducible first|exact HB.out|apply zlA|apply zlN|apply zlD)|exact HB.out)⟩⟩
      case round =>
       clear H'
       try clear c1
       try clear p2
       try clear c3
       try clear p6
       try clear c7
       try clear c7b0
       try clear c7b1
       try clear c9
       try clear c9b0
       try clear c10
       try clear c10b0
       try clear c11
       try clear c11b0
       try clear c12
       try clear c13
       try clear p2
       try clear p6
       obtain ⟨x13_2,x46_2,rfl,HA,HK2,HO_13,HB⟩:=hrel
       cases gk with
       | zero=>exact absurd HA.out (by simp [bitmap_turned.l0])
       | succ k2 =>
        have H:=HA.out
        clear HA
        simp only [bitmap_turned.l0] at H
        by_cases c15:x46_2 < a3
        ·rw [if_pos c15] at H
         have c15b0:decide (x46_2 < a3)=true:=decide_eq_true c15
         clear c15
         replace H:=Option.bind_eq_some_iff.mp H
         obtain ⟨t133,A160,H⟩:=H
         replace H:(if (t133 != a4)=true then (some (([]:List Int),122)) else ((bitmap_turn.f x13_2 (wrap64 (a2 + x46_2))).bind fun t134=>(bitmap_turned.l0 k2 l0 a2 a4 t134 a3 (wrap64 (x46_2 + 1)))))=some (r1,r2):=H
         have A16:=zm A160
         clear A160
         by_cases c17:(t133 != a4)=true
         ·rw [if_pos c17] at H
          have c17b0:(t133 != a4)=true:=c17
          (try (have c17b1:decide (t133=a4)=false:=by simpa using c17))
          (try (have c17b2:(t133 == a4)=false:=by simpa using c17))
          (try (have c17b3:¬ (t133=a4):=by simpa using c17))
          clear c17
          simp only [Option.some.injEq,Prod.mk.injEq] at H
          obtain ⟨rfl,rfl⟩:=H
          go_wp2_with (first|((with_reducible refine gate_callee (f:=31) rfl ?_);refine goesL_ (some 53) rfl rfl Try.func31 (by kernel_rfl) rfl #[.slice A0 l0.length c0,.int .i64 (wrap64 (a2 + x46_2))] rfl (by (try simp only [List.map_toArray,List.map_cons,List.map_nil]);first|done|rfl|(simp only [List.length_drop,List.length_take];rfl)) ?_;(with_reducible refine (bitmap_bit.calls _ _ l0 (wrap64 (a2 + x46_2)) t133 _ ?side1 ?side2 A16.out).mono ?_);(case side1=>repeat (first|exact (Kd.C_below HR0.out HB.out)|(with_reducible refine Kd.C_alloc ?_ _)|(with_reducible refine Kd.C_drewN ?_ _)|(with_reducible refine Kd.C_drew ?_)));(case side2=>exact HC0.out);rintro e w' ⟨rfl,⟨nd,rfl⟩⟩;refine ⟨_,rfl,?_⟩))
          go_ret2
          exact ⟨_,by first|rfl|(simp [errW_none,errW_some] <;> rfl)|(simp [*,errW_none,errW_some] <;> rfl),by first|exact Kd.R_nil _ _ _ _ _|exact Kd.N_nil _ _ _ _ _|exact Kd.V_nil _ _ _ _ _|exact Kd.Q_nil _ _ _ _ _|exact Kd.S_nil _ _ _ _ _,by repeat (first|(with_reducible first|exact HB.out|apply zlA|apply zlN|apply zlD)|exact HB.out)⟩
         ·rw [if_neg c17] at H
          have c17b0:(t133 != a4)=false:=by simpa using c17
          (try (have c17b1:decide (t133=a4)=true:=by simpa using c17))
          (try (have c17b2:(t133 == a4)=true:=by simpa using c17))
          clear c17
          replace H:=Option.bind_eq_some_iff.mp H
          obtain ⟨t134,A180,H⟩:=H
          replace H:(bitmap_turned.l0 k2 l0 a2 a4 t134 a3 (wrap64 (x46_2 + 1)))=some (r1,r2):=H
          have A18:=zm A180
          clear A180
          have H':=zm H
          clear H
          go_wp2_with (first|((with_reducible refine gate_callee (f:=31) rfl ?_);refine goesL_ (some 53) rfl rfl Try.func31 (by kernel_rfl) rfl #[.slice A0 l0.length c0,.int .i64 (wrap64 (a2 + x46_2))] rfl (by (try simp only [List.map_toArray,List.map_cons,List.map_nil]);first|done|rfl|(simp only [List.length_drop,List.length_take];rfl)) ?_;(with_reducible refine (bitmap_bit.calls _ _ l0 (wrap64 (a2 + x46_2)) t133 _ ?side1 ?side2 A16.out).mono ?_);(case side1=>repeat (first|exact (Kd.C_below HR0.out HB.out)|(with_reducible refine Kd.C_alloc ?_ _)|(with_reducible refine Kd.C_drewN ?_ _)|(with_reducible refine Kd.C_drew ?_)));(case side2=>exact HC0.out);rintro e w' ⟨rfl,⟨nd,rfl⟩⟩;refine ⟨_,rfl,?_⟩;obtain ⟨Ao19,co19,eo19⟩:=Kd.R_slice HO_13.out;subst eo19)|((with_reducible refine gate_callee (f:=38) rfl ?_);refine goesL_ (some 60) rfl rfl Try.func38 (by kernel_rfl) rfl #[.slice Ao19 x13_2.length co19,.int .i64 (wrap64 (a2 + x46_2))] rfl (by (try simp only [List.map_toArray,List.map_cons,List.map_nil]);first|done|rfl|(simp only [List.length_drop,List.length_take];rfl)) ?_;(with_reducible refine (bitmap_turn.calls (fun k_=>some k_=(.slice Ao19 x13_2.length co19:Value).ownBlock) (.slice Ao19 x13_2.length co19) x13_2 (wrap64 (a2 + x46_2)) t134 w _ ?side1 ?side2 A18.out).mono ?_);(case side1=>repeat (first|(with_reducible first|exact HB.out|apply zlA|apply zlN|apply zlD)|exact HB.out));(case side2=>exact Kd.R_tight rfl HO_13.out);rintro e w20 ⟨rfl,hy0,hb,hkp⟩;refine ⟨_,rfl,?_⟩;have n0_:=zm (Kd.R_reok rfl hy0 (fun k_ e_=>HO_13.out.1 k_ e_));have n1_:=zm (hb);clear HO_13 HB;have HO_13:=n0_;have HB:=n1_;clear n0_ n1_;(try clear hb);(try clear hkp);(try clear hy0)))
          go_roundg k2
          case measure=>have:=HJ7.out;have:=HK2.out;omega
          case rel=>exact ⟨(t134),(wrap64 (x46_2 + 1)),(by first|rfl|(simp;done)|(simp [*];done)),H',⟨by have:=HJ7.out;have:=HK2.out;omega⟩,⟨by (with_reducible repeat (first|apply zrA|apply zrN|apply zrD));exact HO_13.out⟩,⟨by repeat (first|(with_reducible first|exact HB.out|apply zlA|apply zlN|apply zlD)|exact HB.out)⟩⟩
        ·rw [if_neg c15] at H
         have c15b0:decide (x46_2 < a3)=false:=decide_eq_false c15
         clear c15
         simp only [Option.some.injEq,Prod.mk.injEq] at H
         obtain ⟨rfl,rfl⟩:=H
         go_wp2
         go_ret2
         exact ⟨_,by first|rfl|(simp [errW_none,errW_some] <;> rfl)|(simp [*,errW_none,errW_some] <;> rfl),by (with_reducible repeat (first|apply zrA|apply zrN|apply zrD));exact HO_13.out,by repeat (first|(with_reducible first|exact HB.out|apply zlA|apply zlN|apply zlD)|exact HB.out)⟩
     ·rw [if_neg c13] at H
      exact absurd H (by simp)
 ·rw [if_neg c7] at H
  have c7b0:(t129 == 0)=false:=beq_eq_false_iff_ne.mpr c7
  have c7b1:(t129 != 0)=true:=bne_iff_ne.mpr c7
  simp only [Option.some.injEq,Prod.mk.injEq] at H
  obtain ⟨rfl,rfl⟩:=H
  go_enter Try.func35,Try.ntmps35
  go_wp2_with (first|((with_reducible refine gate_callee (f:=9) rfl ?_);refine goesL_ (some 17) rfl rfl Try.func9 (by kernel_rfl) rfl #[.slice A0 l0.length c0,.int .i64 a1] rfl (by (try simp only [List.map_toArray,List.map_cons,List.map_nil]);first|done|rfl|(simp only [List.length_drop,List.length_take];rfl)) ?_;(with_reducible refine (bitmap_Check.calls k _ _ l0 a1 t129 _ ?side1 ?side2 A6.out).mono ?_);(case side1=>repeat (first|exact HR0.out|(with_reducible refine Kd.C_alloc ?_ _)|(with_reducible refine Kd.C_drewN ?_ _)|(with_reducible refine Kd.C_drew ?_)));(case side2=>exact HC0.out);rintro e w' ⟨rfl,⟨nd,rfl⟩⟩;refine ⟨_,rfl,?_⟩))
  go_ret2
  exact ⟨_,by first|rfl|(simp [errW_none,errW_some] <;> rfl)|(simp [*,errW_none,errW_some] <;> rfl),by first|exact Kd.R_nil _ _ _ _ _|exact Kd.N_nil _ _ _ _ _|exact Kd.V_nil _ _ _ _ _|exact Kd.Q_nil _ _ _ _ _|exact Kd.S_nil _ _ _ _ _,by repeat (first|(with_reducible first|exact HB.out|apply zlA|apply zlN|apply zlD)|exact HB.out)⟩
def bitmap_Set.f (k:Nat) (l0:List Int) (a1:Int) (a2:Int) (a3:Int):Option (List Int × Int):=(bitmap_turned.f k l0 a1 a2 a3 false).bind fun bt135=>(some (bt135.1,bt135.2))
theorem bitmap_Set.mono:∀ a0 a1 a2 a3 k,LeO (bitmap_Set.f k a0 a1 a2 a3) (bitmap_Set.f (k + 1) a0 a1 a2 a3):=by
 intro a0 a1 a2 a3 k
 unfold bitmap_Set.f
 repeat' first
   | (with_reducible exact bitmap_turned.mono _ _ _ _ _ _)
   | (with_reducible exact LeO.refl _)
   | (with_reducible exact LeO.none _)
   | (with_reducible refine LeO.ite ?_ ?_)
   | (with_reducible refine LeO.bind ?_ (fun _=>?_))
   | exact bitmap_turned.mono _ _ _ _ _ _
   | exact LeO.none _
   | refine LeO.ite ?_ ?_
   | refine LeO.bind ?_ (fun _=>?_)
set_option maxHeartbeats 8000000 in
set_option maxRecDepth 100000 in
theorem bitmap_Set.calls (k:Nat) (A0:Option Addr) (c0:Nat) (l0:List Int) (a1:Int) (a2:Int) (a3:Int) (r1:List Int) (r2:Int) (w:World) (hr0:Kd.C (Kd.int .u8) w A0 l0.length l0) (hc0:l0.length≤c0) (h:bitmap_Set.f k l0 a1 a2 a3=some (r1,r2)) :
  Calls Try.prog 11 #[.slice A0 l0.length c0,.int .i64 a1,.int .i64 a2,.int .i64 a3] w fun e w'=>∃ v0_:Value,e=.returned (.tuple #[v0_,.int .i64 r2])∧Kd.R (Kd.int .u8) 5 w' w.heap.size (fun _=>True) v0_ r1∧Below w.heap.size w w':=by
 have HR0:=zm hr0
 have HC0:=zm hc0
 clear hr0 hc0
 have HB:=zm (Below.refl w.heap.size w)
 have H:((bitmap_turned.f k l0 a1 a2 a3 false).bind fun bt135=>(some (bt135.1,bt135.2)))=some (r1,r2):=h
 clear h
 replace H:=Option.bind_eq_some_iff.mp H
 obtain ⟨⟨t135,t136⟩,A50,H⟩:=H
 replace H:(some (t135,t136))=some (r1,r2):=H
 have A5:=zm A50
 clear A50
 simp only [Option.some.injEq,Prod.mk.injEq] at H
 obtain ⟨rfl,rfl⟩:=H
 go_enter Try.func11,Try.ntmps11
 go_wp2_with (first|((with_reducible refine gate_callee (f:=35) rfl ?_);refine goesL_ (some 14) rfl rfl Try.func35 (by kernel_rfl) rfl #[.slice A0 l0.length c0,.int .i64 a1,.int .i64 a2,.int .i64 a3,.bool false] rfl (by (try simp only [List.map_toArray,List.map_cons,List.map_nil]);first|done|rfl|(simp only [List.length_drop,List.length_take];rfl)) ?_;(with_reducible refine (bitmap_turned.calls k _ _ l0 a1 a2 a3 false t135 t136 _ ?side1 ?side2 A5.out).mono ?_);(case side1=>repeat (first|exact HR0.out|(with_reducible refine Kd.C_alloc ?_ _)|(with_reducible refine Kd.C_drewN ?_ _)|(with_reducible refine Kd.C_drew ?_)));(case side2=>exact HC0.out);rintro e w6 ⟨v137,rfl,ho0,hb⟩;refine ⟨_,rfl,?_⟩;have n0_:=zm (Kd.R_lower ho0 (below_size (by repeat (first|(with_reducible first|exact HB.out|apply zlA|apply zlN|apply zlD)|exact HB.out))));have n1_:=zm (below_step (by repeat (first|(with_reducible first|exact HB.out|apply zlA|apply zlN|apply zlD)|exact HB.out)) hb);clear HB;have HO138:=n0_;have HB:=n1_;clear n0_ n1_;(try clear hb);(try clear hb2);(try clear hk);(try clear hi);(try clear ho0)))
 go_ret2
 exact ⟨_,by first|rfl|(simp [errW_none,errW_some] <;> rfl)|(simp [*,errW_none,errW_some] <;> rfl),by (with_reducible repeat (first|apply zrA|apply zrN|apply zrD));exact HO138.out,by repeat (first|(with_reducible first|exact HB.out|apply zlA|apply zlN|apply zlD)|exact HB.out)⟩
def bits_Mul64.f (a0:Int) (a1:Int):Option (Int × Int):=some (IntKind.u64.wrap ((IntKind.u64.wrap ((IntKind.u64.wrap ((a0 / 4294967296) * (a1 / 4294967296))) + ((IntKind.u64.wrap ((IntKind.u64.wrap ((a0 / 4294967296) * (Go.bits .and .u64 a1 4294967295))) + ((IntKind.u64.wrap ((Go.bits .and .u64 a0 4294967295) * (Go.bits .and .u64 a1 4294967295))) / 4294967296))) / 4294967296))) + ((IntKind.u64.wrap ((Go.bits .and .u64 (IntKind.u64.wrap ((IntKind.u64.wrap ((a0 / 4294967296) * (Go.bits .and .u64 a1 4294967295))) + ((IntKind.u64.wrap ((Go.bits .and .u64 a0 4294967295) * (Go.bits .and .u64 a1 4294967295))) / 4294967296))) 4294967295) + (IntKind.u64.wrap ((Go.bits .and .u64 a0 4294967295) * (a1 / 4294967296))))) / 4294967296)),IntKind.u64.wrap (a0 * a1))
set_option maxHeartbeats 8000000 in
set_option maxRecDepth 100000 in
theorem bits_Mul64.calls (a0:Int) (a1:Int) (r1:Int) (r2:Int) (w:World) (h:bits_Mul64.f a0 a1=some (r1,r2)) :
  Calls Try.prog 44 #[.int .u64 a0,.int .u64 a1] w fun e w'=>e=.returned (.tuple #[.int .u64 r1,.int .u64 r2])∧Drawn0 w w':=by
 have H:(some (IntKind.u64.wrap ((IntKind.u64.wrap ((IntKind.u64.wrap ((a0 / 4294967296) * (a1 / 4294967296))) + ((IntKind.u64.wrap ((IntKind.u64.wrap ((a0 / 4294967296) * (Go.bits .and .u64 a1 4294967295))) + ((IntKind.u64.wrap ((Go.bits .and .u64 a0 4294967295) * (Go.bits .and .u64 a1 4294967295))) / 4294967296))) / 4294967296))) + ((IntKind.u64.wrap ((Go.bits .and .u64 (IntKind.u64.wrap ((IntKind.u64.wrap ((a0 / 4294967296) * (Go.bits .and .u64 a1 4294967295))) + ((IntKind.u64.wrap ((Go.bits .and .u64 a0 4294967295) * (Go.bits .and .u64 a1 4294967295))) / 4294967296))) 4294967295) + (IntKind.u64.wrap ((Go.bits .and .u64 a0 4294967295) * (a1 / 4294967296))))) / 4294967296)),IntKind.u64.wrap (a0 * a1)))=some (r1,r2):=h
 clear h
 simp only [Option.some.injEq,Prod.mk.injEq] at H
 obtain ⟨rfl,rfl⟩:=H
 go_enter Try.func44,Try.ntmps44
 go_wp2
 go_ret2
 exact ⟨by first|rfl|(simp;done)|(simp [*];done),by repeat (first|exact Drawn0.refl _|apply Drawn0.step)⟩
def bits_Mul.f (a0:Int) (a1:Int):Option (Int × Int):=(bits_Mul64.f a0 a1).bind fun bt139=>(some (bt139.1,bt139.2))
set_option maxHeartbeats 8000000 in
set_option maxRecDepth 100000 in
theorem bits_Mul.calls (a0:Int) (a1:Int) (r1:Int) (r2:Int) (w:World) (h:bits_Mul.f a0 a1=some (r1,r2)) :
  Calls Try.prog 42 #[.int .u64 a0,.int .u64 a1] w fun e w'=>e=.returned (.tuple #[.int .u64 r1,.int .u64 r2])∧Drawn0 w w':=by
 have H:((bits_Mul64.f a0 a1).bind fun bt139=>(some (bt139.1,bt139.2)))=some (r1,r2):=h
 clear h
 replace H:=Option.bind_eq_some_iff.mp H
 obtain ⟨⟨t139,t140⟩,A30,H⟩:=H
 replace H:(some (t139,t140))=some (r1,r2):=H
 have A3:=zm A30
 clear A30
 simp only [Option.some.injEq,Prod.mk.injEq] at H
 obtain ⟨rfl,rfl⟩:=H
 go_enter Try.func42,Try.ntmps42
 go_wp2_with (first|((with_reducible refine gate_callee (f:=44) rfl ?_);refine goesL_ (some 25) rfl rfl Try.func44 (by kernel_rfl) rfl #[.int .u64 a0,.int .u64 a1] rfl (by (try simp only [List.map_toArray,List.map_cons,List.map_nil]);first|done|rfl|(simp only [List.length_drop,List.length_take];rfl)) ?_;(with_reducible refine (bits_Mul64.calls a0 a1 t139 t140 _ A3.out).mono ?_);rintro e w' ⟨rfl,⟨nd,rfl⟩⟩;refine ⟨_,rfl,?_⟩))
 go_ret2
 exact ⟨by first|rfl|(simp;done)|(simp [*];done),by repeat (first|exact Drawn0.refl _|apply Drawn0.step)⟩
end Go.Proofs.Ytllodfjbenmlpaa.Print
end
section
namespace Go.Proofs.Ytllodfjbenmlpaa.Print
open Go.RowKit Go.Proofs.YtllodfjbenmlpaaW.PrintWords Go.Proofs.YtllodfjbenmlpaaW.PrintLast Go.Proofs.YtllodfjbenmlpaaW.PrintMore
attribute [local go_sem] max2_int min2_int max_two min_two max_three min_three max_four min_four   -- for this text's walks alone
attribute [local go_sem ↓] Go.Proofs.Ytllodfjbenmlpaa.Sem.isSome_setCell
attribute [local go_sem] Go.Instr.field Go.asAgg
set_option linter.unusedVariables false
set_option linter.unusedSimpArgs false
def slices_Repeat_byte_byte.f (l0:List Int) (a1:Int):Option (List Int):=match l0 with
 | [x]=>if 0 < a1∧a1≤256 then some (List.replicate a1.toNat x) else none
 | _=>none
theorem slices_Repeat_byte_byte.mul:∀ n:Nat,n < 257 → bits_Mul.f 1 (n:Int)=some (0,(n:Int)):=by decide +kernel
def slices_Repeat_byte_byte.row (x z:Value) (n q:Nat):List Value:=List.replicate q x ++ List.replicate (n - q) z
theorem slices_Repeat_byte_byte.row_len (x z:Value) (n q:Nat) (h:q≤n):(slices_Repeat_byte_byte.row x z n q).length=n:=by simp [slices_Repeat_byte_byte.row];omega
theorem slices_Repeat_byte_byte.row_get (x z:Value) (n q j:Nat) (h:j < q):(slices_Repeat_byte_byte.row x z n q)[j]?=some x:=by
 rw [slices_Repeat_byte_byte.row,List.getElem?_append_left (by simpa using h),List.getElem?_replicate,if_pos h]
theorem slices_Repeat_byte_byte.row_splice (x z:Value) (n q m:Nat) (h:q + m≤n):(slices_Repeat_byte_byte.row x z n q).take q ++ (List.replicate m x ++ (slices_Repeat_byte_byte.row x z n q).drop (q + m))=slices_Repeat_byte_byte.row x z n (q + m):=by
 have e1:(slices_Repeat_byte_byte.row x z n q).take q=List.replicate q x:=by
  rw [slices_Repeat_byte_byte.row,List.take_append_of_le_length (by simp),List.take_of_length_le (by simp)]
 have e2:(slices_Repeat_byte_byte.row x z n q).drop (q + m)=List.replicate (n - (q + m)) z:=by
  rw [slices_Repeat_byte_byte.row,List.drop_append,List.drop_eq_nil_of_le (by simp),List.nil_append,List.length_replicate,show q + m - q=m by omega,List.drop_replicate,show n - q - m=n - (q + m) by omega]
 rw [e1,e2,slices_Repeat_byte_byte.row,← List.append_assoc,List.replicate_append_replicate]
theorem slices_Repeat_byte_byte.row_full (x z:Value) (n:Nat):slices_Repeat_byte_byte.row x z n n=List.replicate n x:=by simp [slices_Repeat_byte_byte.row]
set_option maxHeartbeats 8000000 in
set_option maxRecDepth 100000 in
theorem slices_Repeat_byte_byte.calls (A0:Option Addr) (c0:Nat) (l0:List Int) (a1:Int) (r:List Int) (w:World) (hr0:Kd.C (Kd.int .u8) w A0 l0.length l0) (hc0:l0.length≤c0) (h:slices_Repeat_byte_byte.f l0 a1=some r) :
  Calls Try.prog 37 #[.slice A0 l0.length c0,.int .i64 a1] w fun e w'=>∃ v0_:Value,e=.returned (v0_)∧Kd.R (Kd.int .u8) 5 w' w.heap.size (fun _=>True) v0_ r∧Below w.heap.size w w':=by
 obtain ⟨x,n,rfl,rfl,hn0,hn1,rfl⟩:∃ (x:Int) (n:Nat),l0=[x]∧a1=(n:Int)∧0 < n∧n≤256∧r=List.replicate n x:=by
  unfold slices_Repeat_byte_byte.f at h
  split at h
  ·rename_i x
   split at h
   ·rename_i hc
    obtain ⟨n,rfl⟩:=Int.eq_ofNat_of_zero_le (Int.le_of_lt hc.1)
    exact ⟨x,n,rfl,rfl,by omega,by omega,(Option.some.inj h).symm⟩
   ·cases h
  ·cases h
 have hmk:∀ nd,((w.drewN nd).alloc (.cells (madeCells #[.int .u8 0] n) 5)).heap[w.heap.size]?=some (.cells (slices_Repeat_byte_byte.row (.int .u8 x) (.int .u8 0) n 0).toArray 5 (0,0)):=fun nd=>by
  have h1:=heap_alloc_new (w.drewN nd) (.cells (madeCells #[.int .u8 0] n) 5)
  have h2:(madeCells #[Value.int .u8 0] n)=(slices_Repeat_byte_byte.row (.int .u8 x) (.int .u8 0) n 0).toArray:=by
   apply Array.ext
   ·simp [madeCells,slices_Repeat_byte_byte.row]
   ·intro i h1 h2
    simp [madeCells,slices_Repeat_byte_byte.row,Nat.mod_one]
  rw [← h2]
  exact h1
 have hbl:∀ nd,Below w.heap.size w ((w.drewN nd).alloc (.cells (madeCells #[.int .u8 0] n) 5)):=fun nd=>zlA (zlN (Below.refl _ _) nd) _
 have hmul:=slices_Repeat_byte_byte.mul n (by omega)
 obtain ⟨ad,rfl,hcell⟩:=(Kd.reads_of_C (d:=(0:Int)) hr0).2.2 (by simp)
 have hx:w.cell? (ad.add 0)=some (.int .u8 x):=hcell 0 (by simp)
 obtain ⟨i0,hi0,hzz⟩:=Option.map_eq_some_iff.1 info5
 simp only [Prod.mk.injEq] at hzz
 obtain ⟨hz,hsz,hby⟩:=hzz
 have hsz':(Try.prog.info? 5).map (·.size)=some 1:=by rw [hi0];simp [hsz]
 have hsrc1:∀ nd j v,[Value.int .u8 x][j]?=some v → ((w.drewN nd).alloc (.cells (madeCells #[.int .u8 0] n) 5)).cell? (ad.add j)=some v:=fun nd j v hj=>by
  rcases j with _|j
  ·cases hj
   exact pw_cell_below (hbl nd) hx
  ·simp at hj
 clear h hcell hr0
 have hw1:IntKind.u64.wrap (n:Int)=(n:Int):=by simp [IntKind.wrap,IntKind.bits,IntKind.signed];omega
 have hw2:IntKind.i64.wrap (n:Int)=(n:Int):=by simp [IntKind.wrap,IntKind.bits,IntKind.signed];omega
 have hn3:¬ ((n:Int) < 0):=by omega
 have hn4:¬ (9223372036854775807 < (n:Int)):=by omega
 go_enter Try.func37,Try.ntmps37
 go_wp2_with (first|((with_reducible refine gate_callee (f:=42) rfl ?_);refine goesL_ (some 18) rfl rfl Try.func42 (by kernel_rfl) rfl #[.int .u64 1,.int .u64 n] rfl (by (try simp only [List.map_toArray,List.map_cons,List.map_nil]);first|done|rfl|(simp;done)) ?_;(with_reducible refine (bits_Mul.calls 1 n 0 n _ hmul).mono ?_);rintro e w' ⟨rfl,⟨nd,rfl⟩⟩;refine ⟨_,rfl,?_⟩)|((with_reducible refine gate_dst (N:=30) rfl ?_);refine wpList_make_row _ rfl _ _ 22 rfl 5 i0 (.int .u8 0) Try.underlying22 hi0 hz hsz rfl .i64 .i64 n rfl rfl (by rw [hby];omega) (by omega) ?_)|((with_reducible refine gate_builtin (b:=.copy) (xs:=#[.tmp 31,.tmp 32]) rfl ?_);refine wpList_copy_splice rfl (.tmp 31) (.tmp 32) 22 22 rfl 5 Try.underlying22 hsz' (some ⟨w.heap.size,0,none⟩) (some ad) n n 1 c0 rfl rfl w.heap.size 0 (slices_Repeat_byte_byte.row (.int .u8 x) (.int .u8 0) n 0) 5 (hmk _) [.int .u8 x] (by simp [Nat.min_def];omega) ?_ (by rw [slices_Repeat_byte_byte.row_len _ _ _ _ (by omega)];simp;omega) (by intro u hu;rw [List.mem_singleton.1 hu];rfl) w.heap.size w (hbl _) (Nat.le_refl _) ?_;(exact fun _=>⟨rfl,ad,rfl,hsrc1 _⟩);intro w3 hg3 hb3;have hg3:=hg3.out;rw [show splice (slices_Repeat_byte_byte.row (.int .u8 x) (.int .u8 0) n 0) 0 [Value.int .u8 x]=slices_Repeat_byte_byte.row (.int .u8 x) (.int .u8 0) n 1 from slices_Repeat_byte_byte.row_splice _ _ n 0 1 (by omega)] at hg3))
 clear hmk hbl hsrc1
 go_loopw [8] (fun v8 w'=>∃ q:Nat,v8=.int .i64 q∧1≤q∧q≤n∧Hid (w'.heap[w.heap.size]?=some (.cells (slices_Repeat_byte_byte.row (.int .u8 x) (.int .u8 0) n q).toArray 5 (0,0)))∧Hid (Below w.heap.size w w')) (fun v8 _=>n - (intOf v8).toNat)
 case atStart=>exact ⟨1,by simp,Nat.le_refl _,hn0,hg3,hb3⟩
 case round =>
  obtain ⟨q,rfl,hq1,hqn,hgr,hbr⟩:=hrel
  by_cases hlt:q < n
  ·have hne:¬ (n=q):=by omega
   have hwm:IntKind.i64.wrap ((q:Int) + ((min q (n - q):Nat):Int))=((q + min q (n - q):Nat):Int):=by simp [IntKind.wrap,IntKind.bits,IntKind.signed];omega
   have hsrc2:∀ j v,(List.replicate (min q (n - q)) (Value.int .u8 x))[j]?=some v → wr.drew.cell? ((⟨w.heap.size,0,none⟩:Addr).add j)=some v:=fun j v hj=>by
    obtain ⟨hj1,hj2⟩:=List.getElem?_eq_some_iff.1 hj
    rw [List.getElem_replicate] at hj2
    subst hj2
    rw [List.length_replicate] at hj1
    have hj3:j < q:=by omega
    show wr.cell? _=_
    have:=blk_cell hgr.out j
    rw [Addr.add_lit,Nat.zero_add]
    rw [this]
    simpa using slices_Repeat_byte_byte.row_get (Value.int .u8 x) (.int .u8 0) n q j hj3
   go_wp2
   go_region_law (refine step_copy_splice rfl (.tmp 41) (.tmp 44) 22 22 rfl 5 Try.underlying22 hsz' (some ⟨w.heap.size,q,none⟩) (some ⟨w.heap.size,0,none⟩) (n - q) (n - q) q n (by simp [Act.eval,Act.put]) (by simp [Act.eval,Act.put]) w.heap.size q (slices_Repeat_byte_byte.row (.int .u8 x) (.int .u8 0) n q) 5 hgr.out (List.replicate (min q (n - q)) (.int .u8 x)) (by simp [Nat.min_def]) (fun _=>⟨rfl,_,rfl,hsrc2⟩) (by rw [slices_Repeat_byte_byte.row_len _ _ _ _ hqn];simp;omega) (by intro u hu;rw [List.eq_of_mem_replicate hu];rfl) w.heap.size w (below_drew hbr.out) (Nat.le_refl _) ?_;intro w4 hg4 hb4)
   have hg4:=hg4.out
   rw [show splice (slices_Repeat_byte_byte.row (.int .u8 x) (.int .u8 0) n q) q (List.replicate (min q (n - q)) (Value.int .u8 x))=slices_Repeat_byte_byte.row (.int .u8 x) (.int .u8 0) n (q + min q (n - q)) from by have:=slices_Repeat_byte_byte.row_splice (.int .u8 x) (.int .u8 0) n q (min q (n - q)) (by omega);simpa [splice] using this] at hg4
   simp only [Act.put,List.getElem_toArray,List.getElem_cons_zero,List.getElem_cons_succ,go_sem,List.setIfInBounds_toArray,List.set_cons_succ,List.set_cons_zero]
   go_roundw
   case rel=>exact ⟨_,_,_,_,_,_,_,_,_,_,_,_,_,_,⟨q + min q (n - q),by rw [Int.natCast_add],by omega,by omega,hg4,hb4⟩,rfl⟩
   case measure=>simp [intOf];omega
  ·go_wp2
   have hqe:q=n:=by omega
   subst hqe
   go_ret
   have hsz2:(slices_Repeat_byte_byte.row (.int .u8 x) (.int .u8 0) q q).length=q:=slices_Repeat_byte_byte.row_len _ _ _ _ (Nat.le_refl _)
   refine ⟨_,rfl,Kd.R_of_own ⟨by simp [encs],.inr ⟨w.heap.size,q,_,by simp,Nat.le_refl _,hgr.out,by simp,by simp [maxLen];omega,by simp [hsz2],?_⟩⟩ (fun _ _=>trivial),hbr.out⟩
   rw [slices_Repeat_byte_byte.row_full,encs,List.map_replicate,List.length_replicate]
   simp
mutual
def bitmap_New.j0:Nat → Int → Bool → Option (List Int × Int)
 | 0,_,_=>none
 | k + 1,x0,x11=>if x11=true then (some (([]:List Int),1)) else ((slices_Repeat_byte_byte.f (([255]:List Int)) 256).bind fun t147=>(bitmap_New.l0 k t147 x0 0))
def bitmap_New.l0:Nat → List Int → Int → Int → Option (List Int × Int)
 | 0,_,_,_=>none
 | k + 1,x4,x14,x15=>if x15 < x14 then ((bitmap_turn.f x4 x15).bind fun t150=>(bitmap_New.l0 k t150 x14 (wrap64 (x15 + 1)))) else (some (x4,0))
end
def bitmap_New.f (k:Nat) (a0:Int):Option (List Int × Int):=if a0 < 0 then (bitmap_New.j0 k a0 true) else (bitmap_New.j0 k a0 (decide (a0 > 2048)))
theorem bitmap_New.mono_l:∀ k,(∀ y0 y1,LeO (bitmap_New.j0 k y0 y1) (bitmap_New.j0 (k + 1) y0 y1))∧(∀ y0 y1 y2,LeO (bitmap_New.l0 k y0 y1 y2) (bitmap_New.l0 (k + 1) y0 y1 y2))
 | 0=>⟨fun _ _ r h=>by simp [bitmap_New.j0] at h,fun _ _ _ r h=>by simp [bitmap_New.l0] at h⟩
 | k + 1=>by
  obtain ⟨ih0,ih1⟩:=bitmap_New.mono_l k
  refine ⟨?_,?_⟩
  ·intro y0 y1
   unfold bitmap_New.j0
   repeat' first
   | (with_reducible exact ih0 _ _)
   | (with_reducible exact ih1 _ _ _)
   | (with_reducible exact LeO.refl _)
   | (with_reducible exact LeO.none _)
   | (with_reducible refine LeO.ite ?_ ?_)
   | (with_reducible refine LeO.bind ?_ (fun _=>?_))
   | exact ih0 _ _
   | exact ih1 _ _ _
   | exact LeO.none _
   | refine LeO.ite ?_ ?_
   | refine LeO.bind ?_ (fun _=>?_)
  ·intro y0 y1 y2
   unfold bitmap_New.l0
   repeat' first
   | (with_reducible exact ih0 _ _)
   | (with_reducible exact ih1 _ _ _)
   | (with_reducible exact LeO.refl _)
   | (with_reducible exact LeO.none _)
   | (with_reducible refine LeO.ite ?_ ?_)
   | (with_reducible refine LeO.bind ?_ (fun _=>?_))
   | exact ih0 _ _
   | exact ih1 _ _ _
   | exact LeO.none _
   | refine LeO.ite ?_ ?_
   | refine LeO.bind ?_ (fun _=>?_)
theorem bitmap_New.mono:∀ a0 k,LeO (bitmap_New.f k a0) (bitmap_New.f (k + 1) a0):=by
 intro a0 k
 obtain ⟨ih0,ih1⟩:=bitmap_New.mono_l k
 unfold bitmap_New.f
 repeat' first
   | (with_reducible exact ih0 _ _)
   | (with_reducible exact ih1 _ _ _)
   | (with_reducible exact LeO.refl _)
   | (with_reducible exact LeO.none _)
   | (with_reducible refine LeO.ite ?_ ?_)
   | (with_reducible refine LeO.bind ?_ (fun _=>?_))
   | exact ih0 _ _
   | exact ih1 _ _ _
   | exact LeO.none _
   | refine LeO.ite ?_ ?_
   | refine LeO.bind ?_ (fun _=>?_)
set_option maxHeartbeats 8000000 in
set_option maxRecDepth 100000 in
theorem bitmap_New.calls (k:Nat) (a0:Int) (r1:List Int) (r2:Int) (w:World) (h:bitmap_New.f k a0=some (r1,r2)) :
  Calls Try.prog 14 #[.int .i64 a0] w fun e w'=>∃ v0_:Value,e=.returned (.tuple #[v0_,.int .i64 r2])∧Kd.R (Kd.int .u8) 5 w' w.heap.size (fun _=>True) v0_ r1∧Below w.heap.size w w':=by
 have HB:=zm (Below.refl w.heap.size w)
 have H:(if a0 < 0 then (bitmap_New.j0 k a0 true) else (bitmap_New.j0 k a0 (decide (a0 > 2048))))=some (r1,r2):=h
 clear h
 have HC2:=zm H
 clear H
 go_enter Try.func14,Try.ntmps14
 go_upto_region 1 with (fail)
 go_cut [11] (fun v11 wc=>∃ (kq:Nat) (x11_1:Bool),v11=.bool x11_1∧Aside0 (bitmap_New.j0 kq a0 x11_1=some (r1,r2))∧Aside0 (kq≤k)∧Aside0 (Below w.heap.size w wc))
 case first =>
  have H:=HC2.out
  clear HC2
  by_cases c3:a0 < 0
  ·rw [if_pos c3] at H
   have c3b0:decide (a0 < 0)=true:=decide_eq_true c3
   clear c3
   (first|rw [c3b0]|(simp only [i64_w,i32_w];rw [c3b0])|skip)
   have H':=zm H
   clear H
   go_wp2
   go_meet
   case rel=>exact ⟨_,(true),(by first|rfl|(simp;done)|(simp [*];done)),H',⟨by first|omega|exact Nat.le_refl _⟩,⟨by repeat (first|(with_reducible first|exact HB.out|apply zlA|apply zlN|apply zlD)|exact HB.out)⟩⟩
  ·rw [if_neg c3] at H
   have c3b0:decide (a0 < 0)=false:=decide_eq_false c3
   clear c3
   (first|rw [c3b0]|(simp only [i64_w,i32_w];rw [c3b0])|skip)
   have H':=zm H
   clear H
   go_wp2
   go_meet
   case rel=>exact ⟨_,(decide (a0 > 2048)),(by first|rfl|(simp;done)|(simp [*];done)),H',⟨by first|omega|exact Nat.le_refl _⟩,⟨by repeat (first|(with_reducible first|exact HB.out|apply zlA|apply zlN|apply zlD)|exact HB.out)⟩⟩
 case rest =>
  clear HC2
  try clear c1
  try clear p2
  try clear c3
  try clear c3b0
  obtain ⟨kq,x11_1,rfl,HA,HJ1,HB⟩:=hcut
  cases kq with
  | zero=>exact absurd HA.out (by simp [bitmap_New.j0])
  | succ kj1 =>
   have H:=HA.out
   clear HA
   simp only [bitmap_New.j0] at H
   by_cases c4:x11_1=true
   ·subst c4
    have H1:(some (([]:List Int),1))=some (r1,r2):=by rw [if_pos rfl] at H;exact H
    clear H
    have H:=H1
    clear H1
    simp only [Option.some.injEq,Prod.mk.injEq] at H
    obtain ⟨rfl,rfl⟩:=H
    go_wp2
    go_ret2
    exact ⟨_,by first|rfl|(simp [errW_none,errW_some] <;> rfl)|(simp [*,errW_none,errW_some] <;> rfl),by first|exact Kd.R_nil _ _ _ _ _|exact Kd.N_nil _ _ _ _ _|exact Kd.V_nil _ _ _ _ _|exact Kd.Q_nil _ _ _ _ _|exact Kd.S_nil _ _ _ _ _,by repeat (first|(with_reducible first|exact HB.out|apply zlA|apply zlN|apply zlD)|exact HB.out)⟩
   ·replace c4:=Bool.eq_false_iff.mpr c4
    subst c4
    have H1:((slices_Repeat_byte_byte.f (([255]:List Int)) 256).bind fun t147=>(bitmap_New.l0 kj1 t147 a0 0))=some (r1,r2):=by rw [if_neg (show ¬ (false=true) by decide)] at H;exact H
    clear H
    have H:=H1
    clear H1
    obtain ⟨y144,hy144⟩:∃ y_:List Int,y_=(([255]:List Int)):=⟨_,rfl⟩
    replace H:((slices_Repeat_byte_byte.f y144 256).bind fun t147=>(bitmap_New.l0 kj1 t147 a0 0))=some (r1,r2):=by first|(rw [hy144];with_reducible exact H)|(have H2_:=(Option.bind_some _ _).symm.trans H;rw [hy144];with_reducible exact H2_)|(have H2_:=(Option.bind_some _ _).symm.trans H;with_reducible exact H2_)|with_reducible exact H|(rw [hy144];exact H)|exact H
    have Ny144:=zm hy144
    clear hy144
    replace H:=Option.bind_eq_some_iff.mp H
    obtain ⟨t147,A50,H⟩:=H
    replace H:(bitmap_New.l0 kj1 t147 a0 0)=some (r1,r2):=H
    have A5:=zm A50
    clear A50
    have H':=zm H
    clear H
    go_wp2_with (first|((with_reducible refine gate_dst (N:=12) rfl ?_);refine Kd.R_lit (Kd.int .u8) _ 5 ?hg (N:=12) ?hd (xs:=([255]:List Int)) (inner:=[.int .u8 255]) (ok:=fun _=>True) (okp:=fun _=>True) ?hr ?hp (fun _ hk=>hk) trivial (Below.refl _ _) (Nat.le_refl _) (by simp) ?_;(case hd=>rfl);(case hg=>rfl);(case hr=>first|(go_simp;done)|(go_simp;rfl));(case hp=>exact (Reps.one (show Kd.M (Kd.int .u8) _ _ _ 255 [.int .u8 255] from rfl) (Reps.none _ _)));intro v145 w6 ho7 hb hg_ hnew_;clear hg_ hnew_;(first|rw [← Ny144.out] at ho7|(simp only [Int.reduceToNat] at ho7;rw [← Ny144.out] at ho7));have n0_:=zm (Kd.R_lower ho7 (below_size (by repeat (first|(with_reducible first|exact HB.out|apply zlA|apply zlN|apply zlD)|exact HB.out))));have n1_:=zm (below_step (by repeat (first|(with_reducible first|exact HB.out|apply zlA|apply zlN|apply zlD)|exact HB.out)) hb);clear HB;have HO146:=n0_;have HB:=n1_;clear n0_ n1_;clear hb ho7;obtain ⟨Ao8,co8,eo8⟩:=Kd.R_slice HO146.out;subst eo8)|((with_reducible refine gate_callee (f:=37) rfl ?_);refine goesL_ (some 13) rfl rfl Try.func37 (by kernel_rfl) rfl #[.slice Ao8 y144.length co8,.int .i64 256] rfl (by (try simp only [List.map_toArray,List.map_cons,List.map_nil]);first|done|rfl|(simp only [List.length_drop,List.length_take];rfl)) ?_;(with_reducible refine (slices_Repeat_byte_byte.calls _ _ y144 256 t147 _ ?side1 ?side2 A5.out).mono ?_);(case side1=>repeat (first|exact (Kd.R_reads' HO146.out).2.2|(with_reducible refine Kd.C_alloc ?_ _)|(with_reducible refine Kd.C_drewN ?_ _)|(with_reducible refine Kd.C_drew ?_)));(case side2=>exact (Kd.R_reads' HO146.out).2.1);rintro e w9 ⟨v148,rfl,ho0,hb⟩;refine ⟨_,rfl,?_⟩;have n0_:=zm (Kd.R_elder' (by (with_reducible repeat (first|apply zrA|apply zrN|apply zrD));exact HO146.out) (Kd.R_base ho0) hb);have n1_:=zm (Kd.R_lower (Kd.R_new' ho0 (Kd.R_lt (by (with_reducible repeat (first|apply zrA|apply zrN|apply zrD));exact HO146.out))) (below_size (by repeat (first|(with_reducible first|exact HB.out|apply zlA|apply zlN|apply zlD)|exact HB.out))));have n2_:=zm (below_step (by repeat (first|(with_reducible first|exact HB.out|apply zlA|apply zlN|apply zlD)|exact HB.out)) hb);clear HO146 HB;have HO146:=n0_;have HO149:=n1_;have HB:=n2_;clear n0_ n1_ n2_;(try clear hb);(try clear hb2);(try clear hk);(try clear hi);(try clear ho0)))
    go_loopg [15] kj1 (fun kq v15 w'=>∃ (x4_2:List Int) (x15_2:Int),v15=.int .i64 x15_2∧Aside0 (bitmap_New.l0 kq x4_2 a0 x15_2=some (r1,r2))∧Aside0 (kq≤kj1)∧Aside0 (Kd.R (Kd.int .u8) 5 w' w.heap.size (fun _=>True) v148 x4_2)∧Aside0 (Below w.heap.size w w'))
    case atStart=>exact ⟨(t147),(0),(by first|rfl|(simp;done)|(simp [*];done)),H',⟨Nat.le_refl _⟩,⟨by (with_reducible repeat (first|apply zrA|apply zrN|apply zrD));exact Kd.R_mono HO149.out (fun _ hk=>trivial)⟩,⟨by repeat (first|(with_reducible first|exact HB.out|apply zlA|apply zlN|apply zlD)|exact HB.out)⟩⟩
    case round =>
     clear H'
     try clear c1
     try clear p2
     try clear c3
     try clear c3b0
     try clear c4
     try clear p2
     obtain ⟨x4_2,x15_2,rfl,HA,HK2,HO_4,HB⟩:=hrel
     cases gk with
     | zero=>exact absurd HA.out (by simp [bitmap_New.l0])
     | succ k2 =>
      have H:=HA.out
      clear HA
      simp only [bitmap_New.l0] at H
      by_cases c10:x15_2 < a0
      ·rw [if_pos c10] at H
       have c10b0:decide (x15_2 < a0)=true:=decide_eq_true c10
       clear c10
       replace H:=Option.bind_eq_some_iff.mp H
       obtain ⟨t150,A110,H⟩:=H
       replace H:(bitmap_New.l0 k2 t150 a0 (wrap64 (x15_2 + 1)))=some (r1,r2):=H
       have A11:=zm A110
       clear A110
       have H':=zm H
       clear H
       obtain ⟨Ao12,co12,eo12⟩:=Kd.R_slice HO_4.out
       subst eo12
       go_wp2_with (first|((with_reducible refine gate_callee (f:=38) rfl ?_);refine goesL_ (some 20) rfl rfl Try.func38 (by kernel_rfl) rfl #[.slice Ao12 x4_2.length co12,.int .i64 x15_2] rfl (by (try simp only [List.map_toArray,List.map_cons,List.map_nil]);first|done|rfl|(simp only [List.length_drop,List.length_take];rfl)) ?_;(with_reducible refine (bitmap_turn.calls (fun k_=>some k_=(.slice Ao12 x4_2.length co12:Value).ownBlock) (.slice Ao12 x4_2.length co12) x4_2 x15_2 t150 w _ ?side1 ?side2 A11.out).mono ?_);(case side1=>repeat (first|(with_reducible first|exact HB.out|apply zlA|apply zlN|apply zlD)|exact HB.out));(case side2=>exact Kd.R_tight rfl HO_4.out);rintro e w13 ⟨rfl,hy0,hb,hkp⟩;refine ⟨_,rfl,?_⟩;have n0_:=zm (Kd.R_reok rfl hy0 (fun k_ e_=>HO_4.out.1 k_ e_));have n1_:=zm (hb);clear HO_4 HB;have HO_4:=n0_;have HB:=n1_;clear n0_ n1_;(try clear hb);(try clear hkp);(try clear hy0)))
       go_roundg k2
       case measure=>have:=HJ1.out;have:=HK2.out;omega
       case rel=>exact ⟨(t150),(wrap64 (x15_2 + 1)),(by first|rfl|(simp;done)|(simp [*];done)),H',⟨by have:=HJ1.out;have:=HK2.out;omega⟩,⟨by (with_reducible repeat (first|apply zrA|apply zrN|apply zrD));exact HO_4.out⟩,⟨by repeat (first|(with_reducible first|exact HB.out|apply zlA|apply zlN|apply zlD)|exact HB.out)⟩⟩
      ·rw [if_neg c10] at H
       have c10b0:decide (x15_2 < a0)=false:=decide_eq_false c10
       clear c10
       simp only [Option.some.injEq,Prod.mk.injEq] at H
       obtain ⟨rfl,rfl⟩:=H
       go_wp2
       go_ret2
       exact ⟨_,by first|rfl|(simp [errW_none,errW_some] <;> rfl)|(simp [*,errW_none,errW_some] <;> rfl),by (with_reducible repeat (first|apply zrA|apply zrN|apply zrD));exact HO_4.out,by repeat (first|(with_reducible first|exact HB.out|apply zlA|apply zlN|apply zlD)|exact HB.out)⟩
def bitmap_Has.f (k:Nat) (l0:List Int) (a1:Int) (a2:Int):Option (Bool):=if a2 ≥ 0 then ((bitmap_may.f k l0 a1).bind fun t151=>(if a2 < t151 then ((bitmap_bit.f l0 a2).bind fun t152=>(some t152)) else (some false))) else (some false)
theorem bitmap_Has.mono:∀ a0 a1 a2 k,LeO (bitmap_Has.f k a0 a1 a2) (bitmap_Has.f (k + 1) a0 a1 a2):=by
 intro a0 a1 a2 k
 unfold bitmap_Has.f
 repeat' first
   | (with_reducible exact bitmap_may.mono _ _ _)
   | (with_reducible exact LeO.refl _)
   | (with_reducible exact LeO.none _)
   | (with_reducible refine LeO.ite ?_ ?_)
   | (with_reducible refine LeO.bind ?_ (fun _=>?_))
   | exact bitmap_may.mono _ _ _
   | exact LeO.none _
   | refine LeO.ite ?_ ?_
   | refine LeO.bind ?_ (fun _=>?_)
set_option maxHeartbeats 8000000 in
set_option maxRecDepth 100000 in
theorem bitmap_Has.calls (k:Nat) (A0:Option Addr) (c0:Nat) (l0:List Int) (a1:Int) (a2:Int) (r:Bool) (w:World) (hr0:Kd.C (Kd.int .u8) w A0 l0.length l0) (hc0:l0.length≤c0) (h:bitmap_Has.f k l0 a1 a2=some r) :
  Calls Try.prog 18 #[.slice A0 l0.length c0,.int .i64 a1,.int .i64 a2] w fun e w'=>e=.returned (.bool r)∧Drawn0 w w':=by
 have HR0:=zm hr0
 have HC0:=zm hc0
 clear hr0 hc0
 have H:(if a2 ≥ 0 then ((bitmap_may.f k l0 a1).bind fun t151=>(if a2 < t151 then ((bitmap_bit.f l0 a2).bind fun t152=>(some t152)) else (some false))) else (some false))=some r:=h
 clear h
 by_cases c4:a2 ≥ 0
 ·rw [if_pos c4] at H
  have c4b0:decide (0≤a2)=true:=decide_eq_true c4
  clear c4
  replace H:=Option.bind_eq_some_iff.mp H
  obtain ⟨t151,A50,H⟩:=H
  replace H:(if a2 < t151 then ((bitmap_bit.f l0 a2).bind fun t152=>(some t152)) else (some false))=some r:=H
  have A5:=zm A50
  clear A50
  by_cases c6:a2 < t151
  ·rw [if_pos c6] at H
   have c6b0:decide (a2 < t151)=true:=decide_eq_true c6
   clear c6
   replace H:=Option.bind_eq_some_iff.mp H
   obtain ⟨t152,A70,H⟩:=H
   replace H:(some t152)=some r:=H
   have A7:=zm A70
   clear A70
   obtain rfl:=Option.some.inj H
   go_enter Try.func18,Try.ntmps18
   go_wp2_with (first|(go_at_call 32;(with_reducible refine (bitmap_may.calls k _ _ l0 a1 t151 _ ?side1 ?side2 A5.out).mono ?_);(case side1=>repeat (first|exact HR0.out|(with_reducible refine Kd.C_alloc ?_ _)|(with_reducible refine Kd.C_drewN ?_ _)|(with_reducible refine Kd.C_drew ?_)));(case side2=>exact HC0.out);rintro e w' ⟨rfl,⟨nd,rfl⟩⟩)|(go_at_call 31;(with_reducible refine (bitmap_bit.calls _ _ l0 a2 t152 _ ?side1 ?side2 A7.out).mono ?_);(case side1=>repeat (first|exact HR0.out|(with_reducible refine Kd.C_alloc ?_ _)|(with_reducible refine Kd.C_drewN ?_ _)|(with_reducible refine Kd.C_drew ?_)));(case side2=>exact HC0.out);rintro e w' ⟨rfl,⟨nd,rfl⟩⟩))
   go_ret
   exact ⟨by first|rfl|(simp;done)|(simp [*];done),by repeat (first|exact Drawn0.refl _|apply Drawn0.step)⟩
  ·rw [if_neg c6] at H
   have c6b0:decide (a2 < t151)=false:=decide_eq_false c6
   clear c6
   obtain rfl:=Option.some.inj H
   go_enter Try.func18,Try.ntmps18
   go_wp2_with (first|(go_at_call 32;(with_reducible refine (bitmap_may.calls k _ _ l0 a1 t151 _ ?side1 ?side2 A5.out).mono ?_);(case side1=>repeat (first|exact HR0.out|(with_reducible refine Kd.C_alloc ?_ _)|(with_reducible refine Kd.C_drewN ?_ _)|(with_reducible refine Kd.C_drew ?_)));(case side2=>exact HC0.out);rintro e w' ⟨rfl,⟨nd,rfl⟩⟩))
   go_ret
   exact ⟨by first|rfl|(simp;done)|(simp [*];done),by repeat (first|exact Drawn0.refl _|apply Drawn0.step)⟩
 ·rw [if_neg c4] at H
  have c4b0:decide (0≤a2)=false:=decide_eq_false c4
  clear c4
  obtain rfl:=Option.some.inj H
  go_enter Try.func18,Try.ntmps18
  go_wp2
  go_ret
  exact ⟨by first|rfl|(simp;done)|(simp [*];done),by repeat (first|exact Drawn0.refl _|apply Drawn0.step)⟩
-- NOT PRINTED: function 13 (bitmap_Runs)
end Go.Proofs.Ytllodfjbenmlpaa.Print
end
section
namespace Go.Proofs.Ytllodfjbenmlpaa.Print
open Go.RowKit Go.Proofs.YtllodfjbenmlpaaW.PrintWords Go.Proofs.YtllodfjbenmlpaaW.PrintLast Go.Proofs.YtllodfjbenmlpaaW.PrintMore
attribute [local go_sem] max2_int min2_int max_two min_two max_three min_three max_four min_four   -- for this text's walks alone
attribute [local go_sem ↓] Go.Proofs.Ytllodfjbenmlpaa.Sem.isSome_setCell
attribute [local go_sem] Go.Instr.field Go.asAgg
set_option linter.unusedVariables false
set_option linter.unusedSimpArgs false
def slipwaylaw12_begun.f (k:Nat) :Option (Bool):=(bitmap_New.f k 10).bind fun bt158=>((bitmap_Set.f k bt158.1 10 3 4).bind fun bt162=>((bitmap_Run.f k bt162.1 10 2 3).bind fun bt166=>(if bt158.2=0 then (if bt162.2=0 then (if bt166.1=7 then (if bt166.2=3 then ((bitmap_Count.f k bt162.1 10).bind fun t168=>(if t168=6 then ((bitmap_Has.f k bt162.1 10 6).bind fun t169=>(if t169=true then ((bitmap_Has.f k bt162.1 10 7).bind fun t170=>(some (!t170))) else (none))) else (none))) else (none)) else (none)) else (none)) else (none))))
theorem slipwaylaw12_begun.mono:∀ k,LeO (slipwaylaw12_begun.f k ) (slipwaylaw12_begun.f (k + 1) ):=by
 intro  k
 unfold slipwaylaw12_begun.f
 repeat' first
   | (with_reducible exact bitmap_Count.mono _ _ _)
   | (with_reducible exact bitmap_Has.mono _ _ _ _)
   | (with_reducible exact bitmap_New.mono _ _)
   | (with_reducible exact bitmap_Run.mono _ _ _ _ _)
   | (with_reducible exact bitmap_Set.mono _ _ _ _ _)
   | (with_reducible exact LeO.refl _)
   | (with_reducible exact LeO.none _)
   | (with_reducible refine LeO.ite ?_ ?_)
   | (with_reducible refine LeO.bind ?_ (fun _=>?_))
   | exact bitmap_Count.mono _ _ _
   | exact bitmap_Has.mono _ _ _ _
   | exact bitmap_New.mono _ _
   | exact bitmap_Run.mono _ _ _ _ _
   | exact bitmap_Set.mono _ _ _ _ _
   | exact LeO.none _
   | refine LeO.ite ?_ ?_
   | refine LeO.bind ?_ (fun _=>?_)
set_option maxHeartbeats 8000000 in
set_option maxRecDepth 100000 in
theorem slipwaylaw12_begun.calls (k:Nat)  (r:Bool) (w:World) (h:slipwaylaw12_begun.f k =some r) :
  Calls Try.prog 8 #[] w fun e w'=>e=.returned (.bool r)∧Below w.heap.size w w':=by
 have HB:=zm (Below.refl w.heap.size w)
 have H:((bitmap_New.f k 10).bind fun bt158=>((bitmap_Set.f k bt158.1 10 3 4).bind fun bt162=>((bitmap_Run.f k bt162.1 10 2 3).bind fun bt166=>(if bt158.2=0 then (if bt162.2=0 then (if bt166.1=7 then (if bt166.2=3 then ((bitmap_Count.f k bt162.1 10).bind fun t168=>(if t168=6 then ((bitmap_Has.f k bt162.1 10 6).bind fun t169=>(if t169=true then ((bitmap_Has.f k bt162.1 10 7).bind fun t170=>(some (!t170))) else (none))) else (none))) else (none)) else (none)) else (none)) else (none)))))=some r:=h
 clear h
 replace H:=Option.bind_eq_some_iff.mp H
 obtain ⟨⟨t158,t159⟩,A10,H⟩:=H
 replace H:((bitmap_Set.f k t158 10 3 4).bind fun bt162=>((bitmap_Run.f k bt162.1 10 2 3).bind fun bt166=>(if t159=0 then (if bt162.2=0 then (if bt166.1=7 then (if bt166.2=3 then ((bitmap_Count.f k bt162.1 10).bind fun t168=>(if t168=6 then ((bitmap_Has.f k bt162.1 10 6).bind fun t169=>(if t169=true then ((bitmap_Has.f k bt162.1 10 7).bind fun t170=>(some (!t170))) else (none))) else (none))) else (none)) else (none)) else (none)) else (none))))=some r:=H
 have A1:=zm A10
 clear A10
 replace H:=Option.bind_eq_some_iff.mp H
 obtain ⟨⟨t162,t163⟩,A20,H⟩:=H
 replace H:((bitmap_Run.f k t162 10 2 3).bind fun bt166=>(if t159=0 then (if t163=0 then (if bt166.1=7 then (if bt166.2=3 then ((bitmap_Count.f k t162 10).bind fun t168=>(if t168=6 then ((bitmap_Has.f k t162 10 6).bind fun t169=>(if t169=true then ((bitmap_Has.f k t162 10 7).bind fun t170=>(some (!t170))) else (none))) else (none))) else (none)) else (none)) else (none)) else (none)))=some r:=H
 have A2:=zm A20
 clear A20
 replace H:=Option.bind_eq_some_iff.mp H
 obtain ⟨⟨t166,t167⟩,A30,H⟩:=H
 replace H:(if t159=0 then (if t163=0 then (if t166=7 then (if t167=3 then ((bitmap_Count.f k t162 10).bind fun t168=>(if t168=6 then ((bitmap_Has.f k t162 10 6).bind fun t169=>(if t169=true then ((bitmap_Has.f k t162 10 7).bind fun t170=>(some (!t170))) else (none))) else (none))) else (none)) else (none)) else (none)) else (none))=some r:=H
 have A3:=zm A30
 clear A30
 by_cases c4:t159=0
 ·rw [if_pos c4] at H
  have c4b0:(t159 == 0)=true:=beq_iff_eq.mpr c4
  have c4b1:(t159 != 0)=false:=bne_eq_false_iff_eq.mpr c4
  clear c4
  by_cases c5:t163=0
  ·rw [if_pos c5] at H
   have c5b0:(t163 == 0)=true:=beq_iff_eq.mpr c5
   have c5b1:(t163 != 0)=false:=bne_eq_false_iff_eq.mpr c5
   clear c5
   by_cases c6:t166=7
   ·rw [if_pos c6] at H
    have c6b0:(t166 == 7)=true:=beq_iff_eq.mpr c6
    have c6b1:(t166 != 7)=false:=bne_eq_false_iff_eq.mpr c6
    clear c6
    by_cases c7:t167=3
    ·rw [if_pos c7] at H
     have c7b0:(t167 == 3)=true:=beq_iff_eq.mpr c7
     have c7b1:(t167 != 3)=false:=bne_eq_false_iff_eq.mpr c7
     clear c7
     replace H:=Option.bind_eq_some_iff.mp H
     obtain ⟨t168,A80,H⟩:=H
     replace H:(if t168=6 then ((bitmap_Has.f k t162 10 6).bind fun t169=>(if t169=true then ((bitmap_Has.f k t162 10 7).bind fun t170=>(some (!t170))) else (none))) else (none))=some r:=H
     have A8:=zm A80
     clear A80
     by_cases c9:t168=6
     ·rw [if_pos c9] at H
      have c9b0:(t168 == 6)=true:=beq_iff_eq.mpr c9
      have c9b1:(t168 != 6)=false:=bne_eq_false_iff_eq.mpr c9
      clear c9
      replace H:=Option.bind_eq_some_iff.mp H
      obtain ⟨t169,A100,H⟩:=H
      replace H:(if t169=true then ((bitmap_Has.f k t162 10 7).bind fun t170=>(some (!t170))) else (none))=some r:=H
      have A10:=zm A100
      clear A100
      by_cases c11:t169=true
      ·subst c11
       have H1:((bitmap_Has.f k t162 10 7).bind fun t170=>(some (!t170)))=some r:=by rw [if_pos rfl] at H;exact H
       clear H
       have H:=H1
       clear H1
       replace H:=Option.bind_eq_some_iff.mp H
       obtain ⟨t170,A120,H⟩:=H
       replace H:(some (!t170))=some r:=H
       have A12:=zm A120
       clear A120
       obtain rfl:=Option.some.inj H
       go_enter Try.func8,Try.ntmps8
       go_wp2_with (first|((with_reducible refine gate_callee (f:=14) rfl ?_);refine goesL_ (some 8) rfl rfl Try.func14 (by kernel_rfl) rfl #[.int .i64 10] rfl (by (try simp only [List.map_toArray,List.map_cons,List.map_nil]);first|done|rfl|(simp only [List.length_drop,List.length_take];rfl)) ?_;(with_reducible refine (bitmap_New.calls k 10 t158 t159 _ A1.out).mono ?_);rintro e w13 ⟨v160,rfl,ho0,hb⟩;refine ⟨_,rfl,?_⟩;have n0_:=zm (Kd.R_lower ho0 (below_size (by repeat (first|(with_reducible first|exact HB.out|apply zlA|apply zlN|apply zlD)|exact HB.out))));have n1_:=zm (below_step (by repeat (first|(with_reducible first|exact HB.out|apply zlA|apply zlN|apply zlD)|exact HB.out)) hb);clear HB;have HO161:=n0_;have HB:=n1_;clear n0_ n1_;(try clear hb);(try clear hb2);(try clear hk);(try clear hi);(try clear ho0);obtain ⟨Ao14,co14,eo14⟩:=Kd.R_slice HO161.out;subst eo14)|((with_reducible refine gate_callee (f:=11) rfl ?_);refine goesL_ (some 13) rfl rfl Try.func11 (by kernel_rfl) rfl #[.slice Ao14 t158.length co14,.int .i64 10,.int .i64 3,.int .i64 4] rfl (by (try simp only [List.map_toArray,List.map_cons,List.map_nil]);first|done|rfl|(simp only [List.length_drop,List.length_take];rfl)) ?_;(with_reducible refine (bitmap_Set.calls k _ _ t158 10 3 4 t162 t163 _ ?side1 ?side2 A2.out).mono ?_);(case side1=>repeat (first|exact (Kd.R_reads' HO161.out).2.2|(with_reducible refine Kd.C_alloc ?_ _)|(with_reducible refine Kd.C_drewN ?_ _)|(with_reducible refine Kd.C_drew ?_)));(case side2=>exact (Kd.R_reads' HO161.out).2.1);rintro e w15 ⟨v164,rfl,ho0,hb⟩;refine ⟨_,rfl,?_⟩;have n0_:=zm (Kd.R_elder' (by (with_reducible repeat (first|apply zrA|apply zrN|apply zrD));exact HO161.out) (Kd.R_base ho0) hb);have n1_:=zm (Kd.R_lower (Kd.R_new' ho0 (Kd.R_lt (by (with_reducible repeat (first|apply zrA|apply zrN|apply zrD));exact HO161.out))) (below_size (by repeat (first|(with_reducible first|exact HB.out|apply zlA|apply zlN|apply zlD)|exact HB.out))));have n2_:=zm (below_step (by repeat (first|(with_reducible first|exact HB.out|apply zlA|apply zlN|apply zlD)|exact HB.out)) hb);clear HO161 HB;have HO161:=n0_;have HO165:=n1_;have HB:=n2_;clear n0_ n1_ n2_;(try clear hb);(try clear hb2);(try clear hk);(try clear hi);(try clear ho0);obtain ⟨Ao16,co16,eo16⟩:=Kd.R_slice HO165.out;subst eo16)|((with_reducible refine gate_callee (f:=10) rfl ?_);refine goesL_ (some 18) rfl rfl Try.func10 (by kernel_rfl) rfl #[.slice Ao16 t162.length co16,.int .i64 10,.int .i64 2,.int .i64 3] rfl (by (try simp only [List.map_toArray,List.map_cons,List.map_nil]);first|done|rfl|(simp only [List.length_drop,List.length_take];rfl)) ?_;(with_reducible refine (bitmap_Run.calls k _ _ t162 10 2 3 t166 t167 _ ?side1 ?side2 A3.out).mono ?_);(case side1=>repeat (first|exact (Kd.R_reads' HO165.out).2.2|(with_reducible refine Kd.C_alloc ?_ _)|(with_reducible refine Kd.C_drewN ?_ _)|(with_reducible refine Kd.C_drew ?_)));(case side2=>exact (Kd.R_reads' HO165.out).2.1);rintro e w17 ⟨rfl,hb⟩;refine ⟨_,rfl,?_⟩;have n0_:=zm (Kd.R_below (by (with_reducible repeat (first|apply zrA|apply zrN|apply zrD));exact HO161.out) hb);have n1_:=zm (Kd.R_below (by (with_reducible repeat (first|apply zrA|apply zrN|apply zrD));exact HO165.out) hb);have n2_:=zm (below_step (by repeat (first|(with_reducible first|exact HB.out|apply zlA|apply zlN|apply zlD)|exact HB.out)) hb);clear HO161 HO165 HB;have HO161:=n0_;have HO165:=n1_;have HB:=n2_;clear n0_ n1_ n2_;(try clear hb);(try clear hb2);(try clear hk);(try clear hi))|(go_at_call 21;(with_reducible refine (bitmap_Count.calls k _ _ t162 10 t168 _ ?side1 ?side2 A8.out).mono ?_);(case side1=>repeat (first|exact (Kd.R_reads' HO165.out).2.2|(with_reducible refine Kd.C_alloc ?_ _)|(with_reducible refine Kd.C_drewN ?_ _)|(with_reducible refine Kd.C_drew ?_)));(case side2=>exact (Kd.R_reads' HO165.out).2.1);rintro e w18 ⟨rfl,hb⟩;have n0_:=zm (Kd.R_below (by (with_reducible repeat (first|apply zrA|apply zrN|apply zrD));exact HO161.out) hb);have n1_:=zm (Kd.R_below (by (with_reducible repeat (first|apply zrA|apply zrN|apply zrD));exact HO165.out) hb);have n2_:=zm (below_step (by repeat (first|(with_reducible first|exact HB.out|apply zlA|apply zlN|apply zlD)|exact HB.out)) hb);clear HO161 HO165 HB;have HO161:=n0_;have HO165:=n1_;have HB:=n2_;clear n0_ n1_ n2_;(try clear hb);(try clear hb2);(try clear hk);(try clear hi))|(go_at_call 18;(with_reducible refine (bitmap_Has.calls k _ _ t162 10 6 true _ ?side1 ?side2 A10.out).mono ?_);(case side1=>repeat (first|exact (Kd.R_reads' HO165.out).2.2|(with_reducible refine Kd.C_alloc ?_ _)|(with_reducible refine Kd.C_drewN ?_ _)|(with_reducible refine Kd.C_drew ?_)));(case side2=>exact (Kd.R_reads' HO165.out).2.1);rintro e w' ⟨rfl,⟨nd,rfl⟩⟩)|(go_at_call 18;(with_reducible refine (bitmap_Has.calls k _ _ t162 10 7 t170 _ ?side1 ?side2 A12.out).mono ?_);(case side1=>repeat (first|exact (Kd.R_reads' HO165.out).2.2|(with_reducible refine Kd.C_alloc ?_ _)|(with_reducible refine Kd.C_drewN ?_ _)|(with_reducible refine Kd.C_drew ?_)));(case side2=>exact (Kd.R_reads' HO165.out).2.1);rintro e w' ⟨rfl,⟨nd,rfl⟩⟩))
       go_ret
       exact ⟨by first|rfl|(simp [errW_none,errW_some] <;> rfl)|(simp [*,errW_none,errW_some] <;> rfl),by repeat (first|(with_reducible first|exact HB.out|apply zlA|apply zlN|apply zlD)|exact HB.out)⟩
      ·replace c11:=Bool.eq_false_iff.mpr c11
       subst c11
       have H1:(none)=some r:=by rw [if_neg (show ¬ (false=true) by decide)] at H;exact H
       clear H
       have H:=H1
       clear H1
       exact absurd H (by simp)
     ·rw [if_neg c9] at H
      exact absurd H (by simp)
    ·rw [if_neg c7] at H
     exact absurd H (by simp)
   ·rw [if_neg c6] at H
    exact absurd H (by simp)
  ·rw [if_neg c5] at H
   exact absurd H (by simp)
 ·rw [if_neg c4] at H
  exact absurd H (by simp)
end Go.Proofs.Ytllodfjbenmlpaa.Print
end
section
namespace Go.Proofs.Ytllodfjbenmlpaa.Print
open Go.RowKit Go.Proofs.YtllodfjbenmlpaaW.PrintWords Go.Proofs.YtllodfjbenmlpaaW.PrintLast Go.Proofs.YtllodfjbenmlpaaW.PrintMore
attribute [local go_sem] max2_int min2_int max_two min_two max_three min_three max_four min_four   -- for this text's walks alone
attribute [local go_sem ↓] Go.Proofs.Ytllodfjbenmlpaa.Sem.isSome_setCell
attribute [local go_sem] Go.Instr.field Go.asAgg
set_option linter.unusedVariables false
set_option linter.unusedSimpArgs false
-- RANGEFUNC bitmap_Count.calls
section
open Go.Shelf
attribute [local go_sem] Oper.semAt_some
namespace ToldIt
open RunsIt
theorem run_eql_func_nil {P:Program} (w:World) {t:TypeId} {ps rs:Array TypeId} {vr:Bool} (ht:P.underlying t=some (.func ps rs vr)) (f:Fn) (a b:Array Value):(binOp .eql t (.func f a b) .nilFunc).run P w=.ok (.bool false) w:=by
 have h:∀ d:Nat,(Op.equalIn (d + 1) t (.func f a b) .nilFunc).run P w=.ok false w:=fun d=>by simp [Op.equalIn,run_underlying ht]
 simp only [binOp]
 simp [Op.equal,Op.maxDepth,h 9999]
def conv (p:S52):S36:=⟨p.f0,p.f1⟩
def flat (l:List S36):List Value:=l.flatMap fun p=>[.int .i64 p.f0,.int .i64 p.f1]
theorem flat_snoc (l:List S36) (p:S36):flat (l ++ [p])=flat l ++ [.int .i64 p.f0,.int .i64 p.f1]:=by simp [flat]
theorem flat_len (l:List S36):(flat l).length=l.length * 2:=by
 induction l with
 | nil=>rfl
 | cons p l ih=>simp only [flat,List.flatMap_cons,List.length_append,List.length_cons,List.length_nil] at ih ⊢;omega
theorem flat_at:∀ (l:List S36) (j:Nat) (p:S36),l[j]?=some p → ((flat l).drop (j * 2)).take 2=[.int .i64 p.f0,.int .i64 p.f1]
 | [],j,p,h=>by simp at h
 | q :: l,0,p,h=>by
  simp at h
  subst h
  simp [flat]
 | q :: l,j + 1,p,h=>by
  have ih:=flat_at l j p (by simpa using h)
  rw [show (j + 1) * 2=j * 2 + 1 + 1 by omega]
  simpa [flat] using ih
theorem R_of_flat {W:World} {base:Nat} {v:Value} {l:List S36} (h:W.ownsRow base 36 2 v l.length (flat l)):Kd.R k36 36 W base (fun _=>True) v l :=
 ⟨fun _ _=>trivial,flat l,h,flat_len l,fun j p hj=>by
  have:=flat_at l j p hj
  show k36.M _ _ _ p (((flat l).drop (j * 2)).take 2)
  rw [this]
  exact k36_mkM _ _ _ p⟩
theorem own_abide {W W':World} {row:Option Nat} {base:Nat} {v:Value} {k:Nat} {xs:List Value} (h:W.ownsRow base 36 2 v k xs) (hg:W.grownBy W' row)
  (hr:∀ r,row=some r → ∃ o:Obj,W.heap[r]?=some o∧o.isCells=false):W'.ownsRow base 36 2 v k xs:=by
 refine h.kept hg ?_
 rcases h.2 with ⟨rfl,_⟩|⟨g,cap,cur,rfl,_,hgb,_⟩
 ·exact .inl rfl
 ·refine .inr fun e'=>?_
  obtain ⟨o,ho,hw⟩:=hr g (by simpa [Value.ownBlock] using e'.symm)
  rw [hgb] at ho
  cases ho
  cases hw
theorem own_slice {W:World} {base:Nat} {v:Value} {k:Nat} {xs:List Value} (h:W.ownsRow base 36 2 v k xs):∃ A c,v=.slice A k c:=by
 rcases h.2 with ⟨rfl,rfl⟩|⟨g,cap,cur,rfl,_⟩
 ·exact ⟨none,0,rfl⟩
 ·exact ⟨_,_,rfl⟩
structure Sta (most:Int) (B0:Nat) (w W0:World) (pre:List S52) (W:World):Prop where
 box:∃ v,W.heap[w.heap.size + 1]?=some (.cells #[v] 30 (0,0))∧W.ownsRow B0 36 2 v ((pre.take most.toNat).map conv).length (flat ((pre.take most.toNat).map conv))
 mst:W.heap[w.heap.size]?=some (.cells #[.int .i64 most] 3 (0,0))
 below:Below w.heap.size w W
 size:W0.heap.size≤W.heap.size
theorem Sta.own {most:Int} {B0:Nat} {w W0:World} (hB:w.heap.size≤B0) (hB2:w.heap.size + 2≤B0) {pre:List S52} {A B:World} {row:Option Nat} (h:Sta most B0 w W0 pre A) (hg:A.grownBy B row)
  (hr:∀ k,row=some k → W0.heap.size≤k∧∃ o:Obj,A.heap[k]?=some o∧o.isCells=false) (hW0:w.heap.size + 2≤W0.heap.size):Sta most B0 w W0 pre B:=by
 obtain ⟨⟨v,hv,ho⟩,hm,hb,hs⟩:=h
 exact ⟨⟨v,(hg.block _ (Array.getElem?_eq_some_iff.1 hv).1 (fun e=>by have:=(hr _ e.symm).1;omega)).trans hv,own_abide ho hg (fun r e=>(hr r e).2)⟩,(hg.block _ (Array.getElem?_eq_some_iff.1 hm).1 (fun e=>by have:=(hr _ e.symm).1;omega)).trans hm,
  hb.grown hg hb.size (fun q e=>by have:=(hr q e).1;omega),Nat.le_trans hs hg.size⟩
set_option maxRecDepth 100000 in
set_option maxHeartbeats 4000000 in
theorem told_in (l:List S52) (hl:l.length < 100000) (A:Option Addr) (c:Nat) (Bs:Nat) (most:Int) (w:World) (hBs:w.heap[Bs]?=some (.cells #[.slice A l.length c] 49 (0,0))) (hC:Kd.C k52 w A l.length l) (hlc:l.length≤c) (hA:∀ ad,A=some ad → ad.block < w.heap.size) :
  CallsIn Fence.wide 3 Try.prog 12 #[.func (.func 36) #[] #[.pointer (some ⟨Bs,0,none⟩)],.int .i64 most] w fun e w'=>∃ v0_:Value,e=.returned v0_∧Kd.R k36 36 w' w.heap.size (fun _=>True) v0_ ((l.take most.toNat).map conv)∧Below w.heap.size w w':=by
 have hBl:Bs < w.heap.size:=(Array.getElem?_eq_some_iff.1 hBs).1
 refine callsIn_of_wp_marks Try.func12 rfl (by trivial) ?_ rfl
 simp only [Try.ntmps12,List.size_toArray,List.length_cons,List.length_nil,Nat.reduceAdd,Nat.reduceSub,Array.replicate_succ,Array.replicate_zero,List.push_toArray,List.append_toArray,List.nil_append,List.cons_append]
 have hu30:=Try.underlying30
 have heq:=fun W=>run_eql_func_nil (P:=Try.prog) W Try.underlying33 (.func 36) #[] #[.pointer (some ⟨Bs,0,none⟩)]
 gi_wp2
 have hz0:(w.alloc (.cells #[.int .i64 most] 3 (0,0))).heap.size=w.heap.size + 1:=by simp [World.size_alloc]
 have hS0:((w.alloc (.cells #[.int .i64 most] 3 (0,0))).alloc (.cells #[.slice none 0 0] 30 (0,0))).heap.size=w.heap.size + 2:=by simp [World.size_alloc]
 have hM0:((w.alloc (.cells #[.int .i64 most] 3 (0,0))).alloc (.cells #[.slice none 0 0] 30 (0,0))).heap[w.heap.size]?=some (.cells #[.int .i64 most] 3 (0,0)):=zbA (World.alloc_heap_new w _) _
 have hL0:((w.alloc (.cells #[.int .i64 most] 3 (0,0))).alloc (.cells #[.slice none 0 0] 30 (0,0))).heap[w.heap.size + 1]?=some (.cells #[.slice none 0 0] 30 (0,0)):=by
  have h1:=World.alloc_heap_new (w.alloc (.cells #[.int .i64 most] 3 (0,0))) (.cells #[.slice none 0 0] 30 (0,0))
  rwa [hz0] at h1
 have hW0:Below w.heap.size w ((w.alloc (.cells #[.int .i64 most] 3 (0,0))).alloc (.cells #[.slice none 0 0] 30 (0,0))):=zlA (zlA (Below.refl _ _) _) _
 have hB0:=zbA (zbA hBs (.cells #[.int .i64 most] 3 (0,0))) (.cells #[.slice none 0 0] 30 (0,0))
 have hC0:=Kd.C_alloc (Kd.C_alloc hC (.cells #[.int .i64 most] 3 (0,0))) (.cells #[.slice none 0 0] 30 (0,0))
 generalize ((w.alloc (.cells #[.int .i64 most] 3 (0,0))).alloc (.cells #[.slice none 0 0] 30 (0,0)))=W0 at hS0 hM0 hL0 hW0 hB0 hC0 ⊢
 clear hz0 heq
 have hKp:∀ {W W':World},Below w.heap.size W W' → Kp Bs A W W':=fun h=>⟨h.block _ hBl,fun ad e=>h.block _ (hA ad e)⟩
 obtain ⟨i0,hi,hzz⟩:=Option.map_eq_some_iff.1 info36
 simp only [Prod.mk.injEq] at hzz
 obtain ⟨hz1,hz2,hz3⟩:=hzz
 refine wpIn_rangeFunc_ownH (F:=Fence.wide) rfl (by decide) (gf:=36) (lb:=#[.pointer (some ⟨Bs,0,none⟩)]) rfl (by trivial) (enters_of Try.func36 (by kernel_rfl) rfl) (all_stops l A c Bs W0 hB0 hC0 hlc (fun ad e=>by have:=hA ad e;omega) 2 (by decide))
  (fun h1 h2=>⟨h2.1.trans h1.1,fun ad e=>(h2.2 ad e).trans (h1.2 ad e)⟩) (fun W q o o' hl ho hc _=>⟨World.putObj_heap_other (by omega),fun ad e=>World.putObj_heap_other (by have:=hA ad e;omega)⟩) (Below.refl _ _) (fun _=>rfl)
  (fun pre W=>Sta most (w.heap.size + 2) w W0 pre W∧pre.length≤most.toNat)
  (fun cd pre W=>(cd=.exit 0∧most.toNat≤pre.length)∧Sta most (w.heap.size + 2) w W0 pre W)
  (fun s A B row hs hg' hr=>⟨hs.1.own (by omega) (Nat.le_refl _) hg' hr (by omega),hs.2⟩)
  (fun _ s A B row hs hg' hr=>⟨hs.1,hs.2.own (by omega) (Nat.le_refl _) hg' hr (by omega)⟩)
  ⟨⟨⟨_,hL0,by simpa [flat] using World.ownsRow_nil _ _ _ _⟩,hM0,hW0,Nat.le_refl _⟩,Nat.zero_le _⟩
  (fun x a' W=>a'={ tmps:=#[.func (.func 36) #[] #[.pointer (some ⟨Bs,0,none⟩)],.int .i64 most,undef,.pointer (some ⟨w.heap.size,0,none⟩),.slice none 0 0,.pointer (some ⟨w.heap.size + 1,0,none⟩),.int .i64 x.f0,.int .i64 x.f1,.func (.func 36) #[] #[.pointer (some ⟨Bs,0,none⟩)],.bool false,.func (.func 36) #[] #[.pointer (some ⟨Bs,0,none⟩)],.int .i64 x.f0,.int .i64 x.f1,undef,undef,undef,undef,undef,undef,undef,undef,undef,undef,undef],defers:=[] })
  (fun x a' s A B row hs hg' hr=>hs)
  ?assign ?body ?done ?stop
 case assign =>
  intro L pre x W K hI hK
  gi_wp2
  exact hK _ _ (KeepsFrom.refl _ _) (hKp (Below.refl _ _)) hI rfl
 case body =>
  rintro L pre x a' W hL hLr ⟨⟨⟨v,hv,ho⟩,hm,hb,hs⟩,hpl⟩ rfl hlen
  have htk:pre.take most.toNat=pre:=List.take_of_length_le hpl
  rw [htk] at ho
  obtain ⟨A',c',hvv,_⟩:=Kd.R_reads (R_of_flat ho)
  rw [List.length_map] at hvv ho
  subst hvv
  have hc3:W.cell? ⟨w.heap.size,0,none⟩=some (.int .i64 most):=(blk_cell hm 0).trans rfl
  have hc5:W.cell? ⟨w.heap.size + 1,0,none⟩=some (.slice A' pre.length c'):=(blk_cell hv 0).trans rfl
  have hf5:=blk_frozen hv 0
  by_cases hge:most≤(pre.length:Int)
  ·gi_wp2
   have e:pre.length=most.toNat:=by omega
   refine ⟨KeepsFrom.refl _ _,⟨rfl,by rw [List.length_append];omega⟩,⟨_,hv,?_⟩,hm,hb,hs⟩
   rw [List.take_append_of_le_length (by omega),htk,List.length_map]
   exact ho
  ·have hnew:∀ j u,[Value.int .i64 x.f0,.int .i64 x.f1][j]?=some u → (W.alloc (.cells #[.int .i64 x.f0,.int .i64 x.f1] 36 (0,0))).cell? ((⟨W.heap.size,0,none⟩:Addr).add j)=some u:=fun j u hj=>by
    rw [Addr.add_lit,Nat.zero_add,blk_cell (World.alloc_heap_new W _) j]
    simpa using hj
   have hLl:=(Array.getElem?_eq_some_iff.1 hv).1
   have hMl:=(Array.getElem?_eq_some_iff.1 hm).1
   have hne:∀ {j:Nat},j < w.heap.size + 2 → some j≠(Value.slice A' pre.length c').ownBlock:=fun {j} hj e=>by
    have:=(ho.lt _ e.symm).1
    omega
   gi_wp2_with (gi_at_builtin;refine wpListIn_append_own _ rfl _ _ 30 rfl (w.heap.size + 2) 36 i0 (.agg #[.int .i64 0,.int .i64 0]) 2 16 Try.underlying30 hi hz1 hz2 hz3 rfl (by decide) _ _ _ rfl (ho.alloc _) ⟨W.heap.size,0,none⟩ 1 1 [.int .i64 x.f0,.int .i64 x.f1] rfl rfl hnew (by intro u hu;simp at hu;rcases hu with rfl|rfl <;> rfl) (by simp [maxLen];omega) (by omega) (by have:=hs;simp [World.size_alloc];omega) ?_;intro v' w3 hown' hg3 _;obtain ⟨A2,c2,rfl⟩:=own_slice hown';have hv3:w3.heap[w.heap.size + 1]?=some (.cells #[.slice A' pre.length c'] 30 (0,0)):=(hg3.block _ (by rw [World.size_alloc];omega) (hne (by omega))).trans (zbA hv _);have hc6:w3.cell? ⟨w.heap.size + 1,0,none⟩=some (.slice A' pre.length c'):=(blk_cell hv3 0).trans rfl;have hf6:=blk_frozen hv3 0)
   have hwl:w.heap.size + 2≤W.heap.size:=by omega
   have hB4:∀ X,Below w.heap.size X W → Below w.heap.size X (w3.setCell ⟨w.heap.size + 1,0,none⟩ (.slice A2 (pre.length + 1) c2)):=fun X h =>
    Below.setCell ((h.alloc (by omega) _).grown hg3 (by rw [World.size_alloc];omega) (fun k e=>by have:=(ho.lt _ e).1;omega)) (show w.heap.size≤w.heap.size + 1 by omega) _
   have hko:KeepsOthers W (w3.setCell ⟨w.heap.size + 1,0,none⟩ (.slice A2 (pre.length + 1) c2)):=by
    refine ((KeepsOthers.alloc W _).trans (KeepsOthers.of_grownBy hg3 (fun j o hj hjo=>?_))).trans (KeepsOthers.setCell _ _ _)
    obtain ⟨cells,hcs⟩:=own_typed ho j hj
    rw [zbA hcs _] at hjo
    cases hjo
    rfl
   have htk2:(pre ++ [x]).take most.toNat=pre ++ [x]:=List.take_of_length_le (by rw [List.length_append,List.length_singleton];omega)
   refine ⟨hko.from _,hKp (hB4 _ (Below.refl _ _)),⟨⟨_,blk_put hv3 0 _ rfl,?_⟩,?_,hB4 _ hb,Nat.le_trans hs hko.size⟩,by rw [List.length_append,List.length_singleton];omega⟩
   ·rw [htk2,List.map_append,List.map_singleton,flat_snoc,List.length_append,List.length_map,List.length_singleton]
    refine own_move hown' (fun k hk=>?_)
    exact Below.heap_setCell _ _ _ _ (fun e=>by have:=(hown'.lt _ hk).1;have e2:k=w.heap.size + 1:=e;omega)
   ·refine (Below.heap_setCell _ _ _ _ (show w.heap.size≠w.heap.size + 1 by omega)).trans ?_
    exact (hg3.block _ (by rw [World.size_alloc];omega) (hne (by omega))).trans (zbA hm _)
 case done =>
  rintro D xs W hD rfl ⟨⟨⟨v,hv,ho⟩,hm,hb,hs⟩,hpl⟩ hK
  have hc5:W.cell? ⟨w.heap.size + 1,0,none⟩=some v:=(blk_cell hv 0).trans rfl
  gi_wp2
  refine ⟨by simp,.inl ⟨_,_,rfl,run_takeDeferred hK,?_⟩⟩
  exact ⟨_,results_tmp rfl _ _ _,_,rfl,Kd.R_lower (R_of_flat (own_abide ho (grownBy_putObj' W D _) (fun r e=>by cases e;exact ⟨_,hK,rfl⟩))) (show w.heap.size≤w.heap.size + 2 by omega),hb.grown (grownBy_putObj' W D _) hb.size (fun q e=>by cases e;omega)⟩
 case stop =>
  rintro D cd pre W hD ⟨q,rfl⟩ ⟨⟨rfl,hpq⟩,⟨v,hv,ho⟩,hm,hb,hs⟩ hK
  have hc5:W.cell? ⟨w.heap.size + 1,0,none⟩=some v:=(blk_cell hv 0).trans rfl
  have htq:(l.take q).take most.toNat=l.take most.toNat:=by
   rw [List.take_take]
   rw [List.length_take] at hpq
   by_cases h:most.toNat≤q
   ·rw [Nat.min_eq_left h]
   ·omega
  rw [htq] at ho
  gi_wp2
  refine ⟨by simp,.inl ⟨_,_,rfl,run_takeDeferred hK,?_⟩⟩
  exact ⟨_,results_tmp rfl _ _ _,_,rfl,Kd.R_lower (R_of_flat (own_abide ho (grownBy_putObj' W D _) (fun r e=>by cases e;exact ⟨_,hK,rfl⟩))) (show w.heap.size≤w.heap.size + 2 by omega),hb.grown (grownBy_putObj' W D _) hb.size (fun q e=>by cases e;omega)⟩
end ToldIt
end
def slipwaylaw12_told.f (k:Nat) (l0:List Int) (a1:Int) (a2:Int):Option (List S36):=(bitmap_pieces.f k l0 a1).bind fun l=>if l.length < 100000 then some ((l.take a2.toNat).map ToldIt.conv) else none
structure slipwaylaw12_told.Facts (Bs:Nat) (a2:Int) (r:List S36) (w w1:World):Prop where
 out:∃ (l:List S52) (A:Option Addr) (c:Nat),l.length < 100000∧r=(l.take a2.toNat).map ToldIt.conv∧w1.heap[Bs]?=some (.cells #[.slice A l.length c] 49 (0,0))∧Kd.C k52 w1 A l.length l∧l.length≤c∧(∀ ad,A=some ad → ad.block < w1.heap.size)∧Below w.heap.size w w1
theorem slipwaylaw12_told.runs (k:Nat) (A0:Option Addr) (c0:Nat) (l0:List Int) (a1:Int) (a2:Int) (r:List S36) (w:World) (hr0:Kd.C (Kd.int .u8) w A0 l0.length l0) (hc0:l0.length≤c0) (h:slipwaylaw12_told.f k l0 a1 a2=some r) :
  Calls Try.prog 13 #[.slice A0 l0.length c0,.int .i64 a1] w fun e w1=>∃ Bs:Nat,e=.returned (.func (.func 36) #[] #[.pointer (some ⟨Bs,0,none⟩)])∧slipwaylaw12_told.Facts Bs a2 r w w1:=by
 unfold slipwaylaw12_told.f at h
 obtain ⟨l,hp,h⟩:=Option.bind_eq_some_iff.mp h
 by_cases c:l.length < 100000
 ·rw [if_pos c] at h
  cases h
  refine (callsIn_wide.mp (RunsIt.runs_in k A0 c0 l0 a1 l w hr0 hc0 hp 1 (Nat.le_refl _))).mono ?_
  rintro e w1 ⟨Bs,A,cc,rfl,hBs,hC,hlc,hA,_,hb⟩
  exact ⟨Bs,rfl,⟨l,A,cc,c,rfl,hBs,hC,hlc,fun ad e=>(hA ad e).2,hb⟩⟩
 ·rw [if_neg c] at h
  cases h
theorem slipwaylaw12_told.calls (Bs:Nat) (a2:Int) (r:List S36) (w w1:World) (h:slipwaylaw12_told.Facts Bs a2 r w w1) :
  Calls Try.prog 12 #[.func (.func 36) #[] #[.pointer (some ⟨Bs,0,none⟩)],.int .i64 a2] w1 fun e w'=>∃ v0_:Value,e=.returned v0_∧Kd.R k36 36 w' w.heap.size (fun _=>True) v0_ r∧Below w.heap.size w w':=by
 obtain ⟨l,A,c,hl,rfl,hBs,hC,hlc,hA,hb⟩:=h.out
 refine (callsIn_wide.mp (ToldIt.told_in l hl A c Bs a2 w1 hBs hC hlc hA)).mono ?_
 rintro e w' ⟨v,rfl,hR,hb2⟩
 exact ⟨v,rfl,Kd.R_lower hR hb.size,hb.trans (hb2.mono hb.size)⟩
end Go.Proofs.Ytllodfjbenmlpaa.Print
end
section
namespace Go.Proofs.Ytllodfjbenmlpaa.Print
open Go.RowKit Go.Proofs.YtllodfjbenmlpaaW.PrintWords Go.Proofs.YtllodfjbenmlpaaW.PrintLast Go.Proofs.YtllodfjbenmlpaaW.PrintMore
attribute [local go_sem] max2_int min2_int max_two min_two max_three min_three max_four min_four   -- for this text's walks alone
attribute [local go_sem ↓] Go.Proofs.Ytllodfjbenmlpaa.Sem.isSome_setCell
attribute [local go_sem] Go.Instr.field Go.asAgg
set_option linter.unusedVariables false
set_option linter.unusedSimpArgs false
def slipwayref12_bit.f (l0:List Int) (a1:Int):Option (Bool):=if 0≤(wrap64 (Int.tdiv a1 8)) then (if (wrap64 (Int.tdiv a1 8)) < (l0.length:Int) then (if 0≤(IntKind.u64.wrap (Int.tmod a1 8)) then (some ((Int.tmod (shr .u8 (rd l0 (wrap64 (Int.tdiv a1 8))) (IntKind.u64.wrap (Int.tmod a1 8))) 2) == 1)) else (none)) else (none)) else (none)
set_option maxHeartbeats 8000000 in
set_option maxRecDepth 100000 in
theorem slipwayref12_bit.calls (A0:Option Addr) (c0:Nat) (l0:List Int) (a1:Int) (r:Bool) (w:World) (hr0:Kd.C (Kd.int .u8) w A0 l0.length l0) (hc0:l0.length≤c0) (h:slipwayref12_bit.f l0 a1=some r) :
  Calls Try.prog 39 #[.slice A0 l0.length c0,.int .i64 a1] w fun e w'=>e=.returned (.bool r)∧Drawn0 w w':=by
 have HR0:=zm hr0
 have HC0:=zm hc0
 clear hr0 hc0
 have H:(if 0≤(wrap64 (Int.tdiv a1 8)) then (if (wrap64 (Int.tdiv a1 8)) < (l0.length:Int) then (if 0≤(IntKind.u64.wrap (Int.tmod a1 8)) then (some ((Int.tmod (shr .u8 (rd l0 (wrap64 (Int.tdiv a1 8))) (IntKind.u64.wrap (Int.tmod a1 8))) 2) == 1)) else (none)) else (none)) else (none))=some r:=h
 clear h
 obtain ⟨ji3,hji3⟩:∃ j_:Int,(wrap64 (Int.tdiv a1 8))=j_:=⟨_,rfl⟩
 replace H:(if 0≤(ji3) then (if (ji3) < (l0.length:Int) then (if 0≤(IntKind.u64.wrap (Int.tmod a1 8)) then (some ((Int.tmod (shr .u8 (rd l0 (ji3)) (IntKind.u64.wrap (Int.tmod a1 8))) 2) == 1)) else (none)) else (none)) else (none))=some r:=by first|(rw [hji3] at H;exact H)|(simp only [hji3] at H ⊢;exact H)
 have hji3w:(IntKind.i64.wrap (Int.tdiv a1 8))=ji3:=(i64_w _).trans hji3
 by_cases c4:0≤(ji3)
 ·rw [if_pos c4] at H
  have c4b0:decide (0≤(ji3))=true:=decide_eq_true c4
  clear c4
  by_cases c5:(ji3) < (l0.length:Int)
  ·rw [if_pos c5] at H
   have c5b0:decide ((ji3) < (l0.length:Int))=true:=decide_eq_true c5
   clear c5
   obtain ⟨ji6,hji6⟩:∃ j_:Int,(IntKind.u64.wrap (Int.tmod a1 8))=j_:=⟨_,rfl⟩
   replace H:(if 0≤(ji6) then (some ((Int.tmod (shr .u8 (rd l0 (ji3)) (ji6)) 2) == 1)) else (none))=some r:=by first|(rw [hji6] at H;exact H)|(simp only [hji6] at H ⊢;exact H)
   by_cases c7:0≤(ji6)
   ·rw [if_pos c7] at H
    have c7b0:=eq_true c7
    have c7b1:decide (0≤(ji6))=true:=decide_eq_true c7
    clear c7
    obtain ⟨ji8,hji8⟩:∃ j_:Int,(shr .u8 (rd l0 (ji3)) (ji6))=j_:=⟨_,rfl⟩
    replace H:(some ((Int.tmod (ji8) 2) == 1))=some r:=by first|(rw [hji8] at H;exact H)|(simp only [hji8] at H ⊢;exact H)
    have hji8_:((rd l0 (ji3)) / 2 ^ min (ji6).toNat 8)=ji8:=hji8
    have hji8z:(ji6)≤8 → ((rd l0 (ji3)) / 2 ^ (ji6).toNat)=ji8:=shr_small hji8
    obtain rfl:=Option.some.inj H
    have p196:0≤((ji3):Int):=of_decide_eq_true (by first|(with_reducible assumption)|assumption)
    have q196:(ji3) < (l0.length:Int):=of_decide_eq_true (by first|(with_reducible assumption)|assumption)
    obtain ⟨ad196,e196,hx196_0⟩:=Kd.at_int HR0.out (ji3) p196 q196
    cases e196
    replace p196:=eq_true p196
    replace q196:=eq_true q196
    go_enter Try.func39,Try.ntmps39
    go_wp2
    go_ret
    exact ⟨by first|rfl|(simp;done)|(simp only [← hji3,← hji6,← hji8] <;> (first|rfl|simp))|(simp [*];done),by repeat (first|exact Drawn0.refl _|apply Drawn0.step)⟩
   ·rw [if_neg c7] at H
    exact absurd H (by simp)
  ·rw [if_neg c5] at H
   exact absurd H (by simp)
 ·rw [if_neg c4] at H
  exact absurd H (by simp)
end Go.Proofs.Ytllodfjbenmlpaa.Print
end
section
namespace Go.Proofs.Ytllodfjbenmlpaa.Print
open Go.RowKit Go.Proofs.YtllodfjbenmlpaaW.PrintWords Go.Proofs.YtllodfjbenmlpaaW.PrintLast Go.Proofs.YtllodfjbenmlpaaW.PrintMore
attribute [local go_sem] max2_int min2_int max_two min_two max_three min_three max_four min_four   -- for this text's walks alone
attribute [local go_sem ↓] Go.Proofs.Ytllodfjbenmlpaa.Sem.isSome_setCell
attribute [local go_sem] Go.Instr.field Go.asAgg
set_option linter.unusedVariables false
set_option linter.unusedSimpArgs false
mutual
def slipwayref12_Check.j0:Nat → List Int → Int → Bool → Option (Int)
 | 0,_,_,_=>none
 | k + 1,x0,x1,x16=>if x16=true then (some 120) else (slipwayref12_Check.l0 k x0 x1)
def slipwayref12_Check.l0:Nat → List Int → Int → Option (Int)
 | 0,_,_=>none
 | k + 1,x0,x5=>if x5 < 2048 then ((slipwayref12_bit.f x0 x5).bind fun t197=>(if t197=true then (slipwayref12_Check.l0 k x0 (wrap64 (x5 + 1))) else (some 120))) else (some 0)
end
def slipwayref12_Check.f (k:Nat) (l0:List Int) (a1:Int):Option (Int):=if a1 < 0 then (slipwayref12_Check.j0 k l0 a1 true) else (if a1 > 2048 then (slipwayref12_Check.j0 k l0 a1 true) else (slipwayref12_Check.j0 k l0 a1 ((l0.length:Int) != 256)))
set_option maxHeartbeats 8000000 in
set_option maxRecDepth 100000 in
theorem slipwayref12_Check.calls (k:Nat) (A0:Option Addr) (c0:Nat) (l0:List Int) (a1:Int) (r:Int) (w:World) (hr0:Kd.C (Kd.int .u8) w A0 l0.length l0) (hc0:l0.length≤c0) (h:slipwayref12_Check.f k l0 a1=some r) :
  Calls Try.prog 17 #[.slice A0 l0.length c0,.int .i64 a1] w fun e w'=>e=.returned (.int .i64 r)∧Drawn0 w w':=by
 have HR0:=zm hr0
 have HC0:=zm hc0
 clear hr0 hc0
 have H:(if a1 < 0 then (slipwayref12_Check.j0 k l0 a1 true) else (if a1 > 2048 then (slipwayref12_Check.j0 k l0 a1 true) else (slipwayref12_Check.j0 k l0 a1 ((l0.length:Int) != 256))))=some r:=h
 clear h
 have HC3:=zm H
 clear H
 go_enter Try.func17,Try.ntmps17
 go_upto_region 1 with (fail)
 go_cut [16] (fun v16 wc=>∃ (kq:Nat) (x16_2:Bool),v16=.bool x16_2∧Aside0 (slipwayref12_Check.j0 kq l0 a1 x16_2=some r)∧Aside0 (kq≤k)∧Drawn0 w wc)
 case first =>
  have H:=HC3.out
  clear HC3
  by_cases c4:a1 < 0
  ·rw [if_pos c4] at H
   have c4b0:decide (a1 < 0)=true:=decide_eq_true c4
   clear c4
   (first|rw [c4b0]|(simp only [i64_w,i32_w];rw [c4b0])|skip)
   have H':=zm H
   clear H
   go_wp2
   go_meet
   case rel=>exact ⟨_,(true),(by first|rfl|(simp;done)|(simp [*];done)),H',⟨by first|omega|exact Nat.le_refl _⟩,by repeat (first|exact Drawn0.refl _|apply Drawn0.step)⟩
  ·rw [if_neg c4] at H
   have c4b0:decide (a1 < 0)=false:=decide_eq_false c4
   clear c4
   (first|rw [c4b0]|(simp only [i64_w,i32_w];rw [c4b0])|skip)
   by_cases c5:a1 > 2048
   ·rw [if_pos c5] at H
    have c5b0:decide (2048 < a1)=true:=decide_eq_true c5
    clear c5
    have H':=zm H
    clear H
    go_wp2
    go_meet
    case rel=>exact ⟨_,(true),(by first|rfl|(simp;done)|(simp [*];done)),H',⟨by first|omega|exact Nat.le_refl _⟩,by repeat (first|exact Drawn0.refl _|apply Drawn0.step)⟩
   ·rw [if_neg c5] at H
    have c5b0:decide (2048 < a1)=false:=decide_eq_false c5
    clear c5
    have H':=zm H
    clear H
    go_wp2
    go_meet
    case rel=>exact ⟨_,(((l0.length:Int) != 256)),(by first|rfl|(simp;done)|(simp [*];done)),H',⟨by first|omega|exact Nat.le_refl _⟩,by repeat (first|exact Drawn0.refl _|apply Drawn0.step)⟩
 case rest =>
  clear HC3
  try clear c1
  try clear p2
  try clear c4
  try clear c4b0
  try clear c5
  try clear c5b0
  obtain ⟨kq,x16_2,rfl,HA,HJ2,⟨mc2,rfl⟩⟩:=hcut
  cases kq with
  | zero=>exact absurd HA.out (by simp [slipwayref12_Check.j0])
  | succ kj2 =>
   have H:=HA.out
   clear HA
   simp only [slipwayref12_Check.j0] at H
   by_cases c6:x16_2=true
   ·subst c6
    have H1:(some 120)=some r:=by rw [if_pos rfl] at H;exact H
    clear H
    have H:=H1
    clear H1
    obtain rfl:=Option.some.inj H
    go_wp2
    go_ret
    exact ⟨by first|rfl|(simp;done)|(simp [*];done),by repeat (first|exact Drawn0.refl _|apply Drawn0.step)⟩
   ·replace c6:=Bool.eq_false_iff.mpr c6
    subst c6
    have H1:(slipwayref12_Check.l0 kj2 l0 a1)=some r:=by rw [if_neg (show ¬ (false=true) by decide)] at H;exact H
    clear H
    have H:=H1
    clear H1
    have H':=zm H
    clear H
    go_wp2
    go_loopg [5] kj2 (fun kq v5 w'=>∃ (x5_2:Int),v5=.int .i64 x5_2∧Aside0 (slipwayref12_Check.l0 kq l0 x5_2=some r)∧Aside0 (kq≤kj2)∧Drawn0 w w')
    case atStart=>exact ⟨(a1),(by first|rfl|(simp;done)|(simp [*];done)),H',⟨Nat.le_refl _⟩,by repeat (first|exact Drawn0.refl _|apply Drawn0.step)⟩
    case round =>
     clear H'
     try clear c1
     try clear c2
     try clear p2
     try clear c4
     try clear c4b0
     try clear c5
     try clear c5b0
     try clear c6
     try clear p2
     obtain ⟨x5_2,rfl,HA,HK2,⟨m2,rfl⟩⟩:=hrel
     cases gk with
     | zero=>exact absurd HA.out (by simp [slipwayref12_Check.l0])
     | succ k2 =>
      have H:=HA.out
      clear HA
      simp only [slipwayref12_Check.l0] at H
      by_cases c7:x5_2 < 2048
      ·rw [if_pos c7] at H
       have c7b0:decide (x5_2 < 2048)=true:=decide_eq_true c7
       clear c7
       replace H:=Option.bind_eq_some_iff.mp H
       obtain ⟨t197,A80,H⟩:=H
       replace H:(if t197=true then (slipwayref12_Check.l0 k2 l0 (wrap64 (x5_2 + 1))) else (some 120))=some r:=H
       have A8:=zm A80
       clear A80
       by_cases c9:t197=true
       ·subst c9
        have H1:(slipwayref12_Check.l0 k2 l0 (wrap64 (x5_2 + 1)))=some r:=by rw [if_pos rfl] at H;exact H
        clear H
        have H:=H1
        clear H1
        have H':=zm H
        clear H
        go_wp2_with (first|((with_reducible refine gate_callee (f:=39) rfl ?_);refine goesL_ (some 24) rfl rfl Try.func39 (by kernel_rfl) rfl #[.slice A0 l0.length c0,.int .i64 x5_2] rfl (by (try simp only [List.map_toArray,List.map_cons,List.map_nil]);first|done|rfl|(simp only [List.length_drop,List.length_take];rfl)) ?_;(with_reducible refine (slipwayref12_bit.calls _ _ l0 x5_2 true _ ?side1 ?side2 A8.out).mono ?_);(case side1=>repeat (first|exact HR0.out|(with_reducible refine Kd.C_alloc ?_ _)|(with_reducible refine Kd.C_drewN ?_ _)|(with_reducible refine Kd.C_drew ?_)));(case side2=>exact HC0.out);rintro e w' ⟨rfl,⟨nd,rfl⟩⟩;refine ⟨_,rfl,?_⟩))
        go_roundg k2
        case measure=>have:=HJ2.out;have:=HK2.out;omega
        case rel=>exact ⟨(wrap64 (x5_2 + 1)),(by first|rfl|(simp;done)|(simp [*];done)),H',⟨by have:=HJ2.out;have:=HK2.out;omega⟩,by repeat (first|exact Drawn0.refl _|apply Drawn0.step)⟩
       ·replace c9:=Bool.eq_false_iff.mpr c9
        subst c9
        have H1:(some 120)=some r:=by rw [if_neg (show ¬ (false=true) by decide)] at H;exact H
        clear H
        have H:=H1
        clear H1
        obtain rfl:=Option.some.inj H
        go_wp2_with (first|((with_reducible refine gate_callee (f:=39) rfl ?_);refine goesL_ (some 24) rfl rfl Try.func39 (by kernel_rfl) rfl #[.slice A0 l0.length c0,.int .i64 x5_2] rfl (by (try simp only [List.map_toArray,List.map_cons,List.map_nil]);first|done|rfl|(simp only [List.length_drop,List.length_take];rfl)) ?_;(with_reducible refine (slipwayref12_bit.calls _ _ l0 x5_2 false _ ?side1 ?side2 A8.out).mono ?_);(case side1=>repeat (first|exact HR0.out|(with_reducible refine Kd.C_alloc ?_ _)|(with_reducible refine Kd.C_drewN ?_ _)|(with_reducible refine Kd.C_drew ?_)));(case side2=>exact HC0.out);rintro e w' ⟨rfl,⟨nd,rfl⟩⟩;refine ⟨_,rfl,?_⟩))
        go_ret
        exact ⟨by first|rfl|(simp;done)|(simp [*];done),by repeat (first|exact Drawn0.refl _|apply Drawn0.step)⟩
      ·rw [if_neg c7] at H
       have c7b0:decide (x5_2 < 2048)=false:=decide_eq_false c7
       clear c7
       obtain rfl:=Option.some.inj H
       go_wp2
       go_ret
       exact ⟨by first|rfl|(simp;done)|(simp [*];done),by repeat (first|exact Drawn0.refl _|apply Drawn0.step)⟩
set_option maxHeartbeats 8000000 in
set_option maxRecDepth 100000 in
theorem slipwayref12_may.ok (k:Nat) (A0:Option Addr) (c0:Nat) (l0:List Int) (a1:Int) (w:World) (hr0:Kd.C (Kd.int .u8) w A0 l0.length l0) (hc0:l0.length≤c0) (h:slipwayref12_Check.f k l0 a1=some 0) :
  Calls Try.prog 40 #[.slice A0 l0.length c0,.int .i64 a1] w fun e w'=>e=.returned (.tuple #[.slice A0 l0.length c0,.int .i64 a1])∧Drawn0 w w':=by
 go_enter Try.func40,Try.ntmps40
 go_wp2_with (first|((with_reducible refine gate_callee (f:=17) rfl ?_);refine goesL_ (some 8) rfl rfl Try.func17 (by kernel_rfl) rfl #[.slice A0 l0.length c0,.int .i64 a1] rfl (by (try simp only [List.map_toArray,List.map_cons,List.map_nil]);first|done|rfl|(simp only [List.length_drop,List.length_take];rfl)) ?_;(with_reducible refine (slipwayref12_Check.calls k _ _ l0 a1 0 _ hr0 hc0 h).mono ?_);rintro e w' ⟨rfl,⟨nd,rfl⟩⟩;refine ⟨_,rfl,?_⟩))
 go_ret2
 exact ⟨rfl,⟨_,rfl⟩⟩
set_option maxHeartbeats 8000000 in
set_option maxRecDepth 100000 in
theorem slipwayref12_may.no (k:Nat) (A0:Option Addr) (c0:Nat) (l0:List Int) (a1 t:Int) (w:World) (hr0:Kd.C (Kd.int .u8) w A0 l0.length l0) (hc0:l0.length≤c0) (h:slipwayref12_Check.f k l0 a1=some t) (ht:¬ t=0) :
  Calls Try.prog 40 #[.slice A0 l0.length c0,.int .i64 a1] w fun e w'=>∃ g:Nat,e=.returned (.tuple #[.slice (some ⟨g,0,none⟩) 0 0,.int .i64 0])∧Below w.heap.size w w':=by
 obtain ⟨i0,hi0,hzz⟩:=Option.map_eq_some_iff.1 info5
 simp only [Prod.mk.injEq] at hzz
 obtain ⟨hz,hsz,hby⟩:=hzz
 have ht1:(t == 0)=false:=beq_eq_false_iff_ne.mpr ht
 have ht2:(t != 0)=true:=bne_iff_ne.mpr ht
 go_enter Try.func40,Try.ntmps40
 go_wp2_with (first|((with_reducible refine gate_callee (f:=17) rfl ?_);refine goesL_ (some 8) rfl rfl Try.func17 (by kernel_rfl) rfl #[.slice A0 l0.length c0,.int .i64 a1] rfl (by (try simp only [List.map_toArray,List.map_cons,List.map_nil]);first|done|rfl|(simp only [List.length_drop,List.length_take];rfl)) ?_;(with_reducible refine (slipwayref12_Check.calls k _ _ l0 a1 t _ hr0 hc0 h).mono ?_);rintro e w' ⟨rfl,⟨nd,rfl⟩⟩;refine ⟨_,rfl,?_⟩)|((with_reducible refine gate_dst (N:=10) rfl ?_);refine wpList_make_row _ rfl _ _ 22 rfl 5 i0 (.int .u8 0) Try.underlying22 hi0 hz hsz rfl .i64 .i64 0 rfl rfl (by rw [hby];omega) (by omega) ?_))
 go_ret2
 exact ⟨(w.drewN nd).heap.size,rfl,zlA (zlN (Below.refl _ _) _) _⟩
end Go.Proofs.Ytllodfjbenmlpaa.Print
end
