/- Texts of the proof of PoolStays, part 14. -/
import Derived.Test.YtlegmnpngcadhaaPoolStaysMA
import Derived.Test.YtlegmnpngcadhaaProg
import Derived.Below
import Derived.Deep.Draws
import Derived.Deep.AppendLies
import Derived.Maps.AppendAt
import Derived.OwnWalk
import Derived.Laws.BytesArg
import Derived.Laws.MakeOwn
import Derived.Laws.OwnMore
import Derived.Deep.OwnRows
import Derived.Tactics
import Derived.Lib.ConvBytes
import Derived.Laws.Slices
import Derived.WalkKit
import Derived.KernelRfl
import Derived.RowKit3
import Derived.Deep.LoopGhost
import Derived.Deep.QuietTactic
import Derived.BigQuiet
import Derived.WideLaws
import Derived.Deep.DeepCutAuto
import Derived.Deep.CutBlock
import Derived.Deep.RegionHeld3
import Derived.Laws.Rows
import Derived.Lib.AppendStr
import Derived.ArgAppend
import Derived.Laws.IdiomCopy
import Derived.OrdersHeld
import Derived.Laws.BitsLemmas
import Derived.RowKit
import Derived.Lib.SliceRun
import Derived.Test.YtlegmnpngcadhaaPoolStaysM1
import Derived.Test.YtlegmnpngcadhaaPoolStaysM10
import Derived.Laws.CopyOwn
import Derived.Test.YtlegmnpngcadhaaPoolStaysM0
import Derived.Deep.RegionLaw
import Derived.Test.YtlegmnpngcadhaaPoolStaysM2
import Derived.Test.YtlegmnpngcadhaaPoolStaysM11
import Derived.Test.YtlegmnpngcadhaaPoolStaysM3
import Derived.Test.YtlegmnpngcadhaaPoolStaysM4
import Derived.Test.YtlegmnpngcadhaaPoolStaysM5
import Derived.Test.YtlegmnpngcadhaaPoolStaysM6
import Derived.Test.YtlegmnpngcadhaaPoolStaysM7
import Derived.Laws.StructEq
import Derived.Test.YtlegmnpngcadhaaPoolStaysM12
import Derived.Test.YtlegmnpngcadhaaPoolStaysM13
import Derived.Test.YtlegmnpngcadhaaPoolStaysM9
import Derived.Test.YtlegmnpngcadhaaPoolStaysM8
section
namespace Go.Proofs.Ytlegmnpngcadhaa.Print
open Go.RowKit Go.Proofs.YtlegmnpngcadhaaW.PrintWords Go.Proofs.YtlegmnpngcadhaaW.PrintLast Go.Proofs.YtlegmnpngcadhaaW.PrintMore
attribute [local go_sem] max2_int min2_int max_two min_two max_three min_three max_four min_four   -- for this text's walks alone
attribute [local go_sem ↓] Go.Proofs.Ytlegmnpngcadhaa.Sem.isSome_setCell
attribute [local go_sem] Go.Instr.field Go.asAgg
set_option linter.unusedVariables false
set_option linter.unusedSimpArgs false
def errW:Option Int → Value
 | none=>.nilIface
 | some c=>.iface 0 (.int .i64 c)
theorem errW_none:errW none=.nilIface:=rfl
theorem errW_some (c:Int):errW (some c)=.iface 0 (.int .i64 c):=rfl
theorem info2:(Try.prog.info? 2).map (fun i=>(i.zero,i.size,i.bytes))=some (some (.int .i64 0),1,8):=by kernel_rfl
theorem info3:(Try.prog.info? 3).map (fun i=>(i.zero,i.size,i.bytes))=some (some (.int .i64 0),1,8):=by kernel_rfl
-- the values' own types
end Go.Proofs.Ytlegmnpngcadhaa.Print
end
section
namespace Go.Proofs.Ytlegmnpngcadhaa.Print
open Go.RowKit Go.Proofs.YtlegmnpngcadhaaW.PrintWords Go.Proofs.YtlegmnpngcadhaaW.PrintLast Go.Proofs.YtlegmnpngcadhaaW.PrintMore
attribute [local go_sem] max2_int min2_int max_two min_two max_three min_three max_four min_four   -- for this text's walks alone
attribute [local go_sem ↓] Go.Proofs.Ytlegmnpngcadhaa.Sem.isSome_setCell
attribute [local go_sem] Go.Instr.field Go.asAgg
set_option linter.unusedVariables false
set_option linter.unusedSimpArgs false
def pool_worn.f (a0:Int):Option (Bool):=if a0 ≥ 0 then (some (decide (a0≤16777215))) else (some false)
set_option maxHeartbeats 8000000 in
set_option maxRecDepth 100000 in
theorem pool_worn.calls (a0:Int) (r:Bool) (w:World) (h:pool_worn.f a0=some r) :
  Calls Try.prog 38 #[.int .i64 a0] w fun e w'=>e=.returned (.bool r)∧Drawn0 w w':=by
 have H:(if a0 ≥ 0 then (some (decide (a0≤16777215))) else (some false))=some r:=h
 clear h
 by_cases c2:a0 ≥ 0
 ·rw [if_pos c2] at H
  have c2b0:decide (0≤a0)=true:=decide_eq_true c2
  clear c2
  obtain rfl:=Option.some.inj H
  go_enter Try.func38,Try.ntmps38
  go_wp2
  go_ret
  exact ⟨by first|rfl|(simp;done)|(simp [*];done),by repeat (first|exact Drawn0.refl _|apply Drawn0.step)⟩
 ·rw [if_neg c2] at H
  have c2b0:decide (0≤a0)=false:=decide_eq_false c2
  clear c2
  obtain rfl:=Option.some.inj H
  go_enter Try.func38,Try.ntmps38
  go_wp2
  go_ret
  exact ⟨by first|rfl|(simp;done)|(simp [*];done),by repeat (first|exact Drawn0.refl _|apply Drawn0.step)⟩
def pool_blocks.f (a0:Int):Option (Bool):=if a0 ≥ 16 then (some (decide (a0≤256))) else (some false)
set_option maxHeartbeats 8000000 in
set_option maxRecDepth 100000 in
theorem pool_blocks.calls (a0:Int) (r:Bool) (w:World) (h:pool_blocks.f a0=some r) :
  Calls Try.prog 35 #[.int .i64 a0] w fun e w'=>e=.returned (.bool r)∧Drawn0 w w':=by
 have H:(if a0 ≥ 16 then (some (decide (a0≤256))) else (some false))=some r:=h
 clear h
 by_cases c2:a0 ≥ 16
 ·rw [if_pos c2] at H
  have c2b0:decide (16≤a0)=true:=decide_eq_true c2
  clear c2
  obtain rfl:=Option.some.inj H
  go_enter Try.func35,Try.ntmps35
  go_wp2
  go_ret
  exact ⟨by first|rfl|(simp;done)|(simp [*];done),by repeat (first|exact Drawn0.refl _|apply Drawn0.step)⟩
 ·rw [if_neg c2] at H
  have c2b0:decide (16≤a0)=false:=decide_eq_false c2
  clear c2
  obtain rfl:=Option.some.inj H
  go_enter Try.func35,Try.ntmps35
  go_wp2
  go_ret
  exact ⟨by first|rfl|(simp;done)|(simp [*];done),by repeat (first|exact Drawn0.refl _|apply Drawn0.step)⟩
def bits_Mul64.f (a0:Int) (a1:Int):Option (Int × Int):=some (IntKind.u64.wrap ((IntKind.u64.wrap ((IntKind.u64.wrap ((a0 / 4294967296) * (a1 / 4294967296))) + ((IntKind.u64.wrap ((IntKind.u64.wrap ((a0 / 4294967296) * (Go.bits .and .u64 a1 4294967295))) + ((IntKind.u64.wrap ((Go.bits .and .u64 a0 4294967295) * (Go.bits .and .u64 a1 4294967295))) / 4294967296))) / 4294967296))) + ((IntKind.u64.wrap ((Go.bits .and .u64 (IntKind.u64.wrap ((IntKind.u64.wrap ((a0 / 4294967296) * (Go.bits .and .u64 a1 4294967295))) + ((IntKind.u64.wrap ((Go.bits .and .u64 a0 4294967295) * (Go.bits .and .u64 a1 4294967295))) / 4294967296))) 4294967295) + (IntKind.u64.wrap ((Go.bits .and .u64 a0 4294967295) * (a1 / 4294967296))))) / 4294967296)),IntKind.u64.wrap (a0 * a1))
set_option maxHeartbeats 8000000 in
set_option maxRecDepth 100000 in
theorem bits_Mul64.calls (a0:Int) (a1:Int) (r1:Int) (r2:Int) (w:World) (h:bits_Mul64.f a0 a1=some (r1,r2)) :
  Calls Try.prog 55 #[.int .u64 a0,.int .u64 a1] w fun e w'=>e=.returned (.tuple #[.int .u64 r1,.int .u64 r2])∧Drawn0 w w':=by
 have H:(some (IntKind.u64.wrap ((IntKind.u64.wrap ((IntKind.u64.wrap ((a0 / 4294967296) * (a1 / 4294967296))) + ((IntKind.u64.wrap ((IntKind.u64.wrap ((a0 / 4294967296) * (Go.bits .and .u64 a1 4294967295))) + ((IntKind.u64.wrap ((Go.bits .and .u64 a0 4294967295) * (Go.bits .and .u64 a1 4294967295))) / 4294967296))) / 4294967296))) + ((IntKind.u64.wrap ((Go.bits .and .u64 (IntKind.u64.wrap ((IntKind.u64.wrap ((a0 / 4294967296) * (Go.bits .and .u64 a1 4294967295))) + ((IntKind.u64.wrap ((Go.bits .and .u64 a0 4294967295) * (Go.bits .and .u64 a1 4294967295))) / 4294967296))) 4294967295) + (IntKind.u64.wrap ((Go.bits .and .u64 a0 4294967295) * (a1 / 4294967296))))) / 4294967296)),IntKind.u64.wrap (a0 * a1)))=some (r1,r2):=h
 clear h
 simp only [Option.some.injEq,Prod.mk.injEq] at H
 obtain ⟨rfl,rfl⟩:=H
 go_enter Try.func55,Try.ntmps55
 go_wp2
 go_ret2
 exact ⟨by first|rfl|(simp;done)|(simp [*];done),by repeat (first|exact Drawn0.refl _|apply Drawn0.step)⟩
def bits_Mul.f (a0:Int) (a1:Int):Option (Int × Int):=(bits_Mul64.f a0 a1).bind fun bt101=>(some (bt101.1,bt101.2))
set_option maxHeartbeats 8000000 in
set_option maxRecDepth 100000 in
theorem bits_Mul.calls (a0:Int) (a1:Int) (r1:Int) (r2:Int) (w:World) (h:bits_Mul.f a0 a1=some (r1,r2)) :
  Calls Try.prog 51 #[.int .u64 a0,.int .u64 a1] w fun e w'=>e=.returned (.tuple #[.int .u64 r1,.int .u64 r2])∧Drawn0 w w':=by
 have H:((bits_Mul64.f a0 a1).bind fun bt101=>(some (bt101.1,bt101.2)))=some (r1,r2):=h
 clear h
 replace H:=Option.bind_eq_some_iff.mp H
 obtain ⟨⟨t101,t102⟩,A30,H⟩:=H
 replace H:(some (t101,t102))=some (r1,r2):=H
 have A3:=zm A30
 clear A30
 simp only [Option.some.injEq,Prod.mk.injEq] at H
 obtain ⟨rfl,rfl⟩:=H
 go_enter Try.func51,Try.ntmps51
 go_wp2_with (first|((with_reducible refine gate_callee (f:=55) rfl ?_);refine goesL_ (some 25) rfl rfl Try.func55 (by kernel_rfl) rfl #[.int .u64 a0,.int .u64 a1] rfl (by (try simp only [List.map_toArray,List.map_cons,List.map_nil]);first|done|rfl|(simp only [List.length_drop,List.length_take];rfl)) ?_;(with_reducible refine (bits_Mul64.calls a0 a1 t101 t102 _ A3.out).mono ?_);rintro e w' ⟨rfl,⟨nd,rfl⟩⟩;refine ⟨_,rfl,?_⟩))
 go_ret2
 exact ⟨by first|rfl|(simp;done)|(simp [*];done),by repeat (first|exact Drawn0.refl _|apply Drawn0.step)⟩
def slices_Repeat_int_int.f (l0:List Int) (a1:Int):Option (List Int):=match l0 with
 | [x]=>if 0 < a1∧a1≤256 then some (List.replicate a1.toNat x) else none
 | _=>none
theorem slices_Repeat_int_int.mul:∀ n:Nat,n < 257 → bits_Mul.f 1 (n:Int)=some (0,(n:Int)):=by decide +kernel
def slices_Repeat_int_int.row (x z:Value) (n q:Nat):List Value:=List.replicate q x ++ List.replicate (n - q) z
theorem slices_Repeat_int_int.row_len (x z:Value) (n q:Nat) (h:q≤n):(slices_Repeat_int_int.row x z n q).length=n:=by simp [slices_Repeat_int_int.row];omega
theorem slices_Repeat_int_int.row_get (x z:Value) (n q j:Nat) (h:j < q):(slices_Repeat_int_int.row x z n q)[j]?=some x:=by
 rw [slices_Repeat_int_int.row,List.getElem?_append_left (by simpa using h),List.getElem?_replicate,if_pos h]
theorem slices_Repeat_int_int.row_splice (x z:Value) (n q m:Nat) (h:q + m≤n):(slices_Repeat_int_int.row x z n q).take q ++ (List.replicate m x ++ (slices_Repeat_int_int.row x z n q).drop (q + m))=slices_Repeat_int_int.row x z n (q + m):=by
 have e1:(slices_Repeat_int_int.row x z n q).take q=List.replicate q x:=by
  rw [slices_Repeat_int_int.row,List.take_append_of_le_length (by simp),List.take_of_length_le (by simp)]
 have e2:(slices_Repeat_int_int.row x z n q).drop (q + m)=List.replicate (n - (q + m)) z:=by
  rw [slices_Repeat_int_int.row,List.drop_append,List.drop_eq_nil_of_le (by simp),List.nil_append,List.length_replicate,show q + m - q=m by omega,List.drop_replicate,show n - q - m=n - (q + m) by omega]
 rw [e1,e2,slices_Repeat_int_int.row,← List.append_assoc,List.replicate_append_replicate]
theorem slices_Repeat_int_int.row_full (x z:Value) (n:Nat):slices_Repeat_int_int.row x z n n=List.replicate n x:=by simp [slices_Repeat_int_int.row]
set_option maxHeartbeats 8000000 in
set_option maxRecDepth 100000 in
theorem slices_Repeat_int_int.calls (A0:Option Addr) (c0:Nat) (l0:List Int) (a1:Int) (r:List Int) (w:World) (hr0:Kd.C (Kd.int .i64) w A0 l0.length l0) (hc0:l0.length≤c0) (h:slices_Repeat_int_int.f l0 a1=some r) :
  Calls Try.prog 36 #[.slice A0 l0.length c0,.int .i64 a1] w fun e w'=>∃ v0_:Value,e=.returned (v0_)∧Kd.R (Kd.int .i64) 3 w' w.heap.size (fun _=>True) v0_ r∧Below w.heap.size w w':=by
 obtain ⟨x,n,rfl,rfl,hn0,hn1,rfl⟩:∃ (x:Int) (n:Nat),l0=[x]∧a1=(n:Int)∧0 < n∧n≤256∧r=List.replicate n x:=by
  unfold slices_Repeat_int_int.f at h
  split at h
  ·rename_i x
   split at h
   ·rename_i hc
    obtain ⟨n,rfl⟩:=Int.eq_ofNat_of_zero_le (Int.le_of_lt hc.1)
    exact ⟨x,n,rfl,rfl,by omega,by omega,(Option.some.inj h).symm⟩
   ·cases h
  ·cases h
 have hmk:∀ nd,((w.drewN nd).alloc (.cells (madeCells #[.int .i64 0] n) 3)).heap[w.heap.size]?=some (.cells (slices_Repeat_int_int.row (.int .i64 x) (.int .i64 0) n 0).toArray 3 (0,0)):=fun nd=>by
  have h1:=heap_alloc_new (w.drewN nd) (.cells (madeCells #[.int .i64 0] n) 3)
  have h2:(madeCells #[Value.int .i64 0] n)=(slices_Repeat_int_int.row (.int .i64 x) (.int .i64 0) n 0).toArray:=by
   apply Array.ext
   ·simp [madeCells,slices_Repeat_int_int.row]
   ·intro i h1 h2
    simp [madeCells,slices_Repeat_int_int.row,Nat.mod_one]
  rw [← h2]
  exact h1
 have hbl:∀ nd,Below w.heap.size w ((w.drewN nd).alloc (.cells (madeCells #[.int .i64 0] n) 3)):=fun nd=>zlA (zlN (Below.refl _ _) nd) _
 have hmul:=slices_Repeat_int_int.mul n (by omega)
 obtain ⟨ad,rfl,hcell⟩:=(Kd.reads_of_C (d:=(0:Int)) hr0).2.2 (by simp)
 have hx:w.cell? (ad.add 0)=some (.int .i64 x):=hcell 0 (by simp)
 obtain ⟨i0,hi0,hzz⟩:=Option.map_eq_some_iff.1 info3
 simp only [Prod.mk.injEq] at hzz
 obtain ⟨hz,hsz,hby⟩:=hzz
 have hsz':(Try.prog.info? 3).map (·.size)=some 1:=by rw [hi0];simp [hsz]
 have hsrc1:∀ nd j v,[Value.int .i64 x][j]?=some v → ((w.drewN nd).alloc (.cells (madeCells #[.int .i64 0] n) 3)).cell? (ad.add j)=some v:=fun nd j v hj=>by
  rcases j with _|j
  ·cases hj
   exact pw_cell_below (hbl nd) hx
  ·simp at hj
 clear h hcell hr0
 have hw1:IntKind.u64.wrap (n:Int)=(n:Int):=by simp [IntKind.wrap,IntKind.bits,IntKind.signed];omega
 have hw2:IntKind.i64.wrap (n:Int)=(n:Int):=by simp [IntKind.wrap,IntKind.bits,IntKind.signed];omega
 have hn3:¬ ((n:Int) < 0):=by omega
 have hn4:¬ (9223372036854775807 < (n:Int)):=by omega
 go_enter Try.func36,Try.ntmps36
 go_wp2_with (first|((with_reducible refine gate_callee (f:=51) rfl ?_);refine goesL_ (some 18) rfl rfl Try.func51 (by kernel_rfl) rfl #[.int .u64 1,.int .u64 n] rfl (by (try simp only [List.map_toArray,List.map_cons,List.map_nil]);first|done|rfl|(simp;done)) ?_;(with_reducible refine (bits_Mul.calls 1 n 0 n _ hmul).mono ?_);rintro e w' ⟨rfl,⟨nd,rfl⟩⟩;refine ⟨_,rfl,?_⟩)|((with_reducible refine gate_dst (N:=30) rfl ?_);refine wpList_make_row _ rfl _ _ 22 rfl 3 i0 (.int .i64 0) Try.underlying22 hi0 hz hsz rfl .i64 .i64 n rfl rfl (by rw [hby];omega) (by omega) ?_)|((with_reducible refine gate_builtin (b:=.copy) (xs:=#[.tmp 31,.tmp 32]) rfl ?_);refine wpList_copy_splice rfl (.tmp 31) (.tmp 32) 22 22 rfl 3 Try.underlying22 hsz' (some ⟨w.heap.size,0,none⟩) (some ad) n n 1 c0 rfl rfl w.heap.size 0 (slices_Repeat_int_int.row (.int .i64 x) (.int .i64 0) n 0) 3 (hmk _) [.int .i64 x] (by simp [Nat.min_def];omega) ?_ (by rw [slices_Repeat_int_int.row_len _ _ _ _ (by omega)];simp;omega) (by intro u hu;rw [List.mem_singleton.1 hu];rfl) w.heap.size w (hbl _) (Nat.le_refl _) ?_;(exact fun _=>⟨rfl,ad,rfl,hsrc1 _⟩);intro w3 hg3 hb3;have hg3:=hg3.out;rw [show splice (slices_Repeat_int_int.row (.int .i64 x) (.int .i64 0) n 0) 0 [Value.int .i64 x]=slices_Repeat_int_int.row (.int .i64 x) (.int .i64 0) n 1 from slices_Repeat_int_int.row_splice _ _ n 0 1 (by omega)] at hg3))
 clear hmk hbl hsrc1
 go_loopw [8] (fun v8 w'=>∃ q:Nat,v8=.int .i64 q∧1≤q∧q≤n∧Hid (w'.heap[w.heap.size]?=some (.cells (slices_Repeat_int_int.row (.int .i64 x) (.int .i64 0) n q).toArray 3 (0,0)))∧Hid (Below w.heap.size w w')) (fun v8 _=>n - (intOf v8).toNat)
 case atStart=>exact ⟨1,by simp,Nat.le_refl _,hn0,hg3,hb3⟩
 case round =>
  obtain ⟨q,rfl,hq1,hqn,hgr,hbr⟩:=hrel
  by_cases hlt:q < n
  ·have hne:¬ (n=q):=by omega
   have hwm:IntKind.i64.wrap ((q:Int) + ((min q (n - q):Nat):Int))=((q + min q (n - q):Nat):Int):=by simp [IntKind.wrap,IntKind.bits,IntKind.signed];omega
   have hsrc2:∀ j v,(List.replicate (min q (n - q)) (Value.int .i64 x))[j]?=some v → wr.drew.cell? ((⟨w.heap.size,0,none⟩:Addr).add j)=some v:=fun j v hj=>by
    obtain ⟨hj1,hj2⟩:=List.getElem?_eq_some_iff.1 hj
    rw [List.getElem_replicate] at hj2
    subst hj2
    rw [List.length_replicate] at hj1
    have hj3:j < q:=by omega
    show wr.cell? _=_
    have:=blk_cell hgr.out j
    rw [Addr.add_lit,Nat.zero_add]
    rw [this]
    simpa using slices_Repeat_int_int.row_get (Value.int .i64 x) (.int .i64 0) n q j hj3
   go_wp2
   go_region_law (refine step_copy_splice rfl (.tmp 41) (.tmp 44) 22 22 rfl 3 Try.underlying22 hsz' (some ⟨w.heap.size,q,none⟩) (some ⟨w.heap.size,0,none⟩) (n - q) (n - q) q n (by simp [Act.eval,Act.put]) (by simp [Act.eval,Act.put]) w.heap.size q (slices_Repeat_int_int.row (.int .i64 x) (.int .i64 0) n q) 3 hgr.out (List.replicate (min q (n - q)) (.int .i64 x)) (by simp [Nat.min_def]) (fun _=>⟨rfl,_,rfl,hsrc2⟩) (by rw [slices_Repeat_int_int.row_len _ _ _ _ hqn];simp;omega) (by intro u hu;rw [List.eq_of_mem_replicate hu];rfl) w.heap.size w (below_drew hbr.out) (Nat.le_refl _) ?_;intro w4 hg4 hb4)
   have hg4:=hg4.out
   rw [show splice (slices_Repeat_int_int.row (.int .i64 x) (.int .i64 0) n q) q (List.replicate (min q (n - q)) (Value.int .i64 x))=slices_Repeat_int_int.row (.int .i64 x) (.int .i64 0) n (q + min q (n - q)) from by have:=slices_Repeat_int_int.row_splice (.int .i64 x) (.int .i64 0) n q (min q (n - q)) (by omega);simpa [splice] using this] at hg4
   simp only [Act.put,List.getElem_toArray,List.getElem_cons_zero,List.getElem_cons_succ,go_sem,List.setIfInBounds_toArray,List.set_cons_succ,List.set_cons_zero]
   go_roundw
   case rel=>exact ⟨_,_,_,_,_,_,_,_,_,_,_,_,_,_,⟨q + min q (n - q),by rw [Int.natCast_add],by omega,by omega,hg4,hb4⟩,rfl⟩
   case measure=>simp [intOf];omega
  ·go_wp2
   have hqe:q=n:=by omega
   subst hqe
   go_ret
   have hsz2:(slices_Repeat_int_int.row (.int .i64 x) (.int .i64 0) q q).length=q:=slices_Repeat_int_int.row_len _ _ _ _ (Nat.le_refl _)
   refine ⟨_,rfl,Kd.R_of_own ⟨by simp [encs],.inr ⟨w.heap.size,q,_,by simp,Nat.le_refl _,hgr.out,by simp,by simp [maxLen];omega,by simp [hsz2],?_⟩⟩ (fun _ _=>trivial),hbr.out⟩
   rw [slices_Repeat_int_int.row_full,encs,List.map_replicate,List.length_replicate]
   simp
end Go.Proofs.Ytlegmnpngcadhaa.Print
end
section
namespace Go.Proofs.Ytlegmnpngcadhaa.Print
open Go.RowKit Go.Proofs.YtlegmnpngcadhaaW.PrintWords Go.Proofs.YtlegmnpngcadhaaW.PrintLast Go.Proofs.YtlegmnpngcadhaaW.PrintMore
attribute [local go_sem] max2_int min2_int max_two min_two max_three min_three max_four min_four   -- for this text's walks alone
attribute [local go_sem ↓] Go.Proofs.Ytlegmnpngcadhaa.Sem.isSome_setCell
attribute [local go_sem] Go.Instr.field Go.asAgg
set_option linter.unusedVariables false
set_option linter.unusedSimpArgs false
def pool_role.j0:Nat → Bool → Bool → Int → Bool → Option (Bool × Bool)
 | 0,_,_,_,_=>none
 | k + 1,x2,x3,x4,x5=>if x5=true then (some (true,true)) else (if x4=1 then (some (true,x3)) else (if x4=6 then (some (true,x3)) else (some (x2,x3))))
def pool_role.f (k:Nat) (a0:Int):Option (Bool × Bool):=if a0=2 then (pool_role.j0 k false false a0 (a0 == 2)) else (if a0=3 then (pool_role.j0 k false false a0 (a0 == 3)) else (if a0=4 then (pool_role.j0 k false false a0 (a0 == 4)) else (pool_role.j0 k false false a0 (a0 == 5))))
theorem pool_role.mono_l:∀ k,(∀ y0 y1 y2 y3,LeO (pool_role.j0 k y0 y1 y2 y3) (pool_role.j0 (k + 1) y0 y1 y2 y3))
 | 0=>fun _ _ _ _ r h=>by simp [pool_role.j0] at h
 | k + 1=>by
  have ih0:=pool_role.mono_l k
  ·intro y0 y1 y2 y3
   unfold pool_role.j0
   repeat' first
   | (with_reducible exact ih0 _ _ _ _)
   | (with_reducible exact LeO.refl _)
   | (with_reducible exact LeO.none _)
   | (with_reducible refine LeO.ite ?_ ?_)
   | (with_reducible refine LeO.bind ?_ (fun _=>?_))
   | exact ih0 _ _ _ _
   | exact LeO.none _
   | refine LeO.ite ?_ ?_
   | refine LeO.bind ?_ (fun _=>?_)
theorem pool_role.mono:∀ a0 k,LeO (pool_role.f k a0) (pool_role.f (k + 1) a0):=by
 intro a0 k
 have ih0:=pool_role.mono_l k
 unfold pool_role.f
 repeat' first
   | (with_reducible exact ih0 _ _ _ _)
   | (with_reducible exact LeO.refl _)
   | (with_reducible exact LeO.none _)
   | (with_reducible refine LeO.ite ?_ ?_)
   | (with_reducible refine LeO.bind ?_ (fun _=>?_))
   | exact ih0 _ _ _ _
   | exact LeO.none _
   | refine LeO.ite ?_ ?_
   | refine LeO.bind ?_ (fun _=>?_)
set_option maxHeartbeats 8000000 in
set_option maxRecDepth 100000 in
theorem pool_role.calls (k:Nat) (a0:Int) (r1:Bool) (r2:Bool) (w:World) (h:pool_role.f k a0=some (r1,r2)) :
  Calls Try.prog 37 #[.int .i64 a0] w fun e w'=>e=.returned (.tuple #[.bool r1,.bool r2])∧Drawn0 w w':=by
 have H:(if a0=2 then (pool_role.j0 k false false a0 (a0 == 2)) else (if a0=3 then (pool_role.j0 k false false a0 (a0 == 3)) else (if a0=4 then (pool_role.j0 k false false a0 (a0 == 4)) else (pool_role.j0 k false false a0 (a0 == 5)))))=some (r1,r2):=h
 clear h
 have HC2:=zm H
 clear H
 go_enter Try.func37,Try.ntmps37
 go_upto_if 5 with (fail)
 go_cut [5] (fun v5 wc=>∃ (kq:Nat) (x5_1:Bool),v5=.bool x5_1∧Aside0 (pool_role.j0 kq false false a0 x5_1=some (r1,r2))∧Aside0 (kq≤k)∧Drawn0 w wc)
 case first =>
  have H:=HC2.out
  clear HC2
  by_cases c3:a0=2
  ·rw [if_pos c3] at H
   have c3b0:(a0 == 2)=true:=beq_iff_eq.mpr c3
   have c3b1:(a0 != 2)=false:=bne_eq_false_iff_eq.mpr c3
   clear c3
   (first|rw [c3b0]|(simp only [i64_w,i32_w];rw [c3b0])|skip)
   have H':=zm H
   clear H
   go_wp2
   go_meet
   case rel=>exact ⟨_,((a0 == 2)),(by first|rfl|(simp;done)|(simp [*];done)),H',⟨by first|omega|exact Nat.le_refl _⟩,by repeat (first|exact Drawn0.refl _|apply Drawn0.step)⟩
  ·rw [if_neg c3] at H
   have c3b0:(a0 == 2)=false:=beq_eq_false_iff_ne.mpr c3
   have c3b1:(a0 != 2)=true:=bne_iff_ne.mpr c3
   (first|rw [c3b0]|(simp only [i64_w,i32_w];rw [c3b0])|skip)
   by_cases c4:a0=3
   ·rw [if_pos c4] at H
    have c4b0:(a0 == 3)=true:=beq_iff_eq.mpr c4
    have c4b1:(a0 != 3)=false:=bne_eq_false_iff_eq.mpr c4
    clear c4
    have H':=zm H
    clear H
    go_wp2
    go_meet
    case rel=>exact ⟨_,((a0 == 3)),(by first|rfl|(simp;done)|(simp [*];done)),H',⟨by first|omega|exact Nat.le_refl _⟩,by repeat (first|exact Drawn0.refl _|apply Drawn0.step)⟩
   ·rw [if_neg c4] at H
    have c4b0:(a0 == 3)=false:=beq_eq_false_iff_ne.mpr c4
    have c4b1:(a0 != 3)=true:=bne_iff_ne.mpr c4
    by_cases c5:a0=4
    ·rw [if_pos c5] at H
     have c5b0:(a0 == 4)=true:=beq_iff_eq.mpr c5
     have c5b1:(a0 != 4)=false:=bne_eq_false_iff_eq.mpr c5
     clear c5
     have H':=zm H
     clear H
     go_wp2
     go_meet
     case rel=>exact ⟨_,((a0 == 4)),(by first|rfl|(simp;done)|(simp [*];done)),H',⟨by first|omega|exact Nat.le_refl _⟩,by repeat (first|exact Drawn0.refl _|apply Drawn0.step)⟩
    ·rw [if_neg c5] at H
     have c5b0:(a0 == 4)=false:=beq_eq_false_iff_ne.mpr c5
     have c5b1:(a0 != 4)=true:=bne_iff_ne.mpr c5
     have H':=zm H
     clear H
     go_wp2
     go_meet
     case rel=>exact ⟨_,((a0 == 5)),(by first|rfl|(simp;done)|(simp [*];done)),H',⟨by first|omega|exact Nat.le_refl _⟩,by repeat (first|exact Drawn0.refl _|apply Drawn0.step)⟩
 case rest =>
  clear HC2
  try clear p2
  try clear c3
  try clear c3b0
  try clear c3b1
  try clear c4
  try clear c4b0
  try clear c4b1
  try clear c5
  try clear c5b0
  try clear c5b1
  obtain ⟨kq,x5_1,rfl,HA,HJ1,⟨mc1,rfl⟩⟩:=hcut
  cases kq with
  | zero=>exact absurd HA.out (by simp [pool_role.j0])
  | succ kj1 =>
   have H:=HA.out
   clear HA
   simp only [pool_role.j0] at H
   by_cases c6:x5_1=true
   ·subst c6
    have H1:(some (true,true))=some (r1,r2):=by rw [if_pos rfl] at H;exact H
    clear H
    have H:=H1
    clear H1
    simp only [Option.some.injEq,Prod.mk.injEq] at H
    obtain ⟨rfl,rfl⟩:=H
    go_wp2
    go_ret2
    exact ⟨by first|rfl|(simp;done)|(simp [*];done),by repeat (first|exact Drawn0.refl _|apply Drawn0.step)⟩
   ·replace c6:=Bool.eq_false_iff.mpr c6
    subst c6
    have H1:(if a0=1 then (some (true,false)) else (if a0=6 then (some (true,false)) else (some (false,false))))=some (r1,r2):=by rw [if_neg (show ¬ (false=true) by decide)] at H;exact H
    clear H
    have H:=H1
    clear H1
    by_cases c7:a0=1
    ·rw [if_pos c7] at H
     have c7b0:(a0 == 1)=true:=beq_iff_eq.mpr c7
     have c7b1:(a0 != 1)=false:=bne_eq_false_iff_eq.mpr c7
     clear c7
     simp only [Option.some.injEq,Prod.mk.injEq] at H
     obtain ⟨rfl,rfl⟩:=H
     go_wp2
     go_ret2
     exact ⟨by first|rfl|(simp;done)|(simp [*];done),by repeat (first|exact Drawn0.refl _|apply Drawn0.step)⟩
    ·rw [if_neg c7] at H
     have c7b0:(a0 == 1)=false:=beq_eq_false_iff_ne.mpr c7
     have c7b1:(a0 != 1)=true:=bne_iff_ne.mpr c7
     by_cases c8:a0=6
     ·rw [if_pos c8] at H
      have c8b0:(a0 == 6)=true:=beq_iff_eq.mpr c8
      have c8b1:(a0 != 6)=false:=bne_eq_false_iff_eq.mpr c8
      clear c8
      simp only [Option.some.injEq,Prod.mk.injEq] at H
      obtain ⟨rfl,rfl⟩:=H
      go_wp2
      go_ret2
      exact ⟨by first|rfl|(simp;done)|(simp [*];done),by repeat (first|exact Drawn0.refl _|apply Drawn0.step)⟩
     ·rw [if_neg c8] at H
      have c8b0:(a0 == 6)=false:=beq_eq_false_iff_ne.mpr c8
      have c8b1:(a0 != 6)=true:=bne_iff_ne.mpr c8
      simp only [Option.some.injEq,Prod.mk.injEq] at H
      obtain ⟨rfl,rfl⟩:=H
      go_wp2
      go_ret2
      exact ⟨by first|rfl|(simp;done)|(simp [*];done),by repeat (first|exact Drawn0.refl _|apply Drawn0.step)⟩
end Go.Proofs.Ytlegmnpngcadhaa.Print
end
section
namespace Go.Proofs.Ytlegmnpngcadhaa.Print
open Go.RowKit Go.Proofs.YtlegmnpngcadhaaW.PrintWords Go.Proofs.YtlegmnpngcadhaaW.PrintLast Go.Proofs.YtlegmnpngcadhaaW.PrintMore
attribute [local go_sem] max2_int min2_int max_two min_two max_three min_three max_four min_four   -- for this text's walks alone
attribute [local go_sem ↓] Go.Proofs.Ytlegmnpngcadhaa.Sem.isSome_setCell
attribute [local go_sem] Go.Instr.field Go.asAgg
set_option linter.unusedVariables false
set_option linter.unusedSimpArgs false
mutual
def pool_Check.j0:Nat → Bool → List Int → List Int → Option (Int)
 | 0,_,_,_=>none
 | k + 1,x20,x139000,x139001=>if x20=true then (some 40) else (pool_Check.l0 k x139000 (x139000.length:Int) 0 x139000 x139001)
def pool_Check.l0:Nat → List Int → Int → Int → List Int → List Int → Option (Int)
 | 0,_,_,_,_,_=>none
 | k + 1,x22,x23,x24,x139000,x139001=>if x24 < x23 then (if 0≤x24 then (if x24 < (x22.length:Int) then ((pool_role.f k (rd x22 x24)).bind fun bt141=>(if bt141.1=true then (if x24 < (x139001.length:Int) then ((pool_worn.f (rd x139001 x24)).bind fun t144=>(if t144=true then (pool_Check.l0 k x22 x23 (wrap64 (x24 + 1)) x139000 x139001) else (some 40))) else (none)) else (some 40))) else (none)) else (none)) else (some 0)
end
def pool_Check.f (k:Nat) (l0_0:List Int) (l0_1:List Int):Option (Int):=(pool_blocks.f (l0_0.length:Int)).bind fun t139=>(if t139=true then (pool_Check.j0 k ((l0_1.length:Int) != (l0_0.length:Int)) l0_0 l0_1) else (pool_Check.j0 k true l0_0 l0_1))
theorem pool_Check.mono_l:∀ k,(∀ y0 y1 y2,LeO (pool_Check.j0 k y0 y1 y2) (pool_Check.j0 (k + 1) y0 y1 y2))∧(∀ y0 y1 y2 y3 y4,LeO (pool_Check.l0 k y0 y1 y2 y3 y4) (pool_Check.l0 (k + 1) y0 y1 y2 y3 y4))
 | 0=>⟨fun _ _ _ r h=>by simp [pool_Check.j0] at h,fun _ _ _ _ _ r h=>by simp [pool_Check.l0] at h⟩
 | k + 1=>by
  obtain ⟨ih0,ih1⟩:=pool_Check.mono_l k
  refine ⟨?_,?_⟩
  ·intro y0 y1 y2
   unfold pool_Check.j0
   repeat' first
   | (with_reducible exact ih0 _ _ _)
   | (with_reducible exact ih1 _ _ _ _ _)
   | (with_reducible exact pool_role.mono _ _)
   | (with_reducible exact LeO.refl _)
   | (with_reducible exact LeO.none _)
   | (with_reducible refine LeO.ite ?_ ?_)
   | (with_reducible refine LeO.bind ?_ (fun _=>?_))
   | exact ih0 _ _ _
   | exact ih1 _ _ _ _ _
   | exact pool_role.mono _ _
   | exact LeO.none _
   | refine LeO.ite ?_ ?_
   | refine LeO.bind ?_ (fun _=>?_)
  ·intro y0 y1 y2 y3 y4
   unfold pool_Check.l0
   repeat' first
   | (with_reducible exact ih0 _ _ _)
   | (with_reducible exact ih1 _ _ _ _ _)
   | (with_reducible exact pool_role.mono _ _)
   | (with_reducible exact LeO.refl _)
   | (with_reducible exact LeO.none _)
   | (with_reducible refine LeO.ite ?_ ?_)
   | (with_reducible refine LeO.bind ?_ (fun _=>?_))
   | exact ih0 _ _ _
   | exact ih1 _ _ _ _ _
   | exact pool_role.mono _ _
   | exact LeO.none _
   | refine LeO.ite ?_ ?_
   | refine LeO.bind ?_ (fun _=>?_)
theorem pool_Check.mono:∀ a0 a1 k,LeO (pool_Check.f k a0 a1) (pool_Check.f (k + 1) a0 a1):=by
 intro a0 a1 k
 obtain ⟨ih0,ih1⟩:=pool_Check.mono_l k
 unfold pool_Check.f
 repeat' first
   | (with_reducible exact ih0 _ _ _)
   | (with_reducible exact ih1 _ _ _ _ _)
   | (with_reducible exact pool_role.mono _ _)
   | (with_reducible exact LeO.refl _)
   | (with_reducible exact LeO.none _)
   | (with_reducible refine LeO.ite ?_ ?_)
   | (with_reducible refine LeO.bind ?_ (fun _=>?_))
   | exact ih0 _ _ _
   | exact ih1 _ _ _ _ _
   | exact pool_role.mono _ _
   | exact LeO.none _
   | refine LeO.ite ?_ ?_
   | refine LeO.bind ?_ (fun _=>?_)
set_option maxHeartbeats 8000000 in
set_option maxRecDepth 100000 in
theorem pool_Check.calls (k:Nat) (A0_0:Option Addr) (c0_0:Nat) (l0_0:List Int) (A0_1:Option Addr) (c0_1:Nat) (l0_1:List Int) (r:Int) (w:World) (hr0_0:Kd.C (Kd.int .i64) w A0_0 l0_0.length l0_0) (hc0_0:l0_0.length≤c0_0) (hr0_1:Kd.C (Kd.int .i64) w A0_1 l0_1.length l0_1) (hc0_1:l0_1.length≤c0_1) (h:pool_Check.f k l0_0 l0_1=some r) :
  Calls Try.prog 13 #[.agg #[.slice A0_0 l0_0.length c0_0,.slice A0_1 l0_1.length c0_1]] w fun e w'=>e=.returned (.int .i64 r)∧Below w.heap.size w w':=by
 have hu25:=Try.underlying25
 have HR0_0:=zm hr0_0
 have HC0_0:=zm hc0_0
 clear hr0_0 hc0_0
 have HR0_1:=zm hr0_1
 have HC0_1:=zm hc0_1
 clear hr0_1 hc0_1
 have HB:=zm (Below.refl w.heap.size w)
 have H:((pool_blocks.f (l0_0.length:Int)).bind fun t139=>(if t139=true then (pool_Check.j0 k ((l0_1.length:Int) != (l0_0.length:Int)) l0_0 l0_1) else (pool_Check.j0 k true l0_0 l0_1)))=some r:=h
 clear h
 have HC2:=zm H
 clear H
 go_enter Try.func13,Try.ntmps13
 go_upto_region 1 with (first|((with_reducible refine gate_dst (N:=1) rfl ?_);(try (refine gate_guard (by rfl) ?_;dsimp only));refine box_event ?hg (N:=1) ?hd (cs:=#[.slice A0_0 l0_0.length c0_0,.slice A0_1 l0_1.length c0_1]) (t:=25) ?hr ?_;(case hd=>rfl);(case hg=>rfl);(case hr=>first|(go_simp;done)|(go_simp;rfl));intro gb138 hg w3 hbox hb;have n0_:=zm (below_step (by repeat (first|(with_reducible first|exact HB.out|apply zlA|apply zlN|apply zlD)|exact HB.out)) hb);have n1_:=zm (hbox);have n2_:=zm ((by rw [hg];exact (below_size (by repeat (first|(with_reducible first|exact HB.out|apply zlA|apply zlN|apply zlD)|exact HB.out))):w.heap.size≤gb138));have n3_:=zm ((by rw [hg];exact (below_size (by repeat (first|(with_reducible first|exact HB.out|apply zlA|apply zlN|apply zlD)|exact HB.out))):w.heap.size≤gb138));clear HB;have HB:=n0_;have BK138:=n1_;have GW138:=n2_;have GE138:=n3_;clear n0_ n1_ n2_ n3_;clear hb hbox hg))
 (try simp only [Act.put,List.setIfInBounds_toArray,List.set_cons_zero,List.set_cons_succ])
 go_cut [20] (fun v20 wc=>∃ (kq:Nat) (x20_1:Bool),v20=.bool x20_1∧Aside0 (pool_Check.j0 kq x20_1 l0_0 l0_1=some r)∧Aside0 (kq≤k)∧Aside0 (wc.heap[gb138]?=some (.cells #[(.slice A0_0 l0_0.length c0_0),(.slice A0_1 l0_1.length c0_1)] 25 (0,0)))∧Aside0 (Below w.heap.size w wc))
 case first =>
  have H:=HC2.out
  clear HC2
  replace H:=Option.bind_eq_some_iff.mp H
  obtain ⟨t139,A40,H⟩:=H
  replace H:(if t139=true then (pool_Check.j0 k ((l0_1.length:Int) != (l0_0.length:Int)) l0_0 l0_1) else (pool_Check.j0 k true l0_0 l0_1))=some r:=H
  have A4:=zm A40
  clear A40
  by_cases c5:t139=true
  ·subst c5
   have H1:(pool_Check.j0 k ((l0_1.length:Int) != (l0_0.length:Int)) l0_0 l0_1)=some r:=by rw [if_pos rfl] at H;exact H
   clear H
   have H:=H1
   clear H1
   have H':=zm H
   clear H
   have hcz6_0:w3.cell? ⟨gb138,0,none⟩=some (.slice A0_0 l0_0.length c0_0):=(blk_cell BK138.out 0).trans rfl
   have hcz6_1:w3.cell? ⟨gb138,1,none⟩=some (.slice A0_1 l0_1.length c0_1):=(blk_cell BK138.out 1).trans rfl
   have hfz6_0:=blk_frozen BK138.out 0
   have hfz6_1:=blk_frozen BK138.out 1
   go_wp2_with (first|((with_reducible refine gate_callee (f:=35) rfl ?_);refine goesL_ (some 10) rfl rfl Try.func35 (by kernel_rfl) rfl #[.int .i64 (l0_0.length:Int)] rfl (by (try simp only [List.map_toArray,List.map_cons,List.map_nil]);first|done|rfl|(simp only [List.length_drop,List.length_take];rfl)) ?_;(with_reducible refine (pool_blocks.calls (l0_0.length:Int) true _ A4.out).mono ?_);rintro e w' ⟨rfl,⟨nd,rfl⟩⟩;refine ⟨_,rfl,?_⟩))
   go_meet
   case rel=>exact ⟨_,(((l0_1.length:Int) != (l0_0.length:Int))),(by first|rfl|(simp;done)|(simp [*];done)),H',⟨by first|omega|exact Nat.le_refl _⟩,⟨by (with_reducible repeat (first|refine zbN ?_ _|refine zbD ?_|refine zbA ?_ _));exact BK138.out⟩,⟨by repeat (first|(with_reducible first|exact HB.out|apply zlA|apply zlN|apply zlD|refine zlS ?_ GE138.out)|exact HB.out)⟩⟩
  ·replace c5:=Bool.eq_false_iff.mpr c5
   subst c5
   have H1:(pool_Check.j0 k true l0_0 l0_1)=some r:=by rw [if_neg (show ¬ (false=true) by decide)] at H;exact H
   clear H
   have H:=H1
   clear H1
   have H':=zm H
   clear H
   have hcz7_0:w3.cell? ⟨gb138,0,none⟩=some (.slice A0_0 l0_0.length c0_0):=(blk_cell BK138.out 0).trans rfl
   have hcz7_1:w3.cell? ⟨gb138,1,none⟩=some (.slice A0_1 l0_1.length c0_1):=(blk_cell BK138.out 1).trans rfl
   have hfz7_0:=blk_frozen BK138.out 0
   have hfz7_1:=blk_frozen BK138.out 1
   go_wp2_with (first|((with_reducible refine gate_callee (f:=35) rfl ?_);refine goesL_ (some 10) rfl rfl Try.func35 (by kernel_rfl) rfl #[.int .i64 (l0_0.length:Int)] rfl (by (try simp only [List.map_toArray,List.map_cons,List.map_nil]);first|done|rfl|(simp only [List.length_drop,List.length_take];rfl)) ?_;(with_reducible refine (pool_blocks.calls (l0_0.length:Int) false _ A4.out).mono ?_);rintro e w' ⟨rfl,⟨nd,rfl⟩⟩;refine ⟨_,rfl,?_⟩))
   go_meet
   case rel=>exact ⟨_,(true),(by first|rfl|(simp;done)|(simp [*];done)),H',⟨by first|omega|exact Nat.le_refl _⟩,⟨by (with_reducible repeat (first|refine zbN ?_ _|refine zbD ?_|refine zbA ?_ _));exact BK138.out⟩,⟨by repeat (first|(with_reducible first|exact HB.out|apply zlA|apply zlN|apply zlD|refine zlS ?_ GE138.out)|exact HB.out)⟩⟩
 case rest =>
  clear HC2
  try clear c1
  try clear p2
  try clear c3
  try clear c5
  try clear hcz6_0
  try clear hcz6_1
  try clear hcz7_0
  try clear hcz7_1
  try clear hfz6_0
  try clear hfz6_1
  try clear hfz7_0
  try clear hfz7_1
  obtain ⟨kq,x20_1,rfl,HA,HJ1,BK138,HB⟩:=hcut
  cases kq with
  | zero=>exact absurd HA.out (by simp [pool_Check.j0])
  | succ kj1 =>
   have H:=HA.out
   clear HA
   simp only [pool_Check.j0] at H
   by_cases c8:x20_1=true
   ·subst c8
    have H1:(some 40)=some r:=by rw [if_pos rfl] at H;exact H
    clear H
    have H:=H1
    clear H1
    obtain rfl:=Option.some.inj H
    go_wp2
    go_ret
    exact ⟨by first|rfl|(simp [errW_none,errW_some] <;> rfl)|(simp [*,errW_none,errW_some] <;> rfl),by repeat (first|(with_reducible first|exact HB.out|apply zlA|apply zlN|apply zlD|refine zlS ?_ GE138.out)|exact HB.out)⟩
   ·replace c8:=Bool.eq_false_iff.mpr c8
    subst c8
    have H1:(pool_Check.l0 kj1 l0_0 (l0_0.length:Int) 0 l0_0 l0_1)=some r:=by rw [if_neg (show ¬ (false=true) by decide)] at H;exact H
    clear H
    have H:=H1
    clear H1
    have H':=zm H
    clear H
    have hcz9_0:wc.cell? ⟨gb138,0,none⟩=some (.slice A0_0 l0_0.length c0_0):=(blk_cell BK138.out 0).trans rfl
    have hcz9_1:wc.cell? ⟨gb138,1,none⟩=some (.slice A0_1 l0_1.length c0_1):=(blk_cell BK138.out 1).trans rfl
    have hfz9_0:=blk_frozen BK138.out 0
    have hfz9_1:=blk_frozen BK138.out 1
    go_wp2
    go_loopg [24] kj1 (fun kq v24 w'=>∃ (x24_2:Int),v24=.int .i64 x24_2∧Aside0 (pool_Check.l0 kq l0_0 (l0_0.length:Int) x24_2 l0_0 l0_1=some r)∧Aside0 (kq≤kj1)∧Aside0 (w'.heap[gb138]?=some (.cells #[(.slice A0_0 l0_0.length c0_0),(.slice A0_1 l0_1.length c0_1)] 25 (0,0)))∧Aside0 (Below w.heap.size w w'))
    case atStart=>exact ⟨(0),(by first|rfl|(simp;done)|(simp [*];done)),H',⟨Nat.le_refl _⟩,⟨by (with_reducible repeat (first|refine zbN ?_ _|refine zbD ?_|refine zbA ?_ _));exact BK138.out⟩,⟨by repeat (first|(with_reducible first|exact HB.out|apply zlA|apply zlN|apply zlD|refine zlS ?_ GE138.out)|exact HB.out)⟩⟩
    case round =>
     clear H'
     try clear c1
     try clear p2
     try clear c3
     try clear c5
     try clear c8
     try clear hcz6_0
     try clear hcz6_1
     try clear hcz7_0
     try clear hcz7_1
     try clear hcz9_0
     try clear hcz9_1
     try clear hfz6_0
     try clear hfz6_1
     try clear hfz7_0
     try clear hfz7_1
     try clear hfz9_0
     try clear hfz9_1
     try clear p2
     obtain ⟨x24_2,rfl,HA,HK2,BK138,HB⟩:=hrel
     cases gk with
     | zero=>exact absurd HA.out (by simp [pool_Check.l0])
     | succ k2 =>
      have H:=HA.out
      clear HA
      simp only [pool_Check.l0] at H
      by_cases c10:x24_2 < (l0_0.length:Int)
      ·rw [if_pos c10] at H
       have c10b0:decide (x24_2 < (l0_0.length:Int))=true:=decide_eq_true c10
       clear c10
       by_cases c11:0≤x24_2
       ·rw [if_pos c11] at H
        have c11b0:decide (0≤x24_2)=true:=decide_eq_true c11
        clear c11
        by_cases c12:x24_2 < (l0_0.length:Int)
        ·rw [if_pos c12] at H
         have c12b0:decide (x24_2 < (l0_0.length:Int))=true:=decide_eq_true c12
         clear c12
         replace H:=Option.bind_eq_some_iff.mp H
         obtain ⟨⟨t141,t142⟩,A130,H⟩:=H
         replace H:(if t141=true then (if x24_2 < (l0_1.length:Int) then ((pool_worn.f (rd l0_1 x24_2)).bind fun t144=>(if t144=true then (pool_Check.l0 k2 l0_0 (l0_0.length:Int) (wrap64 (x24_2 + 1)) l0_0 l0_1) else (some 40))) else (none)) else (some 40))=some r:=H
         have A13:=zm A130
         clear A130
         by_cases c14:t141=true
         ·subst c14
          have H1:(if x24_2 < (l0_1.length:Int) then ((pool_worn.f (rd l0_1 x24_2)).bind fun t144=>(if t144=true then (pool_Check.l0 k2 l0_0 (l0_0.length:Int) (wrap64 (x24_2 + 1)) l0_0 l0_1) else (some 40))) else (none))=some r:=by rw [if_pos rfl] at H;exact H
          clear H
          have H:=H1
          clear H1
          by_cases c15:x24_2 < (l0_1.length:Int)
          ·rw [if_pos c15] at H
           have c15b0:decide (x24_2 < (l0_1.length:Int))=true:=decide_eq_true c15
           clear c15
           replace H:=Option.bind_eq_some_iff.mp H
           obtain ⟨t144,A160,H⟩:=H
           replace H:(if t144=true then (pool_Check.l0 k2 l0_0 (l0_0.length:Int) (wrap64 (x24_2 + 1)) l0_0 l0_1) else (some 40))=some r:=H
           have A16:=zm A160
           clear A160
           by_cases c17:t144=true
           ·subst c17
            have H1:(pool_Check.l0 k2 l0_0 (l0_0.length:Int) (wrap64 (x24_2 + 1)) l0_0 l0_1)=some r:=by rw [if_pos rfl] at H;exact H
            clear H
            have H:=H1
            clear H1
            have H':=zm H
            clear H
            have p140:0≤(x24_2:Int):=of_decide_eq_true (by first|(with_reducible assumption)|assumption)
            have q140:x24_2 < (l0_0.length:Int):=of_decide_eq_true (by first|(with_reducible assumption)|assumption)
            obtain ⟨ad140,e140,hx140_0⟩:=Kd.at_int HR0_0.out x24_2 p140 q140
            cases e140
            replace hx140_0:=(HB.out.cell (World.block_lt_of_cell? w _ hx140_0)).trans hx140_0
            replace p140:=eq_true p140
            replace q140:=eq_true q140
            go_wp2_with (first|((with_reducible refine gate_callee (f:=37) rfl ?_);refine goesL_ (some 31) rfl rfl Try.func37 (by kernel_rfl) rfl #[.int .i64 (rd l0_0 x24_2)] rfl (by (try simp only [List.map_toArray,List.map_cons,List.map_nil]);first|done|rfl|(simp only [List.length_drop,List.length_take];rfl)) ?_;(with_reducible refine (pool_role.calls k2 (rd l0_0 x24_2) true t142 _ A13.out).mono ?_);rintro e w' ⟨rfl,⟨nd,rfl⟩⟩;refine ⟨_,rfl,?_⟩;have hcz18_0:wr.cell? ⟨gb138,0,none⟩=some (.slice (some ad140) l0_0.length c0_0):=(blk_cell BK138.out 0).trans rfl;have hcz18_1:wr.cell? ⟨gb138,1,none⟩=some (.slice A0_1 l0_1.length c0_1):=(blk_cell BK138.out 1).trans rfl;have hfz18_0:=blk_frozen BK138.out 0;have hfz18_1:=blk_frozen BK138.out 1;have p143:0≤(x24_2:Int):=of_decide_eq_true (by first|(with_reducible assumption)|assumption);have q143:x24_2 < (l0_1.length:Int):=of_decide_eq_true (by first|(with_reducible assumption)|assumption);obtain ⟨ad143,e143,hx143_0⟩:=Kd.at_int HR0_1.out x24_2 p143 q143;cases e143;replace hx143_0:=(HB.out.cell (World.block_lt_of_cell? w _ hx143_0)).trans hx143_0;replace p143:=eq_true p143;replace q143:=eq_true q143)|(go_at_call 38;(with_reducible refine (pool_worn.calls (rd l0_1 x24_2) true _ A16.out).mono ?_);rintro e w' ⟨rfl,⟨nd,rfl⟩⟩))
            go_roundg k2
            case measure=>have:=HJ1.out;have:=HK2.out;omega
            case rel=>exact ⟨(wrap64 (x24_2 + 1)),(by first|rfl|(simp;done)|(simp [*];done)),H',⟨by have:=HJ1.out;have:=HK2.out;omega⟩,⟨by (with_reducible repeat (first|refine zbN ?_ _|refine zbD ?_|refine zbA ?_ _));exact BK138.out⟩,⟨by repeat (first|(with_reducible first|exact HB.out|apply zlA|apply zlN|apply zlD|refine zlS ?_ GE138.out)|exact HB.out)⟩⟩
           ·replace c17:=Bool.eq_false_iff.mpr c17
            subst c17
            have H1:(some 40)=some r:=by rw [if_neg (show ¬ (false=true) by decide)] at H;exact H
            clear H
            have H:=H1
            clear H1
            obtain rfl:=Option.some.inj H
            have p140:0≤(x24_2:Int):=of_decide_eq_true (by first|(with_reducible assumption)|assumption)
            have q140:x24_2 < (l0_0.length:Int):=of_decide_eq_true (by first|(with_reducible assumption)|assumption)
            obtain ⟨ad140,e140,hx140_0⟩:=Kd.at_int HR0_0.out x24_2 p140 q140
            cases e140
            replace hx140_0:=(HB.out.cell (World.block_lt_of_cell? w _ hx140_0)).trans hx140_0
            replace p140:=eq_true p140
            replace q140:=eq_true q140
            go_wp2_with (first|((with_reducible refine gate_callee (f:=37) rfl ?_);refine goesL_ (some 31) rfl rfl Try.func37 (by kernel_rfl) rfl #[.int .i64 (rd l0_0 x24_2)] rfl (by (try simp only [List.map_toArray,List.map_cons,List.map_nil]);first|done|rfl|(simp only [List.length_drop,List.length_take];rfl)) ?_;(with_reducible refine (pool_role.calls k2 (rd l0_0 x24_2) true t142 _ A13.out).mono ?_);rintro e w' ⟨rfl,⟨nd,rfl⟩⟩;refine ⟨_,rfl,?_⟩;have hcz19_0:wr.cell? ⟨gb138,0,none⟩=some (.slice (some ad140) l0_0.length c0_0):=(blk_cell BK138.out 0).trans rfl;have hcz19_1:wr.cell? ⟨gb138,1,none⟩=some (.slice A0_1 l0_1.length c0_1):=(blk_cell BK138.out 1).trans rfl;have hfz19_0:=blk_frozen BK138.out 0;have hfz19_1:=blk_frozen BK138.out 1;have p143:0≤(x24_2:Int):=of_decide_eq_true (by first|(with_reducible assumption)|assumption);have q143:x24_2 < (l0_1.length:Int):=of_decide_eq_true (by first|(with_reducible assumption)|assumption);obtain ⟨ad143,e143,hx143_0⟩:=Kd.at_int HR0_1.out x24_2 p143 q143;cases e143;replace hx143_0:=(HB.out.cell (World.block_lt_of_cell? w _ hx143_0)).trans hx143_0;replace p143:=eq_true p143;replace q143:=eq_true q143)|(go_at_call 38;(with_reducible refine (pool_worn.calls (rd l0_1 x24_2) false _ A16.out).mono ?_);rintro e w' ⟨rfl,⟨nd,rfl⟩⟩))
            go_ret
            exact ⟨by first|rfl|(simp [errW_none,errW_some] <;> rfl)|(simp [*,errW_none,errW_some] <;> rfl),by repeat (first|(with_reducible first|exact HB.out|apply zlA|apply zlN|apply zlD|refine zlS ?_ GE138.out)|exact HB.out)⟩
          ·rw [if_neg c15] at H
           exact absurd H (by simp)
         ·replace c14:=Bool.eq_false_iff.mpr c14
          subst c14
          have H1:(some 40)=some r:=by rw [if_neg (show ¬ (false=true) by decide)] at H;exact H
          clear H
          have H:=H1
          clear H1
          obtain rfl:=Option.some.inj H
          have p140:0≤(x24_2:Int):=of_decide_eq_true (by first|(with_reducible assumption)|assumption)
          have q140:x24_2 < (l0_0.length:Int):=of_decide_eq_true (by first|(with_reducible assumption)|assumption)
          obtain ⟨ad140,e140,hx140_0⟩:=Kd.at_int HR0_0.out x24_2 p140 q140
          cases e140
          replace hx140_0:=(HB.out.cell (World.block_lt_of_cell? w _ hx140_0)).trans hx140_0
          replace p140:=eq_true p140
          replace q140:=eq_true q140
          go_wp2_with (first|((with_reducible refine gate_callee (f:=37) rfl ?_);refine goesL_ (some 31) rfl rfl Try.func37 (by kernel_rfl) rfl #[.int .i64 (rd l0_0 x24_2)] rfl (by (try simp only [List.map_toArray,List.map_cons,List.map_nil]);first|done|rfl|(simp only [List.length_drop,List.length_take];rfl)) ?_;(with_reducible refine (pool_role.calls k2 (rd l0_0 x24_2) false t142 _ A13.out).mono ?_);rintro e w' ⟨rfl,⟨nd,rfl⟩⟩;refine ⟨_,rfl,?_⟩))
          go_ret
          exact ⟨by first|rfl|(simp [errW_none,errW_some] <;> rfl)|(simp [*,errW_none,errW_some] <;> rfl),by repeat (first|(with_reducible first|exact HB.out|apply zlA|apply zlN|apply zlD|refine zlS ?_ GE138.out)|exact HB.out)⟩
        ·rw [if_neg c12] at H
         exact absurd H (by simp)
       ·rw [if_neg c11] at H
        exact absurd H (by simp)
      ·rw [if_neg c10] at H
       have c10b0:decide (x24_2 < (l0_0.length:Int))=false:=decide_eq_false c10
       clear c10
       obtain rfl:=Option.some.inj H
       go_wp2
       go_ret
       exact ⟨by first|rfl|(simp [errW_none,errW_some] <;> rfl)|(simp [*,errW_none,errW_some] <;> rfl),by repeat (first|(with_reducible first|exact HB.out|apply zlA|apply zlN|apply zlD|refine zlS ?_ GE138.out)|exact HB.out)⟩
end Go.Proofs.Ytlegmnpngcadhaa.Print
end
section
namespace Go.Proofs.Ytlegmnpngcadhaa.Print
open Go.RowKit Go.Proofs.YtlegmnpngcadhaaW.PrintWords Go.Proofs.YtlegmnpngcadhaaW.PrintLast Go.Proofs.YtlegmnpngcadhaaW.PrintMore
attribute [local go_sem] max2_int min2_int max_two min_two max_three min_three max_four min_four   -- for this text's walks alone
attribute [local go_sem ↓] Go.Proofs.Ytlegmnpngcadhaa.Sem.isSome_setCell
attribute [local go_sem] Go.Instr.field Go.asAgg
set_option linter.unusedVariables false
set_option linter.unusedSimpArgs false
def pool_of.l0:Nat → Int → List Int → List Int → Int → Int → Option (List Int)
 | 0,_,_,_,_,_=>none
 | k + 1,x1,x5,x12,x13,x14=>if x14 < x13 then (if 0≤x14 then (if x14 < (x12.length:Int) then (if (rd x12 x14)=x1 then (if x5.length < 17592186044416 then (pool_of.l0 k x1 (x5 ++ [x14]) x12 x13 (wrap64 (x14 + 1))) else (none)) else (pool_of.l0 k x1 x5 x12 x13 (wrap64 (x14 + 1)))) else (none)) else (none)) else (some x5)
def pool_of.f (k:Nat) (l0_0:List Int) (l0_1:List Int) (a1:Int):Option (List Int):=(pool_Check.f k l0_0 l0_1).bind fun t146=>(if t146=0 then (pool_of.l0 k a1 ([]:List Int) l0_0 (l0_0.length:Int) 0) else (some ([]:List Int)))
theorem pool_of.mono_l:∀ k,(∀ y0 y1 y2 y3 y4,LeO (pool_of.l0 k y0 y1 y2 y3 y4) (pool_of.l0 (k + 1) y0 y1 y2 y3 y4))
 | 0=>fun _ _ _ _ _ r h=>by simp [pool_of.l0] at h
 | k + 1=>by
  have ih0:=pool_of.mono_l k
  ·intro y0 y1 y2 y3 y4
   unfold pool_of.l0
   repeat' first
   | (with_reducible exact ih0 _ _ _ _ _)
   | (with_reducible exact pool_Check.mono _ _ _)
   | (with_reducible exact LeO.refl _)
   | (with_reducible exact LeO.none _)
   | (with_reducible refine LeO.ite ?_ ?_)
   | (with_reducible refine LeO.bind ?_ (fun _=>?_))
   | exact ih0 _ _ _ _ _
   | exact pool_Check.mono _ _ _
   | exact LeO.none _
   | refine LeO.ite ?_ ?_
   | refine LeO.bind ?_ (fun _=>?_)
theorem pool_of.mono:∀ a0 a1 a2 k,LeO (pool_of.f k a0 a1 a2) (pool_of.f (k + 1) a0 a1 a2):=by
 intro a0 a1 a2 k
 have ih0:=pool_of.mono_l k
 unfold pool_of.f
 repeat' first
   | (with_reducible exact ih0 _ _ _ _ _)
   | (with_reducible exact pool_Check.mono _ _ _)
   | (with_reducible exact LeO.refl _)
   | (with_reducible exact LeO.none _)
   | (with_reducible refine LeO.ite ?_ ?_)
   | (with_reducible refine LeO.bind ?_ (fun _=>?_))
   | exact ih0 _ _ _ _ _
   | exact pool_Check.mono _ _ _
   | exact LeO.none _
   | refine LeO.ite ?_ ?_
   | refine LeO.bind ?_ (fun _=>?_)
set_option maxHeartbeats 8000000 in
set_option maxRecDepth 100000 in
theorem pool_of.calls (k:Nat) (A0_0:Option Addr) (c0_0:Nat) (l0_0:List Int) (A0_1:Option Addr) (c0_1:Nat) (l0_1:List Int) (a1:Int) (r:List Int) (w:World) (hr0_0:Kd.C (Kd.int .i64) w A0_0 l0_0.length l0_0) (hc0_0:l0_0.length≤c0_0) (hr0_1:Kd.C (Kd.int .i64) w A0_1 l0_1.length l0_1) (hc0_1:l0_1.length≤c0_1) (h:pool_of.f k l0_0 l0_1 a1=some r) :
  Calls Try.prog 39 #[.agg #[.slice A0_0 l0_0.length c0_0,.slice A0_1 l0_1.length c0_1],.int .i64 a1] w fun e w'=>∃ v0_:Value,e=.returned (v0_)∧Kd.R (Kd.int .i64) 3 w' w.heap.size (fun _=>True) v0_ r∧Below w.heap.size w w':=by
 have hu25:=Try.underlying25
 have HR0_0:=zm hr0_0
 have HC0_0:=zm hc0_0
 clear hr0_0 hc0_0
 have HR0_1:=zm hr0_1
 have HC0_1:=zm hc0_1
 clear hr0_1 hc0_1
 have HB:=zm (Below.refl w.heap.size w)
 have H:((pool_Check.f k l0_0 l0_1).bind fun t146=>(if t146=0 then (pool_of.l0 k a1 ([]:List Int) l0_0 (l0_0.length:Int) 0) else (some ([]:List Int))))=some r:=h
 clear h
 replace H:=Option.bind_eq_some_iff.mp H
 obtain ⟨t146,A30,H⟩:=H
 replace H:(if t146=0 then (pool_of.l0 k a1 ([]:List Int) l0_0 (l0_0.length:Int) 0) else (some ([]:List Int)))=some r:=H
 have A3:=zm A30
 clear A30
 by_cases c4:t146=0
 ·rw [if_pos c4] at H
  have c4b0:(t146 == 0)=true:=beq_iff_eq.mpr c4
  have c4b1:(t146 != 0)=false:=bne_eq_false_iff_eq.mpr c4
  clear c4
  have H':=zm H
  clear H
  go_enter Try.func39,Try.ntmps39
  go_wp2_with (first|((with_reducible refine gate_dst (N:=2) rfl ?_);refine box_event ?hg (N:=2) ?hd (cs:=#[.slice A0_0 l0_0.length c0_0,.slice A0_1 l0_1.length c0_1]) (t:=25) ?hr ?_;(case hd=>rfl);(case hg=>rfl);(case hr=>first|(go_simp;done)|(go_simp;rfl));intro gb145 hg w5 hbox hb;have n0_:=zm (below_step (by repeat (first|(with_reducible first|exact HB.out|apply zlA|apply zlN|apply zlD)|exact HB.out)) hb);have n1_:=zm (hbox);have n2_:=zm ((by rw [hg];exact (below_size (by repeat (first|(with_reducible first|exact HB.out|apply zlA|apply zlN|apply zlD)|exact HB.out))):w.heap.size≤gb145));have n3_:=zm ((by rw [hg];exact (below_size (by repeat (first|(with_reducible first|exact HB.out|apply zlA|apply zlN|apply zlD)|exact HB.out))):w.heap.size≤gb145));clear HB;have HB:=n0_;have BK145:=n1_;have GW145:=n2_;have GE145:=n3_;clear n0_ n1_ n2_ n3_;clear hb hbox hg;have hcz6_0:w5.cell? ⟨gb145,0,none⟩=some (.slice A0_0 l0_0.length c0_0):=(blk_cell BK145.out 0).trans rfl;have hcz6_1:w5.cell? ⟨gb145,1,none⟩=some (.slice A0_1 l0_1.length c0_1):=(blk_cell BK145.out 1).trans rfl;have hfz6_0:=blk_frozen BK145.out 0;have hfz6_1:=blk_frozen BK145.out 1)|((with_reducible refine gate_callee (f:=13) rfl ?_);refine goesL_ (some 9) rfl rfl Try.func13 (by kernel_rfl) rfl #[.agg #[.slice A0_0 l0_0.length c0_0,.slice A0_1 l0_1.length c0_1]] rfl (by (try simp only [List.map_toArray,List.map_cons,List.map_nil]);first|done|rfl|(simp only [List.length_drop,List.length_take];rfl)) ?_;(with_reducible refine (pool_Check.calls k _ _ l0_0 _ _ l0_1 t146 _ ?side1 ?side2 ?side3 ?side4 A3.out).mono ?_);(case side1=>repeat (first|exact (Kd.C_below HR0_0.out HB.out)|(with_reducible refine Kd.C_alloc ?_ _)|(with_reducible refine Kd.C_drewN ?_ _)|(with_reducible refine Kd.C_drew ?_)));(case side2=>exact HC0_0.out);(case side3=>repeat (first|exact (Kd.C_below HR0_1.out HB.out)|(with_reducible refine Kd.C_alloc ?_ _)|(with_reducible refine Kd.C_drewN ?_ _)|(with_reducible refine Kd.C_drew ?_)));(case side4=>exact HC0_1.out);rintro e w7 ⟨rfl,hb⟩;refine ⟨_,rfl,?_⟩;have n0_:=zm (zbB (g:=gb145) (o:=.cells #[.slice A0_0 l0_0.length c0_0,.slice A0_1 l0_1.length c0_1] 25 (0,0)) (by (with_reducible repeat (first|refine zbN ?_ _|refine zbD ?_|refine zbA ?_ _));exact BK145.out) hb);have n1_:=zm (below_step (by repeat (first|(with_reducible first|exact HB.out|apply zlA|apply zlN|apply zlD|refine zlS ?_ GE145.out)|exact HB.out)) hb);clear BK145 HB;have BK145:=n0_;have HB:=n1_;clear n0_ n1_;(try clear hb);(try clear hb2);(try clear hk);(try clear hi);have hcz8_0:w7.cell? ⟨gb145,0,none⟩=some (.slice A0_0 l0_0.length c0_0):=(blk_cell BK145.out 0).trans rfl;have hcz8_1:w7.cell? ⟨gb145,1,none⟩=some (.slice A0_1 l0_1.length c0_1):=(blk_cell BK145.out 1).trans rfl;have hfz8_0:=blk_frozen BK145.out 0;have hfz8_1:=blk_frozen BK145.out 1))
  go_loopg [5,14] k (fun kq v5 v14 w'=>∃ (x5_1:List Int) (x14_1:Int),v14=.int .i64 x14_1∧Aside0 (pool_of.l0 kq a1 x5_1 l0_0 (l0_0.length:Int) x14_1=some r)∧Aside0 (kq≤k)∧Aside0 (Kd.R (Kd.int .i64) 3 w' w.heap.size (fun _=>True) v5 x5_1)∧Aside0 (w'.heap[gb145]?=some (.cells #[(.slice A0_0 l0_0.length c0_0),(.slice A0_1 l0_1.length c0_1)] 25 (0,0)))∧Aside0 (Below w.heap.size w w'))
  case atStart=>exact ⟨(([]:List Int)),(0),(by first|rfl|(simp;done)|(simp [*];done)),H',⟨Nat.le_refl _⟩,⟨by first|exact Kd.R_nil _ _ _ _ _|exact Kd.N_nil _ _ _ _ _|exact Kd.V_nil _ _ _ _ _|exact Kd.Q_nil _ _ _ _ _|exact Kd.S_nil _ _ _ _ _⟩,⟨by (with_reducible repeat (first|refine zbN ?_ _|refine zbD ?_|refine zbA ?_ _));exact BK145.out⟩,⟨by repeat (first|(with_reducible first|exact HB.out|apply zlA|apply zlN|apply zlD|refine zlS ?_ GE145.out)|exact HB.out)⟩⟩
  case round =>
   clear H'
   try clear c1
   try clear p2
   try clear c3
   try clear c4
   try clear c4b0
   try clear c4b1
   try clear hcz6_0
   try clear hcz6_1
   try clear hcz8_0
   try clear hcz8_1
   try clear hfz6_0
   try clear hfz6_1
   try clear hfz8_0
   try clear hfz8_1
   obtain ⟨x5_1,x14_1,rfl,HA,HK1,HO_5,BK145,HB⟩:=hrel
   cases gk with
   | zero=>exact absurd HA.out (by simp [pool_of.l0])
   | succ k1 =>
    have H:=HA.out
    clear HA
    simp only [pool_of.l0] at H
    by_cases c9:x14_1 < (l0_0.length:Int)
    ·rw [if_pos c9] at H
     have c9b0:decide (x14_1 < (l0_0.length:Int))=true:=decide_eq_true c9
     clear c9
     by_cases c10:0≤x14_1
     ·rw [if_pos c10] at H
      have c10b0:decide (0≤x14_1)=true:=decide_eq_true c10
      clear c10
      by_cases c11:x14_1 < (l0_0.length:Int)
      ·rw [if_pos c11] at H
       have c11b0:decide (x14_1 < (l0_0.length:Int))=true:=decide_eq_true c11
       clear c11
       by_cases c12:(rd l0_0 x14_1)=a1
       ·rw [if_pos c12] at H
        have c12b0:((rd l0_0 x14_1) == a1)=true:=beq_iff_eq.mpr c12
        have c12b1:((rd l0_0 x14_1) != a1)=false:=bne_eq_false_iff_eq.mpr c12
        clear c12
        by_cases c13:x5_1.length < 17592186044416
        ·rw [if_pos c13] at H
         have LMc13:=zm c13
         clear c13
         obtain ⟨y148,hy148⟩:∃ y_:List Int,y_=(x5_1 ++ [x14_1]):=⟨_,rfl⟩
         replace H:(pool_of.l0 k1 a1 y148 l0_0 (l0_0.length:Int) (wrap64 (x14_1 + 1)))=some r:=by first|(rw [hy148];with_reducible exact H)|(have H2_:=(Option.bind_some _ _).symm.trans H;rw [hy148];with_reducible exact H2_)|(have H2_:=(Option.bind_some _ _).symm.trans H;with_reducible exact H2_)|with_reducible exact H|(rw [hy148];exact H)|exact H
         have Ny148:=zm hy148
         clear hy148
         have H':=zm H
         clear H
         have p147:0≤(x14_1:Int):=of_decide_eq_true (by first|(with_reducible assumption)|assumption)
         have q147:x14_1 < (l0_0.length:Int):=of_decide_eq_true (by first|(with_reducible assumption)|assumption)
         obtain ⟨ad147,e147,hx147_0⟩:=Kd.at_int HR0_0.out x14_1 p147 q147
         cases e147
         replace hx147_0:=(HB.out.cell (World.block_lt_of_cell? w _ hx147_0)).trans hx147_0
         replace p147:=eq_true p147
         replace q147:=eq_true q147
         go_wp2_with (first|((with_reducible refine gate_builtin (b:=.append) (xs:=#[.tmp 22,.tmp 24]) rfl ?_);at_builtin;refine Kd.R_append (Kd.int .i64) (w0:=w) w.heap.size rfl (.tmp 22) (.tmp 24) 22 3 (.int .i64 0) 8 rfl Try.underlying22 info3 rfl (by decide) (by omega) u5 x5_1 x14_1 [.int .i64 x14_1] (fun _=>True) (fun _=>False) rfl rfl ?aP (fun _ hk=>hk.elim) ?aF ?aO ?aB ?aS ?aL ?_;(case aP=>exact rfl);(case aB=>exact (by repeat (first|(with_reducible first|exact HB.out|apply zlA|apply zlN|apply zlD|refine zlS ?_ GE145.out)|exact HB.out)));(case aF=>exact (fun _ _=>trivial));(case aO=>exact (by (with_reducible repeat (first|apply zrA|apply zrN|apply zrD));exact HO_5.out));(case aS=>exact (below_size (by repeat (first|(with_reducible first|exact HB.out|apply zlA|apply zlN|apply zlD|refine zlS ?_ GE145.out)|exact HB.out))));(case aL=>have:=LMc13.out;omega);intro v149 w14 ho hb hg hat;rw [← Ny148.out] at ho;have n0_:=zm (blk_grown (g:=gb145) (o:=.cells #[.slice (some ad147) l0_0.length c0_0,.slice A0_1 l0_1.length c0_1] 25 (0,0)) (by (with_reducible repeat (first|refine zbN ?_ _|refine zbD ?_|refine zbA ?_ _));exact BK145.out) hg (Kd.R_ne HO_5.out BK145.out (by decide)));have n1_:=zm (hb);have n2_:=zm (ho);clear BK145 HB HO_5;have BK145:=n0_;have HB:=n1_;have HO150:=n2_;clear n0_ n1_ n2_;clear ho hb hg hat))
         go_roundg k1
         case measure=>have:=HK1.out;omega
         case rel=>exact ⟨(y148),(wrap64 (x14_1 + 1)),(by first|rfl|(simp;done)|(simp [*];done)),H',⟨by have:=HK1.out;omega⟩,⟨by (with_reducible repeat (first|apply zrA|apply zrN|apply zrD));exact HO150.out⟩,⟨by (with_reducible repeat (first|refine zbN ?_ _|refine zbD ?_|refine zbA ?_ _));exact BK145.out⟩,⟨by repeat (first|(with_reducible first|exact HB.out|apply zlA|apply zlN|apply zlD|refine zlS ?_ GE145.out)|exact HB.out)⟩⟩
        ·rw [if_neg c13] at H
         exact absurd H (by simp)
       ·rw [if_neg c12] at H
        have c12b0:((rd l0_0 x14_1) == a1)=false:=beq_eq_false_iff_ne.mpr c12
        have c12b1:((rd l0_0 x14_1) != a1)=true:=bne_iff_ne.mpr c12
        have H':=zm H
        clear H
        have p147:0≤(x14_1:Int):=of_decide_eq_true (by first|(with_reducible assumption)|assumption)
        have q147:x14_1 < (l0_0.length:Int):=of_decide_eq_true (by first|(with_reducible assumption)|assumption)
        obtain ⟨ad147,e147,hx147_0⟩:=Kd.at_int HR0_0.out x14_1 p147 q147
        cases e147
        replace hx147_0:=(HB.out.cell (World.block_lt_of_cell? w _ hx147_0)).trans hx147_0
        replace p147:=eq_true p147
        replace q147:=eq_true q147
        go_wp2
        go_roundg k1
        case measure=>have:=HK1.out;omega
        case rel=>exact ⟨(x5_1),(wrap64 (x14_1 + 1)),(by first|rfl|(simp;done)|(simp [*];done)),H',⟨by have:=HK1.out;omega⟩,⟨by (with_reducible repeat (first|apply zrA|apply zrN|apply zrD));exact HO_5.out⟩,⟨by (with_reducible repeat (first|refine zbN ?_ _|refine zbD ?_|refine zbA ?_ _));exact BK145.out⟩,⟨by repeat (first|(with_reducible first|exact HB.out|apply zlA|apply zlN|apply zlD|refine zlS ?_ GE145.out)|exact HB.out)⟩⟩
      ·rw [if_neg c11] at H
       exact absurd H (by simp)
     ·rw [if_neg c10] at H
      exact absurd H (by simp)
    ·rw [if_neg c9] at H
     have c9b0:decide (x14_1 < (l0_0.length:Int))=false:=decide_eq_false c9
     clear c9
     obtain rfl:=Option.some.inj H
     go_wp2
     go_ret
     exact ⟨_,by first|rfl|(simp [errW_none,errW_some] <;> rfl)|(simp [*,errW_none,errW_some] <;> rfl),by (with_reducible repeat (first|apply zrA|apply zrN|apply zrD));exact HO_5.out,by repeat (first|(with_reducible first|exact HB.out|apply zlA|apply zlN|apply zlD|refine zlS ?_ GE145.out)|exact HB.out)⟩
 ·rw [if_neg c4] at H
  have c4b0:(t146 == 0)=false:=beq_eq_false_iff_ne.mpr c4
  have c4b1:(t146 != 0)=true:=bne_iff_ne.mpr c4
  obtain rfl:=Option.some.inj H
  go_enter Try.func39,Try.ntmps39
  go_wp2_with (first|((with_reducible refine gate_dst (N:=2) rfl ?_);refine box_event ?hg (N:=2) ?hd (cs:=#[.slice A0_0 l0_0.length c0_0,.slice A0_1 l0_1.length c0_1]) (t:=25) ?hr ?_;(case hd=>rfl);(case hg=>rfl);(case hr=>first|(go_simp;done)|(go_simp;rfl));intro gb145 hg w15 hbox hb;have n0_:=zm (below_step (by repeat (first|(with_reducible first|exact HB.out|apply zlA|apply zlN|apply zlD)|exact HB.out)) hb);have n1_:=zm (hbox);have n2_:=zm ((by rw [hg];exact (below_size (by repeat (first|(with_reducible first|exact HB.out|apply zlA|apply zlN|apply zlD)|exact HB.out))):w.heap.size≤gb145));have n3_:=zm ((by rw [hg];exact (below_size (by repeat (first|(with_reducible first|exact HB.out|apply zlA|apply zlN|apply zlD)|exact HB.out))):w.heap.size≤gb145));clear HB;have HB:=n0_;have BK145:=n1_;have GW145:=n2_;have GE145:=n3_;clear n0_ n1_ n2_ n3_;clear hb hbox hg;have hcz16_0:w15.cell? ⟨gb145,0,none⟩=some (.slice A0_0 l0_0.length c0_0):=(blk_cell BK145.out 0).trans rfl;have hcz16_1:w15.cell? ⟨gb145,1,none⟩=some (.slice A0_1 l0_1.length c0_1):=(blk_cell BK145.out 1).trans rfl;have hfz16_0:=blk_frozen BK145.out 0;have hfz16_1:=blk_frozen BK145.out 1)|((with_reducible refine gate_callee (f:=13) rfl ?_);refine goesL_ (some 9) rfl rfl Try.func13 (by kernel_rfl) rfl #[.agg #[.slice A0_0 l0_0.length c0_0,.slice A0_1 l0_1.length c0_1]] rfl (by (try simp only [List.map_toArray,List.map_cons,List.map_nil]);first|done|rfl|(simp only [List.length_drop,List.length_take];rfl)) ?_;(with_reducible refine (pool_Check.calls k _ _ l0_0 _ _ l0_1 t146 _ ?side1 ?side2 ?side3 ?side4 A3.out).mono ?_);(case side1=>repeat (first|exact (Kd.C_below HR0_0.out HB.out)|(with_reducible refine Kd.C_alloc ?_ _)|(with_reducible refine Kd.C_drewN ?_ _)|(with_reducible refine Kd.C_drew ?_)));(case side2=>exact HC0_0.out);(case side3=>repeat (first|exact (Kd.C_below HR0_1.out HB.out)|(with_reducible refine Kd.C_alloc ?_ _)|(with_reducible refine Kd.C_drewN ?_ _)|(with_reducible refine Kd.C_drew ?_)));(case side4=>exact HC0_1.out);rintro e w17 ⟨rfl,hb⟩;refine ⟨_,rfl,?_⟩;have n0_:=zm (zbB (g:=gb145) (o:=.cells #[.slice A0_0 l0_0.length c0_0,.slice A0_1 l0_1.length c0_1] 25 (0,0)) (by (with_reducible repeat (first|refine zbN ?_ _|refine zbD ?_|refine zbA ?_ _));exact BK145.out) hb);have n1_:=zm (below_step (by repeat (first|(with_reducible first|exact HB.out|apply zlA|apply zlN|apply zlD|refine zlS ?_ GE145.out)|exact HB.out)) hb);clear BK145 HB;have BK145:=n0_;have HB:=n1_;clear n0_ n1_;(try clear hb);(try clear hb2);(try clear hk);(try clear hi)))
  go_ret
  exact ⟨_,by first|rfl|(simp [errW_none,errW_some] <;> rfl)|(simp [*,errW_none,errW_some] <;> rfl),by first|exact Kd.R_nil _ _ _ _ _|exact Kd.N_nil _ _ _ _ _|exact Kd.V_nil _ _ _ _ _|exact Kd.Q_nil _ _ _ _ _|exact Kd.S_nil _ _ _ _ _,by repeat (first|(with_reducible first|exact HB.out|apply zlA|apply zlN|apply zlD|refine zlS ?_ GE145.out)|exact HB.out)⟩
end Go.Proofs.Ytlegmnpngcadhaa.Print
end
section
namespace Go.Proofs.Ytlegmnpngcadhaa.Print
open Go.RowKit Go.Proofs.YtlegmnpngcadhaaW.PrintWords Go.Proofs.YtlegmnpngcadhaaW.PrintLast Go.Proofs.YtlegmnpngcadhaaW.PrintMore
attribute [local go_sem] max2_int min2_int max_two min_two max_three min_three max_four min_four   -- for this text's walks alone
attribute [local go_sem ↓] Go.Proofs.Ytlegmnpngcadhaa.Sem.isSome_setCell
attribute [local go_sem] Go.Instr.field Go.asAgg
set_option linter.unusedVariables false
set_option linter.unusedSimpArgs false
def pool_least.l0:Nat → Bool → Int → List Int → Int → Int → List Int → List Int → Option (Int × Bool)
 | 0,_,_,_,_,_,_,_=>none
 | k + 1,x2,x8,x11,x12,x13,x152000,x152001=>if x13 < x12 then (if 0≤x13 then (if x13 < (x11.length:Int) then (if x8 < 0 then (pool_least.l0 k x2 (rd x11 x13) x11 x12 (wrap64 (x13 + 1)) x152000 x152001) else (if x2=true then (if 0≤(rd x11 x13) then (if (rd x11 x13) < (x152001.length:Int) then (if 0≤x8 then (if x8 < (x152001.length:Int) then (if (rd x152001 (rd x11 x13)) > (rd x152001 x8) then (pool_least.l0 k x2 (rd x11 x13) x11 x12 (wrap64 (x13 + 1)) x152000 x152001) else (pool_least.l0 k x2 x8 x11 x12 (wrap64 (x13 + 1)) x152000 x152001)) else (none)) else (none)) else (none)) else (none)) else (if 0≤(rd x11 x13) then (if (rd x11 x13) < (x152001.length:Int) then (if 0≤x8 then (if x8 < (x152001.length:Int) then (if (rd x152001 (rd x11 x13)) < (rd x152001 x8) then (pool_least.l0 k x2 (rd x11 x13) x11 x12 (wrap64 (x13 + 1)) x152000 x152001) else (pool_least.l0 k x2 x8 x11 x12 (wrap64 (x13 + 1)) x152000 x152001)) else (none)) else (none)) else (none)) else (none)))) else (none)) else (none)) else (some (mx x8 0,decide (x8 ≥ 0)))
def pool_least.f (k:Nat) (l0_0:List Int) (l0_1:List Int) (l1:List Int) (a2:Bool):Option (Int × Bool):=pool_least.l0 k a2 (-1) l1 (l1.length:Int) 0 l0_0 l0_1
theorem pool_least.mono_l:∀ k,(∀ y0 y1 y2 y3 y4 y5 y6,LeO (pool_least.l0 k y0 y1 y2 y3 y4 y5 y6) (pool_least.l0 (k + 1) y0 y1 y2 y3 y4 y5 y6))
 | 0=>fun _ _ _ _ _ _ _ r h=>by simp [pool_least.l0] at h
 | k + 1=>by
  have ih0:=pool_least.mono_l k
  ·intro y0 y1 y2 y3 y4 y5 y6
   unfold pool_least.l0
   repeat' first
   | (with_reducible exact ih0 _ _ _ _ _ _ _)
   | (with_reducible exact LeO.refl _)
   | (with_reducible exact LeO.none _)
   | (with_reducible refine LeO.ite ?_ ?_)
   | (with_reducible refine LeO.bind ?_ (fun _=>?_))
   | exact ih0 _ _ _ _ _ _ _
   | exact LeO.none _
   | refine LeO.ite ?_ ?_
   | refine LeO.bind ?_ (fun _=>?_)
theorem pool_least.mono:∀ a0 a1 a2 a3 k,LeO (pool_least.f k a0 a1 a2 a3) (pool_least.f (k + 1) a0 a1 a2 a3):=by
 intro a0 a1 a2 a3 k
 have ih0:=pool_least.mono_l k
 unfold pool_least.f
 repeat' first
   | (with_reducible exact ih0 _ _ _ _ _ _ _)
   | (with_reducible exact LeO.refl _)
   | (with_reducible exact LeO.none _)
   | (with_reducible refine LeO.ite ?_ ?_)
   | (with_reducible refine LeO.bind ?_ (fun _=>?_))
   | exact ih0 _ _ _ _ _ _ _
   | exact LeO.none _
   | refine LeO.ite ?_ ?_
   | refine LeO.bind ?_ (fun _=>?_)
set_option maxHeartbeats 8000000 in
set_option maxRecDepth 100000 in
theorem pool_least.calls (k:Nat) (A0_0:Option Addr) (c0_0:Nat) (l0_0:List Int) (A0_1:Option Addr) (c0_1:Nat) (l0_1:List Int) (A1:Option Addr) (c1:Nat) (l1:List Int) (a2:Bool) (r1:Int) (r2:Bool) (w:World) (hr0_0:Kd.C (Kd.int .i64) w A0_0 l0_0.length l0_0) (hc0_0:l0_0.length≤c0_0) (hr0_1:Kd.C (Kd.int .i64) w A0_1 l0_1.length l0_1) (hc0_1:l0_1.length≤c0_1) (hr1:Kd.C (Kd.int .i64) w A1 l1.length l1) (hc1:l1.length≤c1) (h:pool_least.f k l0_0 l0_1 l1 a2=some (r1,r2)) :
  Calls Try.prog 41 #[.agg #[.slice A0_0 l0_0.length c0_0,.slice A0_1 l0_1.length c0_1],.slice A1 l1.length c1,.bool a2] w fun e w'=>e=.returned (.tuple #[.int .i64 r1,.bool r2])∧Below w.heap.size w w':=by
 have hu25:=Try.underlying25
 have HR0_0:=zm hr0_0
 have HC0_0:=zm hc0_0
 clear hr0_0 hc0_0
 have HR0_1:=zm hr0_1
 have HC0_1:=zm hc0_1
 clear hr0_1 hc0_1
 have HR1:=zm hr1
 have HC1:=zm hc1
 clear hr1 hc1
 have HB:=zm (Below.refl w.heap.size w)
 have H:(pool_least.l0 k a2 (-1) l1 (l1.length:Int) 0 l0_0 l0_1)=some (r1,r2):=h
 clear h
 have H':=zm H
 clear H
 go_enter Try.func41,Try.ntmps41
 go_wp2_with (first|((with_reducible refine gate_dst (N:=3) rfl ?_);refine box_event ?hg (N:=3) ?hd (cs:=#[.slice A0_0 l0_0.length c0_0,.slice A0_1 l0_1.length c0_1]) (t:=25) ?hr ?_;(case hd=>rfl);(case hg=>rfl);(case hr=>first|(go_simp;done)|(go_simp;rfl));intro gb151 hg w4 hbox hb;have n0_:=zm (below_step (by repeat (first|(with_reducible first|exact HB.out|apply zlA|apply zlN|apply zlD)|exact HB.out)) hb);have n1_:=zm (hbox);have n2_:=zm ((by rw [hg];exact (below_size (by repeat (first|(with_reducible first|exact HB.out|apply zlA|apply zlN|apply zlD)|exact HB.out))):w.heap.size≤gb151));have n3_:=zm ((by rw [hg];exact (below_size (by repeat (first|(with_reducible first|exact HB.out|apply zlA|apply zlN|apply zlD)|exact HB.out))):w.heap.size≤gb151));clear HB;have HB:=n0_;have BK151:=n1_;have GW151:=n2_;have GE151:=n3_;clear n0_ n1_ n2_ n3_;clear hb hbox hg))
 repeat (go_quiet (first|((with_reducible refine gate_dst (N:=3) rfl ?_);refine box_event ?hg (N:=3) ?hd (cs:=#[.slice A0_0 l0_0.length c0_0,.slice A0_1 l0_1.length c0_1]) (t:=25) ?hr ?_;(case hd=>rfl);(case hg=>rfl);(case hr=>first|(go_simp;done)|(go_simp;rfl));intro gb151 hg w4 hbox hb;have n0_:=zm (below_step (by repeat (first|(with_reducible first|exact HB.out|apply zlA|apply zlN|apply zlD)|exact HB.out)) hb);have n1_:=zm (hbox);have n2_:=zm ((by rw [hg];exact (below_size (by repeat (first|(with_reducible first|exact HB.out|apply zlA|apply zlN|apply zlD)|exact HB.out))):w.heap.size≤gb151));have n3_:=zm ((by rw [hg];exact (below_size (by repeat (first|(with_reducible first|exact HB.out|apply zlA|apply zlN|apply zlD)|exact HB.out))):w.heap.size≤gb151));clear HB;have HB:=n0_;have BK151:=n1_;have GW151:=n2_;have GE151:=n3_;clear n0_ n1_ n2_ n3_;clear hb hbox hg));try go_wp2_with (first|((with_reducible refine gate_dst (N:=3) rfl ?_);refine box_event ?hg (N:=3) ?hd (cs:=#[.slice A0_0 l0_0.length c0_0,.slice A0_1 l0_1.length c0_1]) (t:=25) ?hr ?_;(case hd=>rfl);(case hg=>rfl);(case hr=>first|(go_simp;done)|(go_simp;rfl));intro gb151 hg w4 hbox hb;have n0_:=zm (below_step (by repeat (first|(with_reducible first|exact HB.out|apply zlA|apply zlN|apply zlD)|exact HB.out)) hb);have n1_:=zm (hbox);have n2_:=zm ((by rw [hg];exact (below_size (by repeat (first|(with_reducible first|exact HB.out|apply zlA|apply zlN|apply zlD)|exact HB.out))):w.heap.size≤gb151));have n3_:=zm ((by rw [hg];exact (below_size (by repeat (first|(with_reducible first|exact HB.out|apply zlA|apply zlN|apply zlD)|exact HB.out))):w.heap.size≤gb151));clear HB;have HB:=n0_;have BK151:=n1_;have GW151:=n2_;have GE151:=n3_;clear n0_ n1_ n2_ n3_;clear hb hbox hg)))
 go_loopg [8,13] k (fun kq v8 v13 w'=>∃ (x8_1:Int) (x13_1:Int),v8=.int .i64 x8_1∧v13=.int .i64 x13_1∧Aside0 (pool_least.l0 kq a2 x8_1 l1 (l1.length:Int) x13_1 l0_0 l0_1=some (r1,r2))∧Aside0 (kq≤k)∧Aside0 (w'.heap[gb151]?=some (.cells #[(.slice A0_0 l0_0.length c0_0),(.slice A0_1 l0_1.length c0_1)] 25 (0,0)))∧Aside0 (Below w.heap.size w w'))
 case atStart=>exact ⟨((-1)),(0),(by first|rfl|(simp;done)|(simp [*];done)),(by first|rfl|(simp;done)|(simp [*];done)),H',⟨Nat.le_refl _⟩,⟨by (with_reducible repeat (first|refine zbN ?_ _|refine zbD ?_|refine zbA ?_ _));exact BK151.out⟩,⟨by repeat (first|(with_reducible first|exact HB.out|apply zlA|apply zlN|apply zlD|refine zlS ?_ GE151.out)|exact HB.out)⟩⟩
 case round =>
  clear H'
  try clear c1
  try clear p2
  try clear c4
  obtain ⟨x8_1,x13_1,rfl,rfl,HA,HK1,BK151,HB⟩:=hrel
  cases gk with
  | zero=>exact absurd HA.out (by simp [pool_least.l0])
  | succ k1 =>
   have H:=HA.out
   clear HA
   simp only [pool_least.l0] at H
   by_cases c5:x13_1 < (l1.length:Int)
   ·rw [if_pos c5] at H
    have c5b0:decide (x13_1 < (l1.length:Int))=true:=decide_eq_true c5
    clear c5
    by_cases c6:0≤x13_1
    ·rw [if_pos c6] at H
     have c6b0:decide (0≤x13_1)=true:=decide_eq_true c6
     clear c6
     by_cases c7:x13_1 < (l1.length:Int)
     ·rw [if_pos c7] at H
      have c7b0:decide (x13_1 < (l1.length:Int))=true:=decide_eq_true c7
      clear c7
      by_cases c8:x8_1 < 0
      ·rw [if_pos c8] at H
       have c8b0:decide (x8_1 < 0)=true:=decide_eq_true c8
       clear c8
       have H':=zm H
       clear H
       have p152:0≤(x13_1:Int):=of_decide_eq_true (by first|(with_reducible assumption)|assumption)
       have q152:x13_1 < (l1.length:Int):=of_decide_eq_true (by first|(with_reducible assumption)|assumption)
       obtain ⟨ad152,e152,hx152_0⟩:=Kd.at_int HR1.out x13_1 p152 q152
       cases e152
       replace hx152_0:=(HB.out.cell (World.block_lt_of_cell? w _ hx152_0)).trans hx152_0
       replace p152:=eq_true p152
       replace q152:=eq_true q152
       go_wp2
       repeat (go_quiet (fail);try go_wp2)
       go_roundg k1
       case measure=>have:=HK1.out;omega
       case rel=>exact ⟨(rd l1 x13_1),(wrap64 (x13_1 + 1)),(by first|rfl|(simp;done)|(simp [*];done)),(by first|rfl|(simp;done)|(simp [*];done)),H',⟨by have:=HK1.out;omega⟩,⟨by (with_reducible repeat (first|refine zbN ?_ _|refine zbD ?_|refine zbA ?_ _));exact BK151.out⟩,⟨by repeat (first|(with_reducible first|exact HB.out|apply zlA|apply zlN|apply zlD|refine zlS ?_ GE151.out)|exact HB.out)⟩⟩
      ·rw [if_neg c8] at H
       have c8b0:decide (x8_1 < 0)=false:=decide_eq_false c8
       clear c8
       by_cases c9:a2=true
       ·subst c9
        have H1:(if 0≤(rd l1 x13_1) then (if (rd l1 x13_1) < (l0_1.length:Int) then (if 0≤x8_1 then (if x8_1 < (l0_1.length:Int) then (if (rd l0_1 (rd l1 x13_1)) > (rd l0_1 x8_1) then (pool_least.l0 k1 true (rd l1 x13_1) l1 (l1.length:Int) (wrap64 (x13_1 + 1)) l0_0 l0_1) else (pool_least.l0 k1 true x8_1 l1 (l1.length:Int) (wrap64 (x13_1 + 1)) l0_0 l0_1)) else (none)) else (none)) else (none)) else (none))=some (r1,r2):=by rw [if_pos rfl] at H;exact H
        clear H
        have H:=H1
        clear H1
        by_cases c10:0≤(rd l1 x13_1)
        ·rw [if_pos c10] at H
         have c10b0:decide (0≤(rd l1 x13_1))=true:=decide_eq_true c10
         clear c10
         by_cases c11:(rd l1 x13_1) < (l0_1.length:Int)
         ·rw [if_pos c11] at H
          have c11b0:decide ((rd l1 x13_1) < (l0_1.length:Int))=true:=decide_eq_true c11
          clear c11
          by_cases c12:0≤x8_1
          ·rw [if_pos c12] at H
           have c12b0:decide (0≤x8_1)=true:=decide_eq_true c12
           clear c12
           by_cases c13:x8_1 < (l0_1.length:Int)
           ·rw [if_pos c13] at H
            have c13b0:decide (x8_1 < (l0_1.length:Int))=true:=decide_eq_true c13
            clear c13
            by_cases c14:(rd l0_1 (rd l1 x13_1)) > (rd l0_1 x8_1)
            ·rw [if_pos c14] at H
             have c14b0:decide ((rd l0_1 x8_1) < (rd l0_1 (rd l1 x13_1)))=true:=decide_eq_true c14
             clear c14
             have H':=zm H
             clear H
             have p152:0≤(x13_1:Int):=of_decide_eq_true (by first|(with_reducible assumption)|assumption)
             have q152:x13_1 < (l1.length:Int):=of_decide_eq_true (by first|(with_reducible assumption)|assumption)
             obtain ⟨ad152,e152,hx152_0⟩:=Kd.at_int HR1.out x13_1 p152 q152
             cases e152
             replace hx152_0:=(HB.out.cell (World.block_lt_of_cell? w _ hx152_0)).trans hx152_0
             replace p152:=eq_true p152
             replace q152:=eq_true q152
             have hcz15_0:wr.cell? ⟨gb151,0,none⟩=some (.slice A0_0 l0_0.length c0_0):=(blk_cell BK151.out 0).trans rfl
             have hcz15_1:wr.cell? ⟨gb151,1,none⟩=some (.slice A0_1 l0_1.length c0_1):=(blk_cell BK151.out 1).trans rfl
             have hfz15_0:=blk_frozen BK151.out 0
             have hfz15_1:=blk_frozen BK151.out 1
             have p153:0≤((rd l1 x13_1):Int):=of_decide_eq_true (by first|(with_reducible assumption)|assumption)
             have q153:(rd l1 x13_1) < (l0_1.length:Int):=of_decide_eq_true (by first|(with_reducible assumption)|assumption)
             obtain ⟨ad153,e153,hx153_0⟩:=Kd.at_int HR0_1.out (rd l1 x13_1) p153 q153
             cases e153
             replace hx153_0:=(HB.out.cell (World.block_lt_of_cell? w _ hx153_0)).trans hx153_0
             replace p153:=eq_true p153
             replace q153:=eq_true q153
             have p154:0≤(x8_1:Int):=of_decide_eq_true (by first|(with_reducible assumption)|assumption)
             have q154:x8_1 < (l0_1.length:Int):=of_decide_eq_true (by first|(with_reducible assumption)|assumption)
             obtain ⟨ad154,e154,hx154_0⟩:=Kd.at_int HR0_1.out x8_1 p154 q154
             obtain rfl:ad153=ad154:=(by injection e154)
             replace hx154_0:=(HB.out.cell (World.block_lt_of_cell? w _ hx154_0)).trans hx154_0
             replace p154:=eq_true p154
             replace q154:=eq_true q154
             go_wp2
             repeat (go_quiet (fail);try go_wp2)
             go_roundg k1
             case measure=>have:=HK1.out;omega
             case rel=>exact ⟨(rd l1 x13_1),(wrap64 (x13_1 + 1)),(by first|rfl|(simp;done)|(simp [*];done)),(by first|rfl|(simp;done)|(simp [*];done)),H',⟨by have:=HK1.out;omega⟩,⟨by (with_reducible repeat (first|refine zbN ?_ _|refine zbD ?_|refine zbA ?_ _));exact BK151.out⟩,⟨by repeat (first|(with_reducible first|exact HB.out|apply zlA|apply zlN|apply zlD|refine zlS ?_ GE151.out)|exact HB.out)⟩⟩
            ·rw [if_neg c14] at H
             have c14b0:decide ((rd l0_1 x8_1) < (rd l0_1 (rd l1 x13_1)))=false:=decide_eq_false c14
             clear c14
             have H':=zm H
             clear H
             have p152:0≤(x13_1:Int):=of_decide_eq_true (by first|(with_reducible assumption)|assumption)
             have q152:x13_1 < (l1.length:Int):=of_decide_eq_true (by first|(with_reducible assumption)|assumption)
             obtain ⟨ad152,e152,hx152_0⟩:=Kd.at_int HR1.out x13_1 p152 q152
             cases e152
             replace hx152_0:=(HB.out.cell (World.block_lt_of_cell? w _ hx152_0)).trans hx152_0
             replace p152:=eq_true p152
             replace q152:=eq_true q152
             have hcz16_0:wr.cell? ⟨gb151,0,none⟩=some (.slice A0_0 l0_0.length c0_0):=(blk_cell BK151.out 0).trans rfl
             have hcz16_1:wr.cell? ⟨gb151,1,none⟩=some (.slice A0_1 l0_1.length c0_1):=(blk_cell BK151.out 1).trans rfl
             have hfz16_0:=blk_frozen BK151.out 0
             have hfz16_1:=blk_frozen BK151.out 1
             have p153:0≤((rd l1 x13_1):Int):=of_decide_eq_true (by first|(with_reducible assumption)|assumption)
             have q153:(rd l1 x13_1) < (l0_1.length:Int):=of_decide_eq_true (by first|(with_reducible assumption)|assumption)
             obtain ⟨ad153,e153,hx153_0⟩:=Kd.at_int HR0_1.out (rd l1 x13_1) p153 q153
             cases e153
             replace hx153_0:=(HB.out.cell (World.block_lt_of_cell? w _ hx153_0)).trans hx153_0
             replace p153:=eq_true p153
             replace q153:=eq_true q153
             have p154:0≤(x8_1:Int):=of_decide_eq_true (by first|(with_reducible assumption)|assumption)
             have q154:x8_1 < (l0_1.length:Int):=of_decide_eq_true (by first|(with_reducible assumption)|assumption)
             obtain ⟨ad154,e154,hx154_0⟩:=Kd.at_int HR0_1.out x8_1 p154 q154
             obtain rfl:ad153=ad154:=(by injection e154)
             replace hx154_0:=(HB.out.cell (World.block_lt_of_cell? w _ hx154_0)).trans hx154_0
             replace p154:=eq_true p154
             replace q154:=eq_true q154
             go_wp2
             repeat (go_quiet (fail);try go_wp2)
             go_roundg k1
             case measure=>have:=HK1.out;omega
             case rel=>exact ⟨(x8_1),(wrap64 (x13_1 + 1)),(by first|rfl|(simp;done)|(simp [*];done)),(by first|rfl|(simp;done)|(simp [*];done)),H',⟨by have:=HK1.out;omega⟩,⟨by (with_reducible repeat (first|refine zbN ?_ _|refine zbD ?_|refine zbA ?_ _));exact BK151.out⟩,⟨by repeat (first|(with_reducible first|exact HB.out|apply zlA|apply zlN|apply zlD|refine zlS ?_ GE151.out)|exact HB.out)⟩⟩
           ·rw [if_neg c13] at H
            exact absurd H (by simp)
          ·rw [if_neg c12] at H
           exact absurd H (by simp)
         ·rw [if_neg c11] at H
          exact absurd H (by simp)
        ·rw [if_neg c10] at H
         exact absurd H (by simp)
       ·replace c9:=Bool.eq_false_iff.mpr c9
        subst c9
        have H1:(if 0≤(rd l1 x13_1) then (if (rd l1 x13_1) < (l0_1.length:Int) then (if 0≤x8_1 then (if x8_1 < (l0_1.length:Int) then (if (rd l0_1 (rd l1 x13_1)) < (rd l0_1 x8_1) then (pool_least.l0 k1 false (rd l1 x13_1) l1 (l1.length:Int) (wrap64 (x13_1 + 1)) l0_0 l0_1) else (pool_least.l0 k1 false x8_1 l1 (l1.length:Int) (wrap64 (x13_1 + 1)) l0_0 l0_1)) else (none)) else (none)) else (none)) else (none))=some (r1,r2):=by rw [if_neg (show ¬ (false=true) by decide)] at H;exact H
        clear H
        have H:=H1
        clear H1
        by_cases c17:0≤(rd l1 x13_1)
        ·rw [if_pos c17] at H
         have c17b0:decide (0≤(rd l1 x13_1))=true:=decide_eq_true c17
         clear c17
         by_cases c18:(rd l1 x13_1) < (l0_1.length:Int)
         ·rw [if_pos c18] at H
          have c18b0:decide ((rd l1 x13_1) < (l0_1.length:Int))=true:=decide_eq_true c18
          clear c18
          by_cases c19:0≤x8_1
          ·rw [if_pos c19] at H
           have c19b0:decide (0≤x8_1)=true:=decide_eq_true c19
           clear c19
           by_cases c20:x8_1 < (l0_1.length:Int)
           ·rw [if_pos c20] at H
            have c20b0:decide (x8_1 < (l0_1.length:Int))=true:=decide_eq_true c20
            clear c20
            by_cases c21:(rd l0_1 (rd l1 x13_1)) < (rd l0_1 x8_1)
            ·rw [if_pos c21] at H
             have c21b0:decide ((rd l0_1 (rd l1 x13_1)) < (rd l0_1 x8_1))=true:=decide_eq_true c21
             clear c21
             have H':=zm H
             clear H
             have p152:0≤(x13_1:Int):=of_decide_eq_true (by first|(with_reducible assumption)|assumption)
             have q152:x13_1 < (l1.length:Int):=of_decide_eq_true (by first|(with_reducible assumption)|assumption)
             obtain ⟨ad152,e152,hx152_0⟩:=Kd.at_int HR1.out x13_1 p152 q152
             cases e152
             replace hx152_0:=(HB.out.cell (World.block_lt_of_cell? w _ hx152_0)).trans hx152_0
             replace p152:=eq_true p152
             replace q152:=eq_true q152
             have hcz22_0:wr.cell? ⟨gb151,0,none⟩=some (.slice A0_0 l0_0.length c0_0):=(blk_cell BK151.out 0).trans rfl
             have hcz22_1:wr.cell? ⟨gb151,1,none⟩=some (.slice A0_1 l0_1.length c0_1):=(blk_cell BK151.out 1).trans rfl
             have hfz22_0:=blk_frozen BK151.out 0
             have hfz22_1:=blk_frozen BK151.out 1
             have p155:0≤((rd l1 x13_1):Int):=of_decide_eq_true (by first|(with_reducible assumption)|assumption)
             have q155:(rd l1 x13_1) < (l0_1.length:Int):=of_decide_eq_true (by first|(with_reducible assumption)|assumption)
             obtain ⟨ad155,e155,hx155_0⟩:=Kd.at_int HR0_1.out (rd l1 x13_1) p155 q155
             cases e155
             replace hx155_0:=(HB.out.cell (World.block_lt_of_cell? w _ hx155_0)).trans hx155_0
             replace p155:=eq_true p155
             replace q155:=eq_true q155
             have p156:0≤(x8_1:Int):=of_decide_eq_true (by first|(with_reducible assumption)|assumption)
             have q156:x8_1 < (l0_1.length:Int):=of_decide_eq_true (by first|(with_reducible assumption)|assumption)
             obtain ⟨ad156,e156,hx156_0⟩:=Kd.at_int HR0_1.out x8_1 p156 q156
             obtain rfl:ad155=ad156:=(by injection e156)
             replace hx156_0:=(HB.out.cell (World.block_lt_of_cell? w _ hx156_0)).trans hx156_0
             replace p156:=eq_true p156
             replace q156:=eq_true q156
             go_wp2
             repeat (go_quiet (fail);try go_wp2)
             go_roundg k1
             case measure=>have:=HK1.out;omega
             case rel=>exact ⟨(rd l1 x13_1),(wrap64 (x13_1 + 1)),(by first|rfl|(simp;done)|(simp [*];done)),(by first|rfl|(simp;done)|(simp [*];done)),H',⟨by have:=HK1.out;omega⟩,⟨by (with_reducible repeat (first|refine zbN ?_ _|refine zbD ?_|refine zbA ?_ _));exact BK151.out⟩,⟨by repeat (first|(with_reducible first|exact HB.out|apply zlA|apply zlN|apply zlD|refine zlS ?_ GE151.out)|exact HB.out)⟩⟩
            ·rw [if_neg c21] at H
             have c21b0:decide ((rd l0_1 (rd l1 x13_1)) < (rd l0_1 x8_1))=false:=decide_eq_false c21
             clear c21
             have H':=zm H
             clear H
             have p152:0≤(x13_1:Int):=of_decide_eq_true (by first|(with_reducible assumption)|assumption)
             have q152:x13_1 < (l1.length:Int):=of_decide_eq_true (by first|(with_reducible assumption)|assumption)
             obtain ⟨ad152,e152,hx152_0⟩:=Kd.at_int HR1.out x13_1 p152 q152
             cases e152
             replace hx152_0:=(HB.out.cell (World.block_lt_of_cell? w _ hx152_0)).trans hx152_0
             replace p152:=eq_true p152
             replace q152:=eq_true q152
             have hcz23_0:wr.cell? ⟨gb151,0,none⟩=some (.slice A0_0 l0_0.length c0_0):=(blk_cell BK151.out 0).trans rfl
             have hcz23_1:wr.cell? ⟨gb151,1,none⟩=some (.slice A0_1 l0_1.length c0_1):=(blk_cell BK151.out 1).trans rfl
             have hfz23_0:=blk_frozen BK151.out 0
             have hfz23_1:=blk_frozen BK151.out 1
             have p155:0≤((rd l1 x13_1):Int):=of_decide_eq_true (by first|(with_reducible assumption)|assumption)
             have q155:(rd l1 x13_1) < (l0_1.length:Int):=of_decide_eq_true (by first|(with_reducible assumption)|assumption)
             obtain ⟨ad155,e155,hx155_0⟩:=Kd.at_int HR0_1.out (rd l1 x13_1) p155 q155
             cases e155
             replace hx155_0:=(HB.out.cell (World.block_lt_of_cell? w _ hx155_0)).trans hx155_0
             replace p155:=eq_true p155
             replace q155:=eq_true q155
             have p156:0≤(x8_1:Int):=of_decide_eq_true (by first|(with_reducible assumption)|assumption)
             have q156:x8_1 < (l0_1.length:Int):=of_decide_eq_true (by first|(with_reducible assumption)|assumption)
             obtain ⟨ad156,e156,hx156_0⟩:=Kd.at_int HR0_1.out x8_1 p156 q156
             obtain rfl:ad155=ad156:=(by injection e156)
             replace hx156_0:=(HB.out.cell (World.block_lt_of_cell? w _ hx156_0)).trans hx156_0
             replace p156:=eq_true p156
             replace q156:=eq_true q156
             go_wp2
             repeat (go_quiet (fail);try go_wp2)
             go_roundg k1
             case measure=>have:=HK1.out;omega
             case rel=>exact ⟨(x8_1),(wrap64 (x13_1 + 1)),(by first|rfl|(simp;done)|(simp [*];done)),(by first|rfl|(simp;done)|(simp [*];done)),H',⟨by have:=HK1.out;omega⟩,⟨by (with_reducible repeat (first|refine zbN ?_ _|refine zbD ?_|refine zbA ?_ _));exact BK151.out⟩,⟨by repeat (first|(with_reducible first|exact HB.out|apply zlA|apply zlN|apply zlD|refine zlS ?_ GE151.out)|exact HB.out)⟩⟩
           ·rw [if_neg c20] at H
            exact absurd H (by simp)
          ·rw [if_neg c19] at H
           exact absurd H (by simp)
         ·rw [if_neg c18] at H
          exact absurd H (by simp)
        ·rw [if_neg c17] at H
         exact absurd H (by simp)
     ·rw [if_neg c7] at H
      exact absurd H (by simp)
    ·rw [if_neg c6] at H
     exact absurd H (by simp)
   ·rw [if_neg c5] at H
    have c5b0:decide (x13_1 < (l1.length:Int))=false:=decide_eq_false c5
    clear c5
    obtain ⟨ji24,hji24⟩:∃ j_:Int,(mx x8_1 0)=j_:=⟨_,rfl⟩
    replace H:(some (ji24,decide (x8_1 ≥ 0)))=some (r1,r2):=by first|(rw [hji24] at H;exact H)|(simp only [hji24] at H ⊢;exact H)
    have hji24_:(if x8_1 < 0 then 0 else x8_1)=ji24:=hji24
    simp only [Option.some.injEq,Prod.mk.injEq] at H
    obtain ⟨rfl,rfl⟩:=H
    go_wp2
    repeat (go_quiet (fail);try go_wp2)
    go_ret2
    exact ⟨by first|rfl|(simp [errW_none,errW_some] <;> rfl)|(simp only [← hji24];first|rfl|(simp [errW_none,errW_some] <;> rfl))|(simp [*,errW_none,errW_some] <;> rfl),by repeat (first|(with_reducible first|exact HB.out|apply zlA|apply zlN|apply zlD|refine zlS ?_ GE151.out)|exact HB.out)⟩
end Go.Proofs.Ytlegmnpngcadhaa.Print
end
section
namespace Go.Proofs.Ytlegmnpngcadhaa.Print
open Go.RowKit Go.Proofs.YtlegmnpngcadhaaW.PrintWords Go.Proofs.YtlegmnpngcadhaaW.PrintLast Go.Proofs.YtlegmnpngcadhaaW.PrintMore
attribute [local go_sem] max2_int min2_int max_two min_two max_three min_three max_four min_four   -- for this text's walks alone
attribute [local go_sem ↓] Go.Proofs.Ytlegmnpngcadhaa.Sem.isSome_setCell
attribute [local go_sem] Go.Instr.field Go.asAgg
set_option linter.unusedVariables false
set_option linter.unusedSimpArgs false
def pool_Choose.f (k:Nat) (l0_0:List Int) (l0_1:List Int):Option (Int × Bool):=(pool_of.f k l0_0 l0_1 1).bind fun t158=>((pool_least.f k l0_0 l0_1 t158 false).bind fun bt161=>(some (bt161.1,bt161.2)))
theorem pool_Choose.mono:∀ a0 a1 k,LeO (pool_Choose.f k a0 a1) (pool_Choose.f (k + 1) a0 a1):=by
 intro a0 a1 k
 unfold pool_Choose.f
 repeat' first
   | (with_reducible exact pool_least.mono _ _ _ _ _)
   | (with_reducible exact pool_of.mono _ _ _ _)
   | (with_reducible exact LeO.refl _)
   | (with_reducible exact LeO.none _)
   | (with_reducible refine LeO.ite ?_ ?_)
   | (with_reducible refine LeO.bind ?_ (fun _=>?_))
   | exact pool_least.mono _ _ _ _ _
   | exact pool_of.mono _ _ _ _
   | exact LeO.none _
   | refine LeO.ite ?_ ?_
   | refine LeO.bind ?_ (fun _=>?_)
def pool_Choose.T1:Bool × List (List Nat × List Nat):=(true,[([],[]),([],[]),([1],[1]),([0,2,2],[0,2]),([3],[3]),([3],[3]),([4,3,0,1,2,3,4,5],[4]),([5,6,0,1,2,3,4,5,6],[5])])
def pool_Choose.B1:List Nat:=[0,0,2,7,15,15,63,127]
theorem pool_Choose.tab1:rtab .any (opsOf Try.f18 1)=pool_Choose.T1:=by kernel_rfl
theorem pool_Choose.bits1:waitsOk pool_Choose.T1.2 pool_Choose.B1=true:=by kernel_rfl
set_option maxHeartbeats 8000000 in
set_option maxRecDepth 100000 in
theorem pool_Choose.calls (k:Nat) (A0_0:Option Addr) (c0_0:Nat) (l0_0:List Int) (A0_1:Option Addr) (c0_1:Nat) (l0_1:List Int) (r1:Int) (r2:Bool) (w:World) (hr0_0:Kd.C (Kd.int .i64) w A0_0 l0_0.length l0_0) (hc0_0:l0_0.length≤c0_0) (hr0_1:Kd.C (Kd.int .i64) w A0_1 l0_1.length l0_1) (hc0_1:l0_1.length≤c0_1) (h:pool_Choose.f k l0_0 l0_1=some (r1,r2)) :
  Calls Try.prog 18 #[.agg #[.slice A0_0 l0_0.length c0_0,.slice A0_1 l0_1.length c0_1]] w fun e w'=>e=.returned (.tuple #[.int .i64 r1,.bool r2])∧Below w.heap.size w w':=by
 have hu25:=Try.underlying25
 have HR0_0:=zm hr0_0
 have HC0_0:=zm hc0_0
 clear hr0_0 hc0_0
 have HR0_1:=zm hr0_1
 have HC0_1:=zm hc0_1
 clear hr0_1 hc0_1
 have HB:=zm (Below.refl w.heap.size w)
 have H:((pool_of.f k l0_0 l0_1 1).bind fun t158=>((pool_least.f k l0_0 l0_1 t158 false).bind fun bt161=>(some (bt161.1,bt161.2))))=some (r1,r2):=h
 clear h
 replace H:=Option.bind_eq_some_iff.mp H
 obtain ⟨t158,A20,H⟩:=H
 replace H:((pool_least.f k l0_0 l0_1 t158 false).bind fun bt161=>(some (bt161.1,bt161.2)))=some (r1,r2):=H
 have A2:=zm A20
 clear A20
 replace H:=Option.bind_eq_some_iff.mp H
 obtain ⟨⟨t161,t162⟩,A30,H⟩:=H
 replace H:(some (t161,t162))=some (r1,r2):=H
 have A3:=zm A30
 clear A30
 simp only [Option.some.injEq,Prod.mk.injEq] at H
 obtain ⟨rfl,rfl⟩:=H
 go_enter Try.func18,Try.ntmps18
 try go_wp2_with (first|((with_reducible refine gate_dst (N:=1) rfl ?_);refine box_event ?hg (N:=1) ?hd (cs:=#[.slice A0_0 l0_0.length c0_0,.slice A0_1 l0_1.length c0_1]) (t:=25) ?hr ?_;(case hd=>rfl);(case hg=>rfl);(case hr=>first|(go_simp;done)|(go_simp;rfl));intro gb157 hg w4 hbox hb;have n0_:=zm (below_step (by repeat (first|(with_reducible first|exact HB.out|apply zlA|apply zlN|apply zlD)|exact HB.out)) hb);have n1_:=zm (hbox);have n2_:=zm ((by rw [hg];exact (below_size (by repeat (first|(with_reducible first|exact HB.out|apply zlA|apply zlN|apply zlD)|exact HB.out))):w.heap.size≤gb157));have n3_:=zm ((by rw [hg];exact (below_size (by repeat (first|(with_reducible first|exact HB.out|apply zlA|apply zlN|apply zlD)|exact HB.out))):w.heap.size≤gb157));clear HB;have HB:=n0_;have BK157:=n1_;have GW157:=n2_;have GE157:=n3_;clear n0_ n1_ n2_ n3_;clear hb hbox hg))
 have n0_:=zm (zbD BK157.out)
 have n1_:=zm (zlD HB.out)
 clear BK157 HB
 have BK157:=n0_
 have HB:=n1_
 clear n0_ n1_
 refine start_ (n:=8) (S:=fun w'=>w'.cell? ⟨gb157,0,none⟩=some (.slice A0_0 l0_0.length c0_0)∧w'.cell? ⟨gb157,1,none⟩=some (.slice A0_1 l0_1.length c0_1)) (ds:=[]) #[false,false,false,false,false,false,false,false] (by kernel_rfl) rfl rfl ⟨(blk_cell BK157.out 0).trans rfl,(blk_cell BK157.out 1).trans rfl⟩ (fun hHeld=>?_);refine with_tabW pool_Choose.tab1 pool_Choose.bits1 (fun HT_ HW_=>?_)
 generalize w4.drew=w5 at BK157 HB hHeld ⊢
 refine take_ (i:=0) (N:=some 4) (v:=?_) (a':=?_) #[true,false,false,false,false,false,false,false] rfl rfl (take_ofW HT_.out HW_.out (by kernel_rfl)) (fun _ _ _ h=>h) (Or.inl ⟨by rfl,?_⟩) hHeld ?_ ?_
 rotate_left
 ·rintro w' ⟨s0,s1⟩
  go_simp
  with_reducible rfl
 rotate_left
 ·simp only [Act.put,List.setIfInBounds_toArray,List.set_cons_zero,List.set_cons_succ,i64_w,i32_w]
  rfl
 refine take_ (i:=1) (N:=some 5) (v:=?_) (a':=?_) #[true,true,false,false,false,false,false,false] rfl rfl (take_ofW HT_.out HW_.out (by kernel_rfl)) (fun _ _ _ h=>h) (Or.inl ⟨by rfl,?_⟩) hHeld ?_ ?_
 rotate_left
 ·rintro w' ⟨s0,s1⟩
  go_simp
  with_reducible rfl
 rotate_left
 ·simp only [Act.put,List.setIfInBounds_toArray,List.set_cons_zero,List.set_cons_succ,i64_w,i32_w]
  rfl
 refine one_ (i:=2) (N:=some 6) #[true,true,true,false,false,false,false,false] rfl rfl (one_of HT_.out (by kernel_rfl)) (by decide) (fun K hK=>?_)
 refine goes_ Try.func39 (by kernel_rfl) rfl #[.agg #[.slice A0_0 l0_0.length c0_0,.slice A0_1 l0_1.length c0_1],.int .i64 1] (by rfl) rfl rfl (by (try simp only [List.map_toArray,List.map_cons,List.map_nil]);first|done|rfl|(simp only [List.length_drop,List.length_take];rfl)) ?_
 with_reducible refine (pool_of.calls k _ _ l0_0 _ _ l0_1 1 t158 _ ?side1 ?side2 ?side3 ?side4 A2.out).mono ?_
 (case side1=>repeat (first|exact (Kd.C_below HR0_0.out HB.out)|(with_reducible refine Kd.C_alloc ?_ _)|(with_reducible refine Kd.C_drewN ?_ _)|(with_reducible refine Kd.C_drew ?_)))
 (case side2=>exact HC0_0.out)
 (case side3=>repeat (first|exact (Kd.C_below HR0_1.out HB.out)|(with_reducible refine Kd.C_alloc ?_ _)|(with_reducible refine Kd.C_drewN ?_ _)|(with_reducible refine Kd.C_drew ?_)))
 (case side4=>exact HC0_1.out)
 rintro e w6 ⟨v159,rfl,ho0,hb⟩
 refine ⟨_,rfl,?_⟩
 have n0_:=zm (Kd.R_lower ho0 (below_size (by repeat (first|(with_reducible first|exact HB.out|apply zlA|apply zlN|apply zlD|refine zlS ?_ GE157.out)|exact HB.out))))
 have n1_:=zm (zbB (g:=gb157) (o:=.cells #[.slice A0_0 l0_0.length c0_0,.slice A0_1 l0_1.length c0_1] 25 (0,0)) (by (with_reducible repeat (first|refine zbN ?_ _|refine zbD ?_|refine zbA ?_ _));exact BK157.out) hb)
 have n2_:=zm (below_step (by repeat (first|(with_reducible first|exact HB.out|apply zlA|apply zlN|apply zlD|refine zlS ?_ GE157.out)|exact HB.out)) hb)
 clear BK157 HB
 have HO160:=n0_
 have BK157:=n1_
 have HB:=n2_
 clear n0_ n1_ n2_
 (try clear hb)
 (try clear hb2)
 (try clear hk)
 (try clear hi)
 (try clear ho0)
 obtain ⟨Ao7,co7,eo7⟩:=Kd.R_slice HO160.out
 (first|subst eo7|(injection eo7 with f1_ f2_ f3_;have f4_:=f1_.symm;have f5_:=f3_.symm;clear f1_ f2_ f3_;subst f4_;subst f5_))
 refine hK.out _ _ ⟨(blk_cell BK157.out 0).trans rfl,(blk_cell BK157.out 1).trans rfl⟩ (fun hHeld=>?_)
 clear hK K
 refine norm_ (a':=?_) ?_ ?_
 rotate_left
 ·show Act.put _ (some 6) _=_
  simp only [Act.put,List.setIfInBounds_toArray,List.set_cons_zero,List.set_cons_succ,i64_w,i32_w]
  rfl
 refine one_ (i:=3) (N:=some 7) #[true,true,true,true,false,false,false,false] rfl rfl (one_of HT_.out (by kernel_rfl)) (by decide) (fun K hK=>?_)
 refine goes_ Try.func41 (by kernel_rfl) rfl #[.agg #[.slice A0_0 l0_0.length c0_0,.slice A0_1 l0_1.length c0_1],.slice Ao7 t158.length co7,.bool false] (by rfl) rfl rfl (by (try simp only [List.map_toArray,List.map_cons,List.map_nil]);first|done|rfl|(simp only [List.length_drop,List.length_take];rfl)) ?_
 with_reducible refine (pool_least.calls k _ _ l0_0 _ _ l0_1 _ _ t158 false t161 t162 _ ?side1 ?side2 ?side3 ?side4 ?side5 ?side6 A3.out).mono ?_
 (case side1=>repeat (first|exact (Kd.C_below HR0_0.out HB.out)|(with_reducible refine Kd.C_alloc ?_ _)|(with_reducible refine Kd.C_drewN ?_ _)|(with_reducible refine Kd.C_drew ?_)))
 (case side2=>exact HC0_0.out)
 (case side3=>repeat (first|exact (Kd.C_below HR0_1.out HB.out)|(with_reducible refine Kd.C_alloc ?_ _)|(with_reducible refine Kd.C_drewN ?_ _)|(with_reducible refine Kd.C_drew ?_)))
 (case side4=>exact HC0_1.out)
 (case side5=>repeat (first|exact (Kd.R_reads' HO160.out).2.2|(with_reducible refine Kd.C_alloc ?_ _)|(with_reducible refine Kd.C_drewN ?_ _)|(with_reducible refine Kd.C_drew ?_)))
 (case side6=>exact (Kd.R_reads' HO160.out).2.1)
 rintro e w8 ⟨rfl,hb⟩
 refine ⟨_,rfl,?_⟩
 have n0_:=zm (Kd.R_below (by (with_reducible repeat (first|apply zrA|apply zrN|apply zrD));exact HO160.out) hb)
 have n1_:=zm (zbB (g:=gb157) (o:=.cells #[.slice A0_0 l0_0.length c0_0,.slice A0_1 l0_1.length c0_1] 25 (0,0)) (by (with_reducible repeat (first|refine zbN ?_ _|refine zbD ?_|refine zbA ?_ _));exact BK157.out) hb)
 have n2_:=zm (below_step (by repeat (first|(with_reducible first|exact HB.out|apply zlA|apply zlN|apply zlD|refine zlS ?_ GE157.out)|exact HB.out)) hb)
 clear HO160 BK157 HB
 have HO160:=n0_
 have BK157:=n1_
 have HB:=n2_
 clear n0_ n1_ n2_
 (try clear hb)
 (try clear hb2)
 (try clear hk)
 (try clear hi)
 refine hK.out _ _ ⟨(blk_cell BK157.out 0).trans rfl,(blk_cell BK157.out 1).trans rfl⟩ (fun hHeld=>?_)
 clear hK K
 refine norm_ (a':=?_) ?_ ?_
 rotate_left
 ·show Act.put _ (some 7) _=_
  simp only [Act.put,List.setIfInBounds_toArray,List.set_cons_zero,List.set_cons_succ,i64_w,i32_w]
  rfl
 refine pure_ (i:=4) (N:=some 8) (v:=?_) (a':=?_) #[true,true,true,true,true,false,false,false] rfl rfl (any_of HT_.out (by kernel_rfl)) (fun _ _ _ h=>h) (Or.inl ⟨by rfl,?_⟩) ?_ ?_
 rotate_left
 ·intro w'
  go_simp
  with_reducible rfl
 rotate_left
 ·simp only [Act.put,List.setIfInBounds_toArray,List.set_cons_zero,List.set_cons_succ,i64_w,i32_w]
  rfl
 refine pure_ (i:=5) (N:=some 9) (v:=?_) (a':=?_) #[true,true,true,true,true,true,false,false] rfl rfl (any_of HT_.out (by kernel_rfl)) (fun _ _ _ h=>h) (Or.inl ⟨by rfl,?_⟩) ?_ ?_
 rotate_left
 ·intro w'
  go_simp
  with_reducible rfl
 rotate_left
 ·simp only [Act.put,List.setIfInBounds_toArray,List.set_cons_zero,List.set_cons_succ,i64_w,i32_w]
  rfl
 refine pure_ (i:=6) (N:=some 2) (v:=?_) (a':=?_) #[true,true,true,true,true,true,true,false] rfl rfl (any_of HT_.out (by kernel_rfl)) (fun _ _ _ h=>h) (Or.inl ⟨by rfl,?_⟩) ?_ ?_
 rotate_left
 ·intro w'
  go_simp
  with_reducible rfl
 rotate_left
 ·simp only [Act.put,List.setIfInBounds_toArray,List.set_cons_zero,List.set_cons_succ,i64_w,i32_w]
  rfl
 refine pure_ (i:=7) (N:=some 3) (v:=?_) (a':=?_) #[true,true,true,true,true,true,true,true] rfl rfl (any_of HT_.out (by kernel_rfl)) (fun _ _ _ h=>h) (Or.inl ⟨by rfl,?_⟩) ?_ ?_
 rotate_left
 ·intro w'
  go_simp
  with_reducible rfl
 rotate_left
 ·simp only [Act.put,List.setIfInBounds_toArray,List.set_cons_zero,List.set_cons_succ,i64_w,i32_w]
  rfl
 refine done_ (done_of HT_.out (by kernel_rfl)) ?_
 try go_wp2
 go_ret2
 exact ⟨by first|rfl|(simp [errW_none,errW_some] <;> rfl)|(simp [*,errW_none,errW_some] <;> rfl),by repeat (first|(with_reducible first|exact HB.out|apply zlA|apply zlN|apply zlD|refine zlS ?_ GE157.out)|exact HB.out)⟩
def pool_asks.f (k:Nat) (l0_0:List Int) (l0_1:List Int) (a1:Int):Option (Int):=(pool_Check.f k l0_0 l0_1).bind fun t164=>(if t164=0 then (if a1 < 0 then (some 22) else (if a1 ≥ (l0_0.length:Int) then (some 22) else (some 0))) else (some t164))
theorem pool_asks.mono:∀ a0 a1 a2 k,LeO (pool_asks.f k a0 a1 a2) (pool_asks.f (k + 1) a0 a1 a2):=by
 intro a0 a1 a2 k
 unfold pool_asks.f
 repeat' first
   | (with_reducible exact pool_Check.mono _ _ _)
   | (with_reducible exact LeO.refl _)
   | (with_reducible exact LeO.none _)
   | (with_reducible refine LeO.ite ?_ ?_)
   | (with_reducible refine LeO.bind ?_ (fun _=>?_))
   | exact pool_Check.mono _ _ _
   | exact LeO.none _
   | refine LeO.ite ?_ ?_
   | refine LeO.bind ?_ (fun _=>?_)
set_option maxHeartbeats 8000000 in
set_option maxRecDepth 100000 in
theorem pool_asks.calls (k:Nat) (A0_0:Option Addr) (c0_0:Nat) (l0_0:List Int) (A0_1:Option Addr) (c0_1:Nat) (l0_1:List Int) (a1:Int) (r:Int) (w:World) (hr0_0:Kd.C (Kd.int .i64) w A0_0 l0_0.length l0_0) (hc0_0:l0_0.length≤c0_0) (hr0_1:Kd.C (Kd.int .i64) w A0_1 l0_1.length l0_1) (hc0_1:l0_1.length≤c0_1) (h:pool_asks.f k l0_0 l0_1 a1=some r) :
  Calls Try.prog 42 #[.agg #[.slice A0_0 l0_0.length c0_0,.slice A0_1 l0_1.length c0_1],.int .i64 a1] w fun e w'=>e=.returned (.int .i64 r)∧Below w.heap.size w w':=by
 have hu25:=Try.underlying25
 have HR0_0:=zm hr0_0
 have HC0_0:=zm hc0_0
 clear hr0_0 hc0_0
 have HR0_1:=zm hr0_1
 have HC0_1:=zm hc0_1
 clear hr0_1 hc0_1
 have HB:=zm (Below.refl w.heap.size w)
 have H:((pool_Check.f k l0_0 l0_1).bind fun t164=>(if t164=0 then (if a1 < 0 then (some 22) else (if a1 ≥ (l0_0.length:Int) then (some 22) else (some 0))) else (some t164)))=some r:=h
 clear h
 replace H:=Option.bind_eq_some_iff.mp H
 obtain ⟨t164,A30,H⟩:=H
 replace H:(if t164=0 then (if a1 < 0 then (some 22) else (if a1 ≥ (l0_0.length:Int) then (some 22) else (some 0))) else (some t164))=some r:=H
 have A3:=zm A30
 clear A30
 by_cases c4:t164=0
 ·rw [if_pos c4] at H
  have c4b0:(t164 == 0)=true:=beq_iff_eq.mpr c4
  have c4b1:(t164 != 0)=false:=bne_eq_false_iff_eq.mpr c4
  clear c4
  by_cases c5:a1 < 0
  ·rw [if_pos c5] at H
   have c5b0:decide (a1 < 0)=true:=decide_eq_true c5
   clear c5
   obtain rfl:=Option.some.inj H
   go_enter Try.func42,Try.ntmps42
   go_wp2_with (first|((with_reducible refine gate_dst (N:=2) rfl ?_);(try (refine gate_guard (by rfl) ?_;dsimp only));refine box_event ?hg (N:=2) ?hd (cs:=#[.slice A0_0 l0_0.length c0_0,.slice A0_1 l0_1.length c0_1]) (t:=25) ?hr ?_;(case hd=>rfl);(case hg=>rfl);(case hr=>first|(go_simp;done)|(go_simp;rfl));intro gb163 hg w6 hbox hb;have n0_:=zm (below_step (by repeat (first|(with_reducible first|exact HB.out|apply zlA|apply zlN|apply zlD)|exact HB.out)) hb);have n1_:=zm (hbox);have n2_:=zm ((by rw [hg];exact (below_size (by repeat (first|(with_reducible first|exact HB.out|apply zlA|apply zlN|apply zlD)|exact HB.out))):w.heap.size≤gb163));have n3_:=zm ((by rw [hg];exact (below_size (by repeat (first|(with_reducible first|exact HB.out|apply zlA|apply zlN|apply zlD)|exact HB.out))):w.heap.size≤gb163));clear HB;have HB:=n0_;have BK163:=n1_;have GW163:=n2_;have GE163:=n3_;clear n0_ n1_ n2_ n3_;clear hb hbox hg;have hcz7_0:w6.cell? ⟨gb163,0,none⟩=some (.slice A0_0 l0_0.length c0_0):=(blk_cell BK163.out 0).trans rfl;have hcz7_1:w6.cell? ⟨gb163,1,none⟩=some (.slice A0_1 l0_1.length c0_1):=(blk_cell BK163.out 1).trans rfl;have hfz7_0:=blk_frozen BK163.out 0;have hfz7_1:=blk_frozen BK163.out 1)|((with_reducible refine gate_callee (f:=13) rfl ?_);refine goesL_ (some 7) rfl rfl Try.func13 (by kernel_rfl) rfl #[.agg #[.slice A0_0 l0_0.length c0_0,.slice A0_1 l0_1.length c0_1]] rfl (by (try simp only [List.map_toArray,List.map_cons,List.map_nil]);first|done|rfl|(simp only [List.length_drop,List.length_take];rfl)) ?_;(with_reducible refine (pool_Check.calls k _ _ l0_0 _ _ l0_1 t164 _ ?side1 ?side2 ?side3 ?side4 A3.out).mono ?_);(case side1=>repeat (first|exact (Kd.C_below HR0_0.out HB.out)|(with_reducible refine Kd.C_alloc ?_ _)|(with_reducible refine Kd.C_drewN ?_ _)|(with_reducible refine Kd.C_drew ?_)));(case side2=>exact HC0_0.out);(case side3=>repeat (first|exact (Kd.C_below HR0_1.out HB.out)|(with_reducible refine Kd.C_alloc ?_ _)|(with_reducible refine Kd.C_drewN ?_ _)|(with_reducible refine Kd.C_drew ?_)));(case side4=>exact HC0_1.out);rintro e w8 ⟨rfl,hb⟩;refine ⟨_,rfl,?_⟩;have n0_:=zm (zbB (g:=gb163) (o:=.cells #[.slice A0_0 l0_0.length c0_0,.slice A0_1 l0_1.length c0_1] 25 (0,0)) (by (with_reducible repeat (first|refine zbN ?_ _|refine zbD ?_|refine zbA ?_ _));exact BK163.out) hb);have n1_:=zm (below_step (by repeat (first|(with_reducible first|exact HB.out|apply zlA|apply zlN|apply zlD|refine zlS ?_ GE163.out)|exact HB.out)) hb);clear BK163 HB;have BK163:=n0_;have HB:=n1_;clear n0_ n1_;(try clear hb);(try clear hb2);(try clear hk);(try clear hi)))
   go_ret
   exact ⟨by first|rfl|(simp [errW_none,errW_some] <;> rfl)|(simp [*,errW_none,errW_some] <;> rfl),by repeat (first|(with_reducible first|exact HB.out|apply zlA|apply zlN|apply zlD|refine zlS ?_ GE163.out)|exact HB.out)⟩
  ·rw [if_neg c5] at H
   have c5b0:decide (a1 < 0)=false:=decide_eq_false c5
   clear c5
   by_cases c9:a1 ≥ (l0_0.length:Int)
   ·rw [if_pos c9] at H
    have c9b0:decide ((l0_0.length:Int)≤a1)=true:=decide_eq_true c9
    clear c9
    obtain rfl:=Option.some.inj H
    go_enter Try.func42,Try.ntmps42
    go_wp2_with (first|((with_reducible refine gate_dst (N:=2) rfl ?_);(try (refine gate_guard (by rfl) ?_;dsimp only));refine box_event ?hg (N:=2) ?hd (cs:=#[.slice A0_0 l0_0.length c0_0,.slice A0_1 l0_1.length c0_1]) (t:=25) ?hr ?_;(case hd=>rfl);(case hg=>rfl);(case hr=>first|(go_simp;done)|(go_simp;rfl));intro gb163 hg w10 hbox hb;have n0_:=zm (below_step (by repeat (first|(with_reducible first|exact HB.out|apply zlA|apply zlN|apply zlD)|exact HB.out)) hb);have n1_:=zm (hbox);have n2_:=zm ((by rw [hg];exact (below_size (by repeat (first|(with_reducible first|exact HB.out|apply zlA|apply zlN|apply zlD)|exact HB.out))):w.heap.size≤gb163));have n3_:=zm ((by rw [hg];exact (below_size (by repeat (first|(with_reducible first|exact HB.out|apply zlA|apply zlN|apply zlD)|exact HB.out))):w.heap.size≤gb163));clear HB;have HB:=n0_;have BK163:=n1_;have GW163:=n2_;have GE163:=n3_;clear n0_ n1_ n2_ n3_;clear hb hbox hg;have hcz11_0:w10.cell? ⟨gb163,0,none⟩=some (.slice A0_0 l0_0.length c0_0):=(blk_cell BK163.out 0).trans rfl;have hcz11_1:w10.cell? ⟨gb163,1,none⟩=some (.slice A0_1 l0_1.length c0_1):=(blk_cell BK163.out 1).trans rfl;have hfz11_0:=blk_frozen BK163.out 0;have hfz11_1:=blk_frozen BK163.out 1)|((with_reducible refine gate_callee (f:=13) rfl ?_);refine goesL_ (some 7) rfl rfl Try.func13 (by kernel_rfl) rfl #[.agg #[.slice A0_0 l0_0.length c0_0,.slice A0_1 l0_1.length c0_1]] rfl (by (try simp only [List.map_toArray,List.map_cons,List.map_nil]);first|done|rfl|(simp only [List.length_drop,List.length_take];rfl)) ?_;(with_reducible refine (pool_Check.calls k _ _ l0_0 _ _ l0_1 t164 _ ?side1 ?side2 ?side3 ?side4 A3.out).mono ?_);(case side1=>repeat (first|exact (Kd.C_below HR0_0.out HB.out)|(with_reducible refine Kd.C_alloc ?_ _)|(with_reducible refine Kd.C_drewN ?_ _)|(with_reducible refine Kd.C_drew ?_)));(case side2=>exact HC0_0.out);(case side3=>repeat (first|exact (Kd.C_below HR0_1.out HB.out)|(with_reducible refine Kd.C_alloc ?_ _)|(with_reducible refine Kd.C_drewN ?_ _)|(with_reducible refine Kd.C_drew ?_)));(case side4=>exact HC0_1.out);rintro e w12 ⟨rfl,hb⟩;refine ⟨_,rfl,?_⟩;have n0_:=zm (zbB (g:=gb163) (o:=.cells #[.slice A0_0 l0_0.length c0_0,.slice A0_1 l0_1.length c0_1] 25 (0,0)) (by (with_reducible repeat (first|refine zbN ?_ _|refine zbD ?_|refine zbA ?_ _));exact BK163.out) hb);have n1_:=zm (below_step (by repeat (first|(with_reducible first|exact HB.out|apply zlA|apply zlN|apply zlD|refine zlS ?_ GE163.out)|exact HB.out)) hb);clear BK163 HB;have BK163:=n0_;have HB:=n1_;clear n0_ n1_;(try clear hb);(try clear hb2);(try clear hk);(try clear hi);have hcz13_0:w12.cell? ⟨gb163,0,none⟩=some (.slice A0_0 l0_0.length c0_0):=(blk_cell BK163.out 0).trans rfl;have hcz13_1:w12.cell? ⟨gb163,1,none⟩=some (.slice A0_1 l0_1.length c0_1):=(blk_cell BK163.out 1).trans rfl;have hfz13_0:=blk_frozen BK163.out 0;have hfz13_1:=blk_frozen BK163.out 1))
    go_ret
    exact ⟨by first|rfl|(simp [errW_none,errW_some] <;> rfl)|(simp [*,errW_none,errW_some] <;> rfl),by repeat (first|(with_reducible first|exact HB.out|apply zlA|apply zlN|apply zlD|refine zlS ?_ GE163.out)|exact HB.out)⟩
   ·rw [if_neg c9] at H
    have c9b0:decide ((l0_0.length:Int)≤a1)=false:=decide_eq_false c9
    clear c9
    obtain rfl:=Option.some.inj H
    go_enter Try.func42,Try.ntmps42
    go_wp2_with (first|((with_reducible refine gate_dst (N:=2) rfl ?_);(try (refine gate_guard (by rfl) ?_;dsimp only));refine box_event ?hg (N:=2) ?hd (cs:=#[.slice A0_0 l0_0.length c0_0,.slice A0_1 l0_1.length c0_1]) (t:=25) ?hr ?_;(case hd=>rfl);(case hg=>rfl);(case hr=>first|(go_simp;done)|(go_simp;rfl));intro gb163 hg w14 hbox hb;have n0_:=zm (below_step (by repeat (first|(with_reducible first|exact HB.out|apply zlA|apply zlN|apply zlD)|exact HB.out)) hb);have n1_:=zm (hbox);have n2_:=zm ((by rw [hg];exact (below_size (by repeat (first|(with_reducible first|exact HB.out|apply zlA|apply zlN|apply zlD)|exact HB.out))):w.heap.size≤gb163));have n3_:=zm ((by rw [hg];exact (below_size (by repeat (first|(with_reducible first|exact HB.out|apply zlA|apply zlN|apply zlD)|exact HB.out))):w.heap.size≤gb163));clear HB;have HB:=n0_;have BK163:=n1_;have GW163:=n2_;have GE163:=n3_;clear n0_ n1_ n2_ n3_;clear hb hbox hg;have hcz15_0:w14.cell? ⟨gb163,0,none⟩=some (.slice A0_0 l0_0.length c0_0):=(blk_cell BK163.out 0).trans rfl;have hcz15_1:w14.cell? ⟨gb163,1,none⟩=some (.slice A0_1 l0_1.length c0_1):=(blk_cell BK163.out 1).trans rfl;have hfz15_0:=blk_frozen BK163.out 0;have hfz15_1:=blk_frozen BK163.out 1)|((with_reducible refine gate_callee (f:=13) rfl ?_);refine goesL_ (some 7) rfl rfl Try.func13 (by kernel_rfl) rfl #[.agg #[.slice A0_0 l0_0.length c0_0,.slice A0_1 l0_1.length c0_1]] rfl (by (try simp only [List.map_toArray,List.map_cons,List.map_nil]);first|done|rfl|(simp only [List.length_drop,List.length_take];rfl)) ?_;(with_reducible refine (pool_Check.calls k _ _ l0_0 _ _ l0_1 t164 _ ?side1 ?side2 ?side3 ?side4 A3.out).mono ?_);(case side1=>repeat (first|exact (Kd.C_below HR0_0.out HB.out)|(with_reducible refine Kd.C_alloc ?_ _)|(with_reducible refine Kd.C_drewN ?_ _)|(with_reducible refine Kd.C_drew ?_)));(case side2=>exact HC0_0.out);(case side3=>repeat (first|exact (Kd.C_below HR0_1.out HB.out)|(with_reducible refine Kd.C_alloc ?_ _)|(with_reducible refine Kd.C_drewN ?_ _)|(with_reducible refine Kd.C_drew ?_)));(case side4=>exact HC0_1.out);rintro e w16 ⟨rfl,hb⟩;refine ⟨_,rfl,?_⟩;have n0_:=zm (zbB (g:=gb163) (o:=.cells #[.slice A0_0 l0_0.length c0_0,.slice A0_1 l0_1.length c0_1] 25 (0,0)) (by (with_reducible repeat (first|refine zbN ?_ _|refine zbD ?_|refine zbA ?_ _));exact BK163.out) hb);have n1_:=zm (below_step (by repeat (first|(with_reducible first|exact HB.out|apply zlA|apply zlN|apply zlD|refine zlS ?_ GE163.out)|exact HB.out)) hb);clear BK163 HB;have BK163:=n0_;have HB:=n1_;clear n0_ n1_;(try clear hb);(try clear hb2);(try clear hk);(try clear hi);have hcz17_0:w16.cell? ⟨gb163,0,none⟩=some (.slice A0_0 l0_0.length c0_0):=(blk_cell BK163.out 0).trans rfl;have hcz17_1:w16.cell? ⟨gb163,1,none⟩=some (.slice A0_1 l0_1.length c0_1):=(blk_cell BK163.out 1).trans rfl;have hfz17_0:=blk_frozen BK163.out 0;have hfz17_1:=blk_frozen BK163.out 1))
    go_ret
    exact ⟨by first|rfl|(simp [errW_none,errW_some] <;> rfl)|(simp [*,errW_none,errW_some] <;> rfl),by repeat (first|(with_reducible first|exact HB.out|apply zlA|apply zlN|apply zlD|refine zlS ?_ GE163.out)|exact HB.out)⟩
 ·rw [if_neg c4] at H
  have c4b0:(t164 == 0)=false:=beq_eq_false_iff_ne.mpr c4
  have c4b1:(t164 != 0)=true:=bne_iff_ne.mpr c4
  obtain rfl:=Option.some.inj H
  go_enter Try.func42,Try.ntmps42
  go_wp2_with (first|((with_reducible refine gate_dst (N:=2) rfl ?_);(try (refine gate_guard (by rfl) ?_;dsimp only));refine box_event ?hg (N:=2) ?hd (cs:=#[.slice A0_0 l0_0.length c0_0,.slice A0_1 l0_1.length c0_1]) (t:=25) ?hr ?_;(case hd=>rfl);(case hg=>rfl);(case hr=>first|(go_simp;done)|(go_simp;rfl));intro gb163 hg w18 hbox hb;have n0_:=zm (below_step (by repeat (first|(with_reducible first|exact HB.out|apply zlA|apply zlN|apply zlD)|exact HB.out)) hb);have n1_:=zm (hbox);have n2_:=zm ((by rw [hg];exact (below_size (by repeat (first|(with_reducible first|exact HB.out|apply zlA|apply zlN|apply zlD)|exact HB.out))):w.heap.size≤gb163));have n3_:=zm ((by rw [hg];exact (below_size (by repeat (first|(with_reducible first|exact HB.out|apply zlA|apply zlN|apply zlD)|exact HB.out))):w.heap.size≤gb163));clear HB;have HB:=n0_;have BK163:=n1_;have GW163:=n2_;have GE163:=n3_;clear n0_ n1_ n2_ n3_;clear hb hbox hg;have hcz19_0:w18.cell? ⟨gb163,0,none⟩=some (.slice A0_0 l0_0.length c0_0):=(blk_cell BK163.out 0).trans rfl;have hcz19_1:w18.cell? ⟨gb163,1,none⟩=some (.slice A0_1 l0_1.length c0_1):=(blk_cell BK163.out 1).trans rfl;have hfz19_0:=blk_frozen BK163.out 0;have hfz19_1:=blk_frozen BK163.out 1)|((with_reducible refine gate_callee (f:=13) rfl ?_);refine goesL_ (some 7) rfl rfl Try.func13 (by kernel_rfl) rfl #[.agg #[.slice A0_0 l0_0.length c0_0,.slice A0_1 l0_1.length c0_1]] rfl (by (try simp only [List.map_toArray,List.map_cons,List.map_nil]);first|done|rfl|(simp only [List.length_drop,List.length_take];rfl)) ?_;(with_reducible refine (pool_Check.calls k _ _ l0_0 _ _ l0_1 t164 _ ?side1 ?side2 ?side3 ?side4 A3.out).mono ?_);(case side1=>repeat (first|exact (Kd.C_below HR0_0.out HB.out)|(with_reducible refine Kd.C_alloc ?_ _)|(with_reducible refine Kd.C_drewN ?_ _)|(with_reducible refine Kd.C_drew ?_)));(case side2=>exact HC0_0.out);(case side3=>repeat (first|exact (Kd.C_below HR0_1.out HB.out)|(with_reducible refine Kd.C_alloc ?_ _)|(with_reducible refine Kd.C_drewN ?_ _)|(with_reducible refine Kd.C_drew ?_)));(case side4=>exact HC0_1.out);rintro e w20 ⟨rfl,hb⟩;refine ⟨_,rfl,?_⟩;have n0_:=zm (zbB (g:=gb163) (o:=.cells #[.slice A0_0 l0_0.length c0_0,.slice A0_1 l0_1.length c0_1] 25 (0,0)) (by (with_reducible repeat (first|refine zbN ?_ _|refine zbD ?_|refine zbA ?_ _));exact BK163.out) hb);have n1_:=zm (below_step (by repeat (first|(with_reducible first|exact HB.out|apply zlA|apply zlN|apply zlD|refine zlS ?_ GE163.out)|exact HB.out)) hb);clear BK163 HB;have BK163:=n0_;have HB:=n1_;clear n0_ n1_;(try clear hb);(try clear hb2);(try clear hk);(try clear hi)))
  go_ret
  exact ⟨by first|rfl|(simp [errW_none,errW_some] <;> rfl)|(simp [*,errW_none,errW_some] <;> rfl),by repeat (first|(with_reducible first|exact HB.out|apply zlA|apply zlN|apply zlD|refine zlS ?_ GE163.out)|exact HB.out)⟩
def slices_Clone_int_int.f (l0:List Int):Option (List Int):=(some (([]:List Int):List Int)).bind fun y165=>(if y165.length + l0.length < 17592186044416 then (some (y165 ++ l0)) else (none))
set_option maxHeartbeats 8000000 in
set_option maxRecDepth 100000 in
theorem slices_Clone_int_int.calls_some (a0:Addr) (c0:Nat) (l0:List Int) (r:List Int) (w:World) (hr0:Kd.C (Kd.int .i64) w (some a0) l0.length l0) (hc0:l0.length≤c0) (h:slices_Clone_int_int.f l0=some r) :
  Calls Try.prog 49 #[.slice (some a0) l0.length c0] w fun e w'=>∃ v0_:Value,e=.returned (v0_)∧Kd.R (Kd.int .i64) 3 w' w.heap.size (fun _=>True) v0_ r∧Below w.heap.size w w':=by
 have HR0:=zm hr0
 have HC0:=zm hc0
 clear hr0 hc0
 have HB:=zm (Below.refl w.heap.size w)
 have H:((some (([]:List Int):List Int)).bind fun y165=>(if y165.length + l0.length < 17592186044416 then (some (y165 ++ l0)) else (none)))=some r:=h
 clear h
 obtain ⟨y165,hy165⟩:∃ y_:List Int,y_=(([]:List Int)):=⟨_,rfl⟩
 replace H:(if y165.length + l0.length < 17592186044416 then (some (y165 ++ l0)) else (none))=some r:=by first|(rw [hy165];with_reducible exact H)|(have H2_:=(Option.bind_some _ _).symm.trans H;rw [hy165];with_reducible exact H2_)|(have H2_:=(Option.bind_some _ _).symm.trans H;with_reducible exact H2_)|with_reducible exact H|(rw [hy165];exact H)|exact H
 have Ny165:=zm hy165
 clear hy165
 by_cases c2:y165.length + l0.length < 17592186044416
 ·rw [if_pos c2] at H
  have LMc2:=zm c2
  clear c2
  obtain ⟨y168,hy168⟩:∃ y_:List Int,y_=(y165 ++ l0):=⟨_,rfl⟩
  replace H:(some y168)=some r:=by first|(rw [hy168];with_reducible exact H)|(have H2_:=(Option.bind_some _ _).symm.trans H;rw [hy168];with_reducible exact H2_)|(have H2_:=(Option.bind_some _ _).symm.trans H;with_reducible exact H2_)|with_reducible exact H|(rw [hy168];exact H)|exact H
  have Ny168:=zm hy168
  clear hy168
  obtain rfl:=Option.some.inj H
  have hq_:=Lib.run_eql_slice_nil (P:=Try.prog) w 22 3 (some a0) l0.length c0 0 0 Try.underlying22
  go_enter Try.func49,Try.ntmps49
  go_wp2_with (first|((with_reducible refine gate_dst (N:=5) rfl ?_);refine Kd.R_lit (Kd.int .i64) _ 3 ?hg (N:=5) ?hd (xs:=([]:List Int)) (inner:=[]) (ok:=fun _=>True) (okp:=fun _=>True) ?hr ?hp (fun _ hk=>hk) trivial (Below.refl _ _) (Nat.le_refl _) (by simp) ?_;(case hd=>rfl);(case hg=>rfl);(case hr=>first|(go_simp;done)|(go_simp;rfl));(case hp=>exact (Reps.none _ _));intro v166 w3 ho4 hb hg_ hnew_;clear hg_ hnew_;(first|rw [← Ny165.out] at ho4|(simp only [Int.reduceToNat] at ho4;rw [← Ny165.out] at ho4));have n0_:=zm (Kd.R_lower ho4 (below_size (by repeat (first|(with_reducible first|exact HB.out|apply zlA|apply zlN|apply zlD)|exact HB.out))));have n1_:=zm (below_step (by repeat (first|(with_reducible first|exact HB.out|apply zlA|apply zlN|apply zlD)|exact HB.out)) hb);clear HB;have HO167:=n0_;have HB:=n1_;clear n0_ n1_;clear hb ho4)|((with_reducible refine gate_builtin (b:=.append) (xs:=#[.tmp 5,.tmp 6]) rfl ?_);at_builtin;refine Kd.R_append_rows (Kd.int .i64) (w0:=w) w.heap.size rfl (.tmp 5) (.tmp 6) 22 3 (.int .i64 0) 8 rfl Try.underlying22 info3 rfl (by decide) (by omega) v166 y165 l0 _ _ _ (fun _=>True) (fun _=>False) rfl rfl ?aO ?aR (fun _ _ h=>h) (fun _ h=>h.elim) ?aF ?aB ?aS ?aL ?_;(case aR=>repeat (first|exact (Kd.C_below HR0.out HB.out)|(with_reducible refine Kd.C_alloc ?_ _)|(with_reducible refine Kd.C_drewN ?_ _)|(with_reducible refine Kd.C_drew ?_)));(case aB=>exact (by repeat (first|(with_reducible first|exact HB.out|apply zlA|apply zlN|apply zlD)|exact HB.out)));(case aF=>exact (fun _ _=>trivial));(case aO=>exact (by (with_reducible repeat (first|apply zrA|apply zrN|apply zrD));exact HO167.out));(case aS=>exact (below_size (by repeat (first|(with_reducible first|exact HB.out|apply zlA|apply zlN|apply zlD)|exact HB.out))));(case aL=>have:=LMc2.out;omega);intro v169 w5 ho hb hg hat;rw [← Ny168.out] at ho;have n0_:=zm (hb);have n1_:=zm (ho);clear HB HO167;have HB:=n0_;have HO170:=n1_;clear n0_ n1_;clear ho hb hg hat))
  go_ret
  exact ⟨_,by first|rfl|(simp [errW_none,errW_some] <;> rfl)|(simp [*,errW_none,errW_some] <;> rfl),by (with_reducible repeat (first|apply zrA|apply zrN|apply zrD));exact HO170.out,by repeat (first|(with_reducible first|exact HB.out|apply zlA|apply zlN|apply zlD)|exact HB.out)⟩
 ·rw [if_neg c2] at H
  exact absurd H (by simp)
theorem slices_Clone_int_int.calls (A0:Option Addr) (c0:Nat) (l0:List Int) (r:List Int) (w:World) (hr0:Kd.C (Kd.int .i64) w A0 l0.length l0) (hc0:l0.length≤c0) (h:slices_Clone_int_int.f l0=some r) :
  Calls Try.prog 49 #[.slice A0 l0.length c0] w fun e w'=>∃ v0_:Value,e=.returned (v0_)∧Kd.R (Kd.int .i64) 3 w' w.heap.size (fun _=>True) v0_ r∧Below w.heap.size w w':=by
 rcases A0 with _|a0
 ·have hl:l0=[]:=by
   rcases l0 with _|⟨x,l⟩
   ·rfl
   ·obtain ⟨ad,he,_⟩:=hr0.2.2 (by simp)
    cases he
  subst hl
  have hrr:r=[]:=by
   have h2:slices_Clone_int_int.f []=some []:=by first|decide|rfl|(simp [slices_Clone_int_int.f];done)
   rw [h2] at h
   exact (Option.some.inj h).symm
  subst hrr
  have HB:=zm (Below.refl w.heap.size w)
  clear h hr0 hc0
  have hq_:=Lib.run_eql_slice_nil (P:=Try.prog) w 22 3 none 0 c0 0 0 Try.underlying22
  go_enter Try.func49,Try.ntmps49
  go_wp2
  go_ret
  exact ⟨_,rfl,Kd.R_nil _ _ _ _ _,HB.out⟩
 ·exact slices_Clone_int_int.calls_some a0 c0 l0 r w hr0 hc0 h
def slices_Clone_int64_int64.f (l0:List Int):Option (List Int):=(some (([]:List Int):List Int)).bind fun y171=>(if y171.length + l0.length < 17592186044416 then (some (y171 ++ l0)) else (none))
set_option maxHeartbeats 8000000 in
set_option maxRecDepth 100000 in
theorem slices_Clone_int64_int64.calls_some (a0:Addr) (c0:Nat) (l0:List Int) (r:List Int) (w:World) (hr0:Kd.C (Kd.int .i64) w (some a0) l0.length l0) (hc0:l0.length≤c0) (h:slices_Clone_int64_int64.f l0=some r) :
  Calls Try.prog 50 #[.slice (some a0) l0.length c0] w fun e w'=>∃ v0_:Value,e=.returned (v0_)∧Kd.R (Kd.int .i64) 2 w' w.heap.size (fun _=>True) v0_ r∧Below w.heap.size w w':=by
 have HR0:=zm hr0
 have HC0:=zm hc0
 clear hr0 hc0
 have HB:=zm (Below.refl w.heap.size w)
 have H:((some (([]:List Int):List Int)).bind fun y171=>(if y171.length + l0.length < 17592186044416 then (some (y171 ++ l0)) else (none)))=some r:=h
 clear h
 obtain ⟨y171,hy171⟩:∃ y_:List Int,y_=(([]:List Int)):=⟨_,rfl⟩
 replace H:(if y171.length + l0.length < 17592186044416 then (some (y171 ++ l0)) else (none))=some r:=by first|(rw [hy171];with_reducible exact H)|(have H2_:=(Option.bind_some _ _).symm.trans H;rw [hy171];with_reducible exact H2_)|(have H2_:=(Option.bind_some _ _).symm.trans H;with_reducible exact H2_)|with_reducible exact H|(rw [hy171];exact H)|exact H
 have Ny171:=zm hy171
 clear hy171
 by_cases c2:y171.length + l0.length < 17592186044416
 ·rw [if_pos c2] at H
  have LMc2:=zm c2
  clear c2
  obtain ⟨y174,hy174⟩:∃ y_:List Int,y_=(y171 ++ l0):=⟨_,rfl⟩
  replace H:(some y174)=some r:=by first|(rw [hy174];with_reducible exact H)|(have H2_:=(Option.bind_some _ _).symm.trans H;rw [hy174];with_reducible exact H2_)|(have H2_:=(Option.bind_some _ _).symm.trans H;with_reducible exact H2_)|with_reducible exact H|(rw [hy174];exact H)|exact H
  have Ny174:=zm hy174
  clear hy174
  obtain rfl:=Option.some.inj H
  have hq_:=Lib.run_eql_slice_nil (P:=Try.prog) w 23 2 (some a0) l0.length c0 0 0 Try.underlying23
  go_enter Try.func50,Try.ntmps50
  go_wp2_with (first|((with_reducible refine gate_dst (N:=5) rfl ?_);refine Kd.R_lit (Kd.int .i64) _ 2 ?hg (N:=5) ?hd (xs:=([]:List Int)) (inner:=[]) (ok:=fun _=>True) (okp:=fun _=>True) ?hr ?hp (fun _ hk=>hk) trivial (Below.refl _ _) (Nat.le_refl _) (by simp) ?_;(case hd=>rfl);(case hg=>rfl);(case hr=>first|(go_simp;done)|(go_simp;rfl));(case hp=>exact (Reps.none _ _));intro v172 w3 ho4 hb hg_ hnew_;clear hg_ hnew_;(first|rw [← Ny171.out] at ho4|(simp only [Int.reduceToNat] at ho4;rw [← Ny171.out] at ho4));have n0_:=zm (Kd.R_lower ho4 (below_size (by repeat (first|(with_reducible first|exact HB.out|apply zlA|apply zlN|apply zlD)|exact HB.out))));have n1_:=zm (below_step (by repeat (first|(with_reducible first|exact HB.out|apply zlA|apply zlN|apply zlD)|exact HB.out)) hb);clear HB;have HO173:=n0_;have HB:=n1_;clear n0_ n1_;clear hb ho4)|((with_reducible refine gate_builtin (b:=.append) (xs:=#[.tmp 5,.tmp 6]) rfl ?_);at_builtin;refine Kd.R_append_rows (Kd.int .i64) (w0:=w) w.heap.size rfl (.tmp 5) (.tmp 6) 23 2 (.int .i64 0) 8 rfl Try.underlying23 info2 rfl (by decide) (by omega) v172 y171 l0 _ _ _ (fun _=>True) (fun _=>False) rfl rfl ?aO ?aR (fun _ _ h=>h) (fun _ h=>h.elim) ?aF ?aB ?aS ?aL ?_;(case aR=>repeat (first|exact (Kd.C_below HR0.out HB.out)|(with_reducible refine Kd.C_alloc ?_ _)|(with_reducible refine Kd.C_drewN ?_ _)|(with_reducible refine Kd.C_drew ?_)));(case aB=>exact (by repeat (first|(with_reducible first|exact HB.out|apply zlA|apply zlN|apply zlD)|exact HB.out)));(case aF=>exact (fun _ _=>trivial));(case aO=>exact (by (with_reducible repeat (first|apply zrA|apply zrN|apply zrD));exact HO173.out));(case aS=>exact (below_size (by repeat (first|(with_reducible first|exact HB.out|apply zlA|apply zlN|apply zlD)|exact HB.out))));(case aL=>have:=LMc2.out;omega);intro v175 w5 ho hb hg hat;rw [← Ny174.out] at ho;have n0_:=zm (hb);have n1_:=zm (ho);clear HB HO173;have HB:=n0_;have HO176:=n1_;clear n0_ n1_;clear ho hb hg hat))
  go_ret
  exact ⟨_,by first|rfl|(simp [errW_none,errW_some] <;> rfl)|(simp [*,errW_none,errW_some] <;> rfl),by (with_reducible repeat (first|apply zrA|apply zrN|apply zrD));exact HO176.out,by repeat (first|(with_reducible first|exact HB.out|apply zlA|apply zlN|apply zlD)|exact HB.out)⟩
 ·rw [if_neg c2] at H
  exact absurd H (by simp)
theorem slices_Clone_int64_int64.calls (A0:Option Addr) (c0:Nat) (l0:List Int) (r:List Int) (w:World) (hr0:Kd.C (Kd.int .i64) w A0 l0.length l0) (hc0:l0.length≤c0) (h:slices_Clone_int64_int64.f l0=some r) :
  Calls Try.prog 50 #[.slice A0 l0.length c0] w fun e w'=>∃ v0_:Value,e=.returned (v0_)∧Kd.R (Kd.int .i64) 2 w' w.heap.size (fun _=>True) v0_ r∧Below w.heap.size w w':=by
 rcases A0 with _|a0
 ·have hl:l0=[]:=by
   rcases l0 with _|⟨x,l⟩
   ·rfl
   ·obtain ⟨ad,he,_⟩:=hr0.2.2 (by simp)
    cases he
  subst hl
  have hrr:r=[]:=by
   have h2:slices_Clone_int64_int64.f []=some []:=by first|decide|rfl|(simp [slices_Clone_int64_int64.f];done)
   rw [h2] at h
   exact (Option.some.inj h).symm
  subst hrr
  have HB:=zm (Below.refl w.heap.size w)
  clear h hr0 hc0
  have hq_:=Lib.run_eql_slice_nil (P:=Try.prog) w 23 2 none 0 c0 0 0 Try.underlying23
  go_enter Try.func50,Try.ntmps50
  go_wp2
  go_ret
  exact ⟨_,rfl,Kd.R_nil _ _ _ _ _,HB.out⟩
 ·exact slices_Clone_int64_int64.calls_some a0 c0 l0 r w hr0 hc0 h
end Go.Proofs.Ytlegmnpngcadhaa.Print
end
section
namespace Go.Proofs.Ytlegmnpngcadhaa.Print
open Go.RowKit Go.Proofs.YtlegmnpngcadhaaW.PrintWords Go.Proofs.YtlegmnpngcadhaaW.PrintLast Go.Proofs.YtlegmnpngcadhaaW.PrintMore
attribute [local go_sem] max2_int min2_int max_two min_two max_three min_three max_four min_four   -- for this text's walks alone
attribute [local go_sem ↓] Go.Proofs.Ytlegmnpngcadhaa.Sem.isSome_setCell
attribute [local go_sem] Go.Instr.field Go.asAgg
set_option linter.unusedVariables false
set_option linter.unusedSimpArgs false
def pool_Clone.f (l0_0:List Int) (l0_1:List Int):Option (List Int × List Int):=(slices_Clone_int_int.f l0_0).bind fun t179=>((slices_Clone_int64_int64.f l0_1).bind fun t182=>(some (t179,t182)))
def pool_Clone.T1:Bool × List (List Nat × List Nat):=(true,[([],[]),([0],[0]),([1],[1]),([],[]),([3],[3]),([4,2],[4]),([2,5],[2,5]),([6,5,0,1,2,3,4,5,6],[6])])
def pool_Clone.B1:List Nat:=[0,1,3,0,8,31,63,127]
theorem pool_Clone.tab1:rtab .any (opsOf Try.f34 1)=pool_Clone.T1:=by kernel_rfl
theorem pool_Clone.bits1:waitsOk pool_Clone.T1.2 pool_Clone.B1=true:=by kernel_rfl
set_option maxHeartbeats 8000000 in
set_option maxRecDepth 100000 in
theorem pool_Clone.calls (A0_0:Option Addr) (c0_0:Nat) (l0_0:List Int) (A0_1:Option Addr) (c0_1:Nat) (l0_1:List Int) (r1:List Int) (r2:List Int) (w:World) (hr0_0:Kd.C (Kd.int .i64) w A0_0 l0_0.length l0_0) (hc0_0:l0_0.length≤c0_0) (hr0_1:Kd.C (Kd.int .i64) w A0_1 l0_1.length l0_1) (hc0_1:l0_1.length≤c0_1) (h:pool_Clone.f l0_0 l0_1=some (r1,r2)) :
  Calls Try.prog 34 #[.agg #[.slice A0_0 l0_0.length c0_0,.slice A0_1 l0_1.length c0_1]] w fun e w'=>∃ v0_ v1_:Value,e=.returned (.agg #[v0_,v1_])∧Kd.R (Kd.int .i64) 3 w' w.heap.size (fun _=>True) v0_ r1∧Kd.R (Kd.int .i64) 2 w' w.heap.size (fun _=>True) v1_ r2∧Below w.heap.size w w':=by
 have hu25:=Try.underlying25
 have HR0_0:=zm hr0_0
 have HC0_0:=zm hc0_0
 clear hr0_0 hc0_0
 have HR0_1:=zm hr0_1
 have HC0_1:=zm hc0_1
 clear hr0_1 hc0_1
 have HB:=zm (Below.refl w.heap.size w)
 have H:((slices_Clone_int_int.f l0_0).bind fun t179=>((slices_Clone_int64_int64.f l0_1).bind fun t182=>(some (t179,t182))))=some (r1,r2):=h
 clear h
 replace H:=Option.bind_eq_some_iff.mp H
 obtain ⟨t179,A20,H⟩:=H
 replace H:((slices_Clone_int64_int64.f l0_1).bind fun t182=>(some (t179,t182)))=some (r1,r2):=H
 have A2:=zm A20
 clear A20
 replace H:=Option.bind_eq_some_iff.mp H
 obtain ⟨t182,A30,H⟩:=H
 replace H:(some (t179,t182))=some (r1,r2):=H
 have A3:=zm A30
 clear A30
 simp only [Option.some.injEq,Prod.mk.injEq] at H
 obtain ⟨rfl,rfl⟩:=H
 go_enter Try.func34,Try.ntmps34
 try go_wp2_with (first|((with_reducible refine gate_dst (N:=1) rfl ?_);refine box_event ?hg (N:=1) ?hd (cs:=#[.slice A0_0 l0_0.length c0_0,.slice A0_1 l0_1.length c0_1]) (t:=25) ?hr ?_;(case hd=>rfl);(case hg=>rfl);(case hr=>first|(go_simp;done)|(go_simp;rfl));intro gb177 hg w4 hbox hb;have n0_:=zm (below_step (by repeat (first|(with_reducible first|exact HB.out|apply zlA|apply zlN|apply zlD)|exact HB.out)) hb);have n1_:=zm (hbox);have n2_:=zm ((by rw [hg];exact (below_size (by repeat (first|(with_reducible first|exact HB.out|apply zlA|apply zlN|apply zlD)|exact HB.out))):w.heap.size≤gb177));have n3_:=zm ((by rw [hg];exact (below_size (by repeat (first|(with_reducible first|exact HB.out|apply zlA|apply zlN|apply zlD)|exact HB.out))):w.heap.size≤gb177));clear HB;have HB:=n0_;have BK177:=n1_;have GW177:=n2_;have GE177:=n3_;clear n0_ n1_ n2_ n3_;clear hb hbox hg)|((with_reducible refine gate_dst (N:=2) rfl ?_);refine box_event ?hg (N:=2) ?hd (cs:=#[.slice none 0 0,.slice none 0 0]) (t:=25) ?hr ?_;(case hd=>rfl);(case hg=>rfl);(case hr=>first|(go_simp;done)|(go_simp;rfl));intro gb178 hg w5 hbox hb;have n0_:=zm (zbB (g:=gb177) (o:=.cells #[.slice A0_0 l0_0.length c0_0,.slice A0_1 l0_1.length c0_1] 25 (0,0)) (by (with_reducible repeat (first|refine zbN ?_ _|refine zbD ?_|refine zbA ?_ _));exact BK177.out) hb);have n1_:=zm (below_step (by repeat (first|(with_reducible first|exact HB.out|apply zlA|apply zlN|apply zlD|refine zlS ?_ GE177.out)|exact HB.out)) hb);have n2_:=zm (hbox);have n3_:=zm ((by rw [hg];exact (below_size (by repeat (first|(with_reducible first|exact HB.out|apply zlA|apply zlN|apply zlD|refine zlS ?_ GE177.out)|exact HB.out))):w.heap.size≤gb178));have n4_:=zm ((by rw [hg];exact (below_size (by repeat (first|(with_reducible first|exact HB.out|apply zlA|apply zlN|apply zlD|refine zlS ?_ GE177.out)|exact HB.out))):w.heap.size≤gb178));have n5_:=zm ((by rw [hg];exact Nat.ne_of_lt (blk_lt (g:=gb177) (o:=.cells #[.slice A0_0 l0_0.length c0_0,.slice A0_1 l0_1.length c0_1] 25 (0,0)) (by (with_reducible repeat (first|refine zbN ?_ _|refine zbD ?_|refine zbA ?_ _));exact BK177.out)):gb177≠gb178));have n6_:=zm ((by rw [hg];exact Nat.ne_of_gt (blk_lt (g:=gb177) (o:=.cells #[.slice A0_0 l0_0.length c0_0,.slice A0_1 l0_1.length c0_1] 25 (0,0)) (by (with_reducible repeat (first|refine zbN ?_ _|refine zbD ?_|refine zbA ?_ _));exact BK177.out)):gb178≠gb177));clear BK177 HB;have BK177:=n0_;have HB:=n1_;have BK178:=n2_;have GW178:=n3_;have GE178:=n4_;have NB177_178:=n5_;have NB178_177:=n6_;clear n0_ n1_ n2_ n3_ n4_ n5_ n6_;clear hb hbox hg))
 have n0_:=zm (zbD BK177.out)
 have n1_:=zm (zbD BK178.out)
 have n2_:=zm (zlD HB.out)
 clear BK177 BK178 HB
 have BK177:=n0_
 have BK178:=n1_
 have HB:=n2_
 clear n0_ n1_ n2_
 refine start_ (n:=8) (S:=fun w'=>w'.cell? ⟨gb177,0,none⟩=some (.slice A0_0 l0_0.length c0_0)∧w'.cell? ⟨gb177,1,none⟩=some (.slice A0_1 l0_1.length c0_1)) (ds:=[]) #[false,false,false,false,false,false,false,false] (by kernel_rfl) rfl rfl ⟨(blk_cell BK177.out 0).trans rfl,(blk_cell BK177.out 1).trans rfl⟩ (fun hHeld=>?_);refine with_tabW pool_Clone.tab1 pool_Clone.bits1 (fun HT_ HW_=>?_)
 generalize w5.drew=w6 at BK177 BK178 HB hHeld ⊢
 refine pure_ (i:=0) (N:=some 3) (v:=?_) (a':=?_) #[true,false,false,false,false,false,false,false] rfl rfl (any_of HT_.out (by kernel_rfl)) (fun _ _ _ h=>h) (Or.inl ⟨by rfl,?_⟩) ?_ ?_
 rotate_left
 ·intro w'
  go_simp
  with_reducible rfl
 rotate_left
 ·simp only [Act.put,List.setIfInBounds_toArray,List.set_cons_zero,List.set_cons_succ,i64_w,i32_w]
  rfl
 refine pure_ (i:=3) (N:=some 6) (v:=?_) (a':=?_) #[true,false,false,true,false,false,false,false] rfl rfl (any_of HT_.out (by kernel_rfl)) (fun _ _ _ h=>h) (Or.inl ⟨by rfl,?_⟩) ?_ ?_
 rotate_left
 ·intro w'
  go_simp
  with_reducible rfl
 rotate_left
 ·simp only [Act.put,List.setIfInBounds_toArray,List.set_cons_zero,List.set_cons_succ,i64_w,i32_w]
  rfl
 refine take_ (i:=1) (N:=some 4) (v:=?_) (a':=?_) #[true,true,false,true,false,false,false,false] rfl rfl (take_ofW HT_.out HW_.out (by kernel_rfl)) (fun _ _ _ h=>h) (Or.inl ⟨by rfl,?_⟩) hHeld ?_ ?_
 rotate_left
 ·rintro w' ⟨s0,s1⟩
  go_simp
  with_reducible rfl
 rotate_left
 ·simp only [Act.put,List.setIfInBounds_toArray,List.set_cons_zero,List.set_cons_succ,i64_w,i32_w]
  rfl
 refine take_ (i:=4) (N:=some 7) (v:=?_) (a':=?_) #[true,true,false,true,true,false,false,false] rfl rfl (take_ofW HT_.out HW_.out (by kernel_rfl)) (fun _ _ _ h=>h) (Or.inl ⟨by rfl,?_⟩) hHeld ?_ ?_
 rotate_left
 ·rintro w' ⟨s0,s1⟩
  go_simp
  with_reducible rfl
 rotate_left
 ·simp only [Act.put,List.setIfInBounds_toArray,List.set_cons_zero,List.set_cons_succ,i64_w,i32_w]
  rfl
 refine one_ (i:=2) (N:=some 5) #[true,true,true,true,true,false,false,false] rfl rfl (one_of HT_.out (by kernel_rfl)) (by decide) (fun K hK=>?_)
 refine goes_ Try.func49 (by kernel_rfl) rfl #[.slice A0_0 l0_0.length c0_0] (by rfl) rfl rfl (by (try simp only [List.map_toArray,List.map_cons,List.map_nil]);first|done|rfl|(simp only [List.length_drop,List.length_take];rfl)) ?_
 with_reducible refine (slices_Clone_int_int.calls _ _ l0_0 t179 _ ?side1 ?side2 A2.out).mono ?_
 (case side1=>repeat (first|exact (Kd.C_below HR0_0.out HB.out)|(with_reducible refine Kd.C_alloc ?_ _)|(with_reducible refine Kd.C_drewN ?_ _)|(with_reducible refine Kd.C_drew ?_)))
 (case side2=>exact HC0_0.out)
 rintro e w7 ⟨v180,rfl,ho0,hb⟩
 refine ⟨_,rfl,?_⟩
 have n0_:=zm (Kd.R_lower ho0 (below_size (by repeat (first|(with_reducible first|exact HB.out|apply zlA|apply zlN|apply zlD|refine zlS ?_ GE177.out|refine zlS ?_ GE178.out)|exact HB.out))))
 have n1_:=zm (zbB (g:=gb177) (o:=.cells #[.slice A0_0 l0_0.length c0_0,.slice A0_1 l0_1.length c0_1] 25 (0,0)) (by (with_reducible repeat (first|refine zbN ?_ _|refine zbD ?_|refine zbA ?_ _));exact BK177.out) hb)
 have n2_:=zm (zbB (g:=gb178) (o:=.cells #[.slice none 0 0,.slice none 0 0] 25 (0,0)) (by (with_reducible repeat (first|refine zbN ?_ _|refine zbD ?_|refine zbA ?_ _));exact BK178.out) hb)
 have n3_:=zm (below_step (by repeat (first|(with_reducible first|exact HB.out|apply zlA|apply zlN|apply zlD|refine zlS ?_ GE177.out|refine zlS ?_ GE178.out)|exact HB.out)) hb)
 clear BK177 BK178 HB
 have HO181:=n0_
 have BK177:=n1_
 have BK178:=n2_
 have HB:=n3_
 clear n0_ n1_ n2_ n3_
 (try clear hb)
 (try clear hb2)
 (try clear hk)
 (try clear hi)
 (try clear ho0)
 refine hK.out _ _ ⟨(blk_cell BK177.out 0).trans rfl,(blk_cell BK177.out 1).trans rfl⟩ (fun hHeld=>?_)
 clear hK K
 refine norm_ (a':=?_) ?_ ?_
 rotate_left
 ·show Act.put _ (some 5) _=_
  simp only [Act.put,List.setIfInBounds_toArray,List.set_cons_zero,List.set_cons_succ,i64_w,i32_w]
  rfl
 refine one_ (i:=5) (N:=some 8) #[true,true,true,true,true,true,false,false] rfl rfl (one_of HT_.out (by kernel_rfl)) (by decide) (fun K hK=>?_)
 refine goes_ Try.func50 (by kernel_rfl) rfl #[.slice A0_1 l0_1.length c0_1] (by rfl) rfl rfl (by (try simp only [List.map_toArray,List.map_cons,List.map_nil]);first|done|rfl|(simp only [List.length_drop,List.length_take];rfl)) ?_
 with_reducible refine (slices_Clone_int64_int64.calls _ _ l0_1 t182 _ ?side1 ?side2 A3.out).mono ?_
 (case side1=>repeat (first|exact (Kd.C_below HR0_1.out HB.out)|(with_reducible refine Kd.C_alloc ?_ _)|(with_reducible refine Kd.C_drewN ?_ _)|(with_reducible refine Kd.C_drew ?_)))
 (case side2=>exact HC0_1.out)
 rintro e w8 ⟨v183,rfl,ho0,hb⟩
 refine ⟨_,rfl,?_⟩
 have n0_:=zm (Kd.R_below (by (with_reducible repeat (first|apply zrA|apply zrN|apply zrD));exact HO181.out) hb)
 have n1_:=zm (Kd.R_lower ho0 (below_size (by repeat (first|(with_reducible first|exact HB.out|apply zlA|apply zlN|apply zlD|refine zlS ?_ GE177.out|refine zlS ?_ GE178.out)|exact HB.out))))
 have n2_:=zm (zbB (g:=gb177) (o:=.cells #[.slice A0_0 l0_0.length c0_0,.slice A0_1 l0_1.length c0_1] 25 (0,0)) (by (with_reducible repeat (first|refine zbN ?_ _|refine zbD ?_|refine zbA ?_ _));exact BK177.out) hb)
 have n3_:=zm (zbB (g:=gb178) (o:=.cells #[.slice none 0 0,.slice none 0 0] 25 (0,0)) (by (with_reducible repeat (first|refine zbN ?_ _|refine zbD ?_|refine zbA ?_ _));exact BK178.out) hb)
 have n4_:=zm (below_step (by repeat (first|(with_reducible first|exact HB.out|apply zlA|apply zlN|apply zlD|refine zlS ?_ GE177.out|refine zlS ?_ GE178.out)|exact HB.out)) hb)
 clear HO181 BK177 BK178 HB
 have HO181:=n0_
 have HO184:=n1_
 have BK177:=n2_
 have BK178:=n3_
 have HB:=n4_
 clear n0_ n1_ n2_ n3_ n4_
 (try clear hb)
 (try clear hb2)
 (try clear hk)
 (try clear hi)
 (try clear ho0)
 obtain ⟨Ao9,co9,eo9⟩:=Kd.R_slice HO184.out
 (first|subst eo9|(injection eo9 with f1_ f2_ f3_;have f4_:=f1_.symm;have f5_:=f3_.symm;clear f1_ f2_ f3_;subst f4_;subst f5_))
 obtain ⟨Ao10,co10,eo10⟩:=Kd.R_slice HO181.out
 (first|subst eo10|(injection eo10 with f1_ f2_ f3_;have f4_:=f1_.symm;have f5_:=f3_.symm;clear f1_ f2_ f3_;subst f4_;subst f5_))
 refine hK.out _ _ ⟨(blk_cell BK177.out 0).trans rfl,(blk_cell BK177.out 1).trans rfl⟩ (fun hHeld=>?_)
 clear hK K
 refine norm_ (a':=?_) ?_ ?_
 rotate_left
 ·show Act.put _ (some 8) _=_
  simp only [Act.put,List.setIfInBounds_toArray,List.set_cons_zero,List.set_cons_succ,i64_w,i32_w]
  rfl
 refine pure_ (i:=6) (N:=some 9) (v:=?_) (a':=?_) #[true,true,true,true,true,true,true,false] rfl rfl (any_of HT_.out (by kernel_rfl)) (fun _ _ _ h=>h) (Or.inl ⟨by rfl,?_⟩) ?_ ?_
 rotate_left
 ·intro w'
  go_simp
  with_reducible rfl
 rotate_left
 ·simp only [Act.put,List.setIfInBounds_toArray,List.set_cons_zero,List.set_cons_succ,i64_w,i32_w]
  rfl
 refine one_ (i:=7) (N:=none) #[true,true,true,true,true,true,true,true] rfl rfl (one_of HT_.out (by kernel_rfl)) (by decide) (fun K hK=>?_)
 have hs11:w8.cell? ⟨gb178,0,none⟩=some (.slice none 0 0):=(blk_cell BK178.out 0).trans rfl
 have hfs11:=blk_frozen BK178.out 0
 have hns11_0:=NB177_178.out
 have hms11_0:=NB178_177.out
 have hs12:w8.cell? ⟨gb178,1,none⟩=some (.slice none 0 0):=(blk_cell BK178.out 1).trans rfl
 have hfs12:=blk_frozen BK178.out 1
 have hns12_0:=NB177_178.out
 have hms12_0:=NB178_177.out
 refine skip_ (w1:=?_) (by rfl) rfl ?_ ?_
 rotate_left
 ·go_simp
  rfl
 refine hK.out _ _ ⟨?_,?_⟩ ?_
 ·exact ((Go.Proofs.Ytlegmnpngcadhaa.Sem.far2 (g:=gb178) NB177_178.out).trans (hHeld.1))
 ·exact ((Go.Proofs.Ytlegmnpngcadhaa.Sem.far2 (g:=gb178) NB177_178.out).trans (hHeld.2))
 intro hHeld
 clear hK K
 refine done_ (done_of HT_.out (by kernel_rfl)) ?_
 try go_wp2
 refine bodyPost_ret (results_cell_row rfl _ _ gb178 25 #[.slice Ao10 t179.length co10,.slice Ao9 t182.length co9] (0,0) _ rfl (by (with_reducible repeat (first|refine zbN ?_ _|refine zbD ?_|refine zbA ?_ _));refine blk_put (cs:=#[.slice Ao10 t179.length co10,.slice none 0 0]) ?_ 1 _ rfl;(with_reducible repeat (first|refine zbN ?_ _|refine zbD ?_|refine zbA ?_ _));refine blk_put (cs:=#[.slice none 0 0,.slice none 0 0]) ?_ 0 _ rfl;(with_reducible repeat (first|refine zbN ?_ _|refine zbD ?_|refine zbA ?_ _));exact BK178.out) Try.underlying25 rfl (by kernel_rfl)) rfl ?_
 exact ⟨_,_,by first|rfl|(simp [errW_none,errW_some] <;> rfl)|(simp [*,errW_none,errW_some] <;> rfl),by (with_reducible repeat (first|apply zrA|apply zrN|apply zrD));exact Kd.R_mono (Kd.R_far (p:=⟨gb178,1,none⟩) (Kd.R_far (p:=⟨gb178,0,none⟩) (Kd.R_types HO181.out BK178.out (by decide)) (fun _ hk=>hk.2) (.slice Ao10 t179.length co10)) (fun _ hk=>hk.2) (.slice Ao9 t182.length co9)) (fun _ hk=>trivial),by (with_reducible repeat (first|apply zrA|apply zrN|apply zrD));exact Kd.R_mono (Kd.R_far (p:=⟨gb178,1,none⟩) (Kd.R_far (p:=⟨gb178,0,none⟩) (Kd.R_types HO184.out BK178.out (by decide)) (fun _ hk=>hk.2) (.slice Ao10 t179.length co10)) (fun _ hk=>hk.2) (.slice Ao9 t182.length co9)) (fun _ hk=>trivial),by repeat (first|(with_reducible first|exact HB.out|apply zlA|apply zlN|apply zlD|refine zlS ?_ GE177.out|refine zlS ?_ GE178.out)|exact HB.out)⟩
end Go.Proofs.Ytlegmnpngcadhaa.Print
end
section
namespace Go.Proofs.Ytlegmnpngcadhaa.Print
open Go.RowKit Go.Proofs.YtlegmnpngcadhaaW.PrintWords Go.Proofs.YtlegmnpngcadhaaW.PrintLast Go.Proofs.YtlegmnpngcadhaaW.PrintMore
attribute [local go_sem] max2_int min2_int max_two min_two max_three min_three max_four min_four   -- for this text's walks alone
attribute [local go_sem ↓] Go.Proofs.Ytlegmnpngcadhaa.Sem.isSome_setCell
attribute [local go_sem] Go.Instr.field Go.asAgg
set_option linter.unusedVariables false
set_option linter.unusedSimpArgs false
def pool_turned.f (l0_0:List Int) (l0_1:List Int) (a1:Int) (a2:Int) (a3:Int):Option (List Int × List Int):=(pool_Clone.f l0_0 l0_1).bind fun bt187=>(if 0≤a1 then (if a1 < (bt187.1.length:Int) then (if a1 < (bt187.2.length:Int) then (some ((bt187.1.set (a1:Int).toNat a2),(bt187.2.set (a1:Int).toNat (mn (wrap64 ((rd bt187.2 a1) + a3)) 16777215)))) else (none)) else (none)) else (none))
def pool_turned.T3:Bool × List (List Nat × List Nat):=(true,[([],[]),([0],[0]),([],[]),([],[]),([3],[3]),([],[]),([4,5],[4,5]),([6],[6]),([],[]),([7,8],[7,8]),([9],[9]),([1,2,0,1,2,3,4,5,6,7,8,9,10],[1,2]),([11,10,0,1,2,3,4,5,6,7,8,9,10],[10,11])])
def pool_turned.B3:List Nat:=[0,1,0,0,8,0,56,120,0,504,1016,2047,4095]
theorem pool_turned.tab3:rtab .any (opsOf Try.f43 3)=pool_turned.T3:=by kernel_rfl
theorem pool_turned.bits3:waitsOk pool_turned.T3.2 pool_turned.B3=true:=by kernel_rfl
set_option maxHeartbeats 8000000 in
set_option maxRecDepth 100000 in
theorem pool_turned.calls (A0_0:Option Addr) (c0_0:Nat) (l0_0:List Int) (A0_1:Option Addr) (c0_1:Nat) (l0_1:List Int) (a1:Int) (a2:Int) (a3:Int) (r1:List Int) (r2:List Int) (w:World) (hr0_0:Kd.C (Kd.int .i64) w A0_0 l0_0.length l0_0) (hc0_0:l0_0.length≤c0_0) (hr0_1:Kd.C (Kd.int .i64) w A0_1 l0_1.length l0_1) (hc0_1:l0_1.length≤c0_1) (h:pool_turned.f l0_0 l0_1 a1 a2 a3=some (r1,r2)) :
  Calls Try.prog 43 #[.agg #[.slice A0_0 l0_0.length c0_0,.slice A0_1 l0_1.length c0_1],.int .i64 a1,.int .i64 a2,.int .i64 a3] w fun e w'=>∃ v0_ v1_:Value,e=.returned (.agg #[v0_,v1_])∧Kd.R (Kd.int .i64) 3 w' w.heap.size (fun _=>True) v0_ r1∧Kd.R (Kd.int .i64) 2 w' w.heap.size (fun _=>True) v1_ r2∧Below w.heap.size w w':=by
 have hu25:=Try.underlying25
 have HR0_0:=zm hr0_0
 have HC0_0:=zm hc0_0
 clear hr0_0 hc0_0
 have HR0_1:=zm hr0_1
 have HC0_1:=zm hc0_1
 clear hr0_1 hc0_1
 have HB:=zm (Below.refl w.heap.size w)
 have H:((pool_Clone.f l0_0 l0_1).bind fun bt187=>(if 0≤a1 then (if a1 < (bt187.1.length:Int) then (if a1 < (bt187.2.length:Int) then (some ((bt187.1.set (a1:Int).toNat a2),(bt187.2.set (a1:Int).toNat (mn (wrap64 ((rd bt187.2 a1) + a3)) 16777215)))) else (none)) else (none)) else (none)))=some (r1,r2):=h
 clear h
 replace H:=Option.bind_eq_some_iff.mp H
 obtain ⟨⟨t187,t190⟩,A50,H⟩:=H
 replace H:(if 0≤a1 then (if a1 < (t187.length:Int) then (if a1 < (t190.length:Int) then (some ((t187.set (a1:Int).toNat a2),(t190.set (a1:Int).toNat (mn (wrap64 ((rd t190 a1) + a3)) 16777215)))) else (none)) else (none)) else (none))=some (r1,r2):=H
 have A5:=zm A50
 clear A50
 by_cases c6:0≤a1
 ·rw [if_pos c6] at H
  have c6b0:decide (0≤a1)=true:=decide_eq_true c6
  clear c6
  by_cases c7:a1 < (t187.length:Int)
  ·rw [if_pos c7] at H
   have c7b0:decide (a1 < (t187.length:Int))=true:=decide_eq_true c7
   clear c7
   obtain ⟨y194,hy194⟩:∃ y_:List Int,y_=(t187.set (a1:Int).toNat a2):=⟨_,rfl⟩
   replace H:(if a1 < (t190.length:Int) then (some (y194,(t190.set (a1:Int).toNat (mn (wrap64 ((rd t190 a1) + a3)) 16777215)))) else (none))=some (r1,r2):=by first|(rw [hy194];with_reducible exact H)|(have H2_:=(Option.bind_some _ _).symm.trans H;rw [hy194];with_reducible exact H2_)|(have H2_:=(Option.bind_some _ _).symm.trans H;with_reducible exact H2_)|with_reducible exact H|(rw [hy194];exact H)|exact H
   have Ny194:=zm hy194
   clear hy194
   by_cases c9:a1 < (t190.length:Int)
   ·rw [if_pos c9] at H
    have c9b0:decide (a1 < (t190.length:Int))=true:=decide_eq_true c9
    clear c9
    obtain ⟨ji10,hji10⟩:∃ j_:Int,(mn (wrap64 ((rd t190 a1) + a3)) 16777215)=j_:=⟨_,rfl⟩
    replace H:(some (y194,(t190.set (a1:Int).toNat (ji10))))=some (r1,r2):=by first|(rw [hji10] at H;exact H)|(simp only [hji10] at H ⊢;exact H)
    (try rw [hji10] at A5)
    (try (have hji10h:ji10≤16777215:=by (rw [← hji10];unfold mn;(repeat' split) <;> omega)))
    (try (have hji10g:ji10≤64:=by omega))
    have hji10_:(if 16777215 < (wrap64 ((rd t190 a1) + a3)) then 16777215 else (wrap64 ((rd t190 a1) + a3)))=ji10:=hji10
    obtain ⟨y196,hy196⟩:∃ y_:List Int,y_=(t190.set (a1:Int).toNat (ji10)):=⟨_,rfl⟩
    replace H:(some (y194,y196))=some (r1,r2):=by first|(rw [hy196];with_reducible exact H)|(have H2_:=(Option.bind_some _ _).symm.trans H;rw [hy196];with_reducible exact H2_)|(have H2_:=(Option.bind_some _ _).symm.trans H;with_reducible exact H2_)|with_reducible exact H|(rw [hy196];exact H)|exact H
    have Ny196:=zm hy196
    clear hy196
    simp only [Option.some.injEq,Prod.mk.injEq] at H
    obtain ⟨rfl,rfl⟩:=H
    go_enter Try.func43,Try.ntmps43
    try go_wp2_with (first|((with_reducible refine gate_dst (N:=4) rfl ?_);refine box_event ?hg (N:=4) ?hd (cs:=#[.slice A0_0 l0_0.length c0_0,.slice A0_1 l0_1.length c0_1]) (t:=25) ?hr ?_;(case hd=>rfl);(case hg=>rfl);(case hr=>first|(go_simp;done)|(go_simp;rfl));intro gb185 hg w12 hbox hb;have n0_:=zm (below_step (by repeat (first|(with_reducible first|exact HB.out|apply zlA|apply zlN|apply zlD)|exact HB.out)) hb);have n1_:=zm (hbox);have n2_:=zm ((by rw [hg];exact (below_size (by repeat (first|(with_reducible first|exact HB.out|apply zlA|apply zlN|apply zlD)|exact HB.out))):w.heap.size≤gb185));have n3_:=zm ((by rw [hg];exact (below_size (by repeat (first|(with_reducible first|exact HB.out|apply zlA|apply zlN|apply zlD)|exact HB.out))):w.heap.size≤gb185));clear HB;have HB:=n0_;have BK185:=n1_;have GW185:=n2_;have GE185:=n3_;clear n0_ n1_ n2_ n3_;clear hb hbox hg)|((with_reducible refine gate_dst (N:=8) rfl ?_);refine box_event ?hg (N:=8) ?hd (cs:=#[.slice none 0 0,.slice none 0 0]) (t:=25) ?hr ?_;(case hd=>rfl);(case hg=>rfl);(case hr=>first|(go_simp;done)|(go_simp;rfl));intro gb186 hg w13 hbox hb;have n0_:=zm (zbB (g:=gb185) (o:=.cells #[.slice A0_0 l0_0.length c0_0,.slice A0_1 l0_1.length c0_1] 25 (0,0)) (by (with_reducible repeat (first|refine zbN ?_ _|refine zbD ?_|refine zbA ?_ _));exact BK185.out) hb);have n1_:=zm (below_step (by repeat (first|(with_reducible first|exact HB.out|apply zlA|apply zlN|apply zlD|refine zlS ?_ GE185.out)|exact HB.out)) hb);have n2_:=zm (hbox);have n3_:=zm ((by rw [hg];exact (below_size (by repeat (first|(with_reducible first|exact HB.out|apply zlA|apply zlN|apply zlD|refine zlS ?_ GE185.out)|exact HB.out))):w.heap.size≤gb186));have n4_:=zm ((by rw [hg];exact (below_size (by repeat (first|(with_reducible first|exact HB.out|apply zlA|apply zlN|apply zlD|refine zlS ?_ GE185.out)|exact HB.out))):w.heap.size≤gb186));have n5_:=zm ((by rw [hg];exact Nat.ne_of_lt (blk_lt (g:=gb185) (o:=.cells #[.slice A0_0 l0_0.length c0_0,.slice A0_1 l0_1.length c0_1] 25 (0,0)) (by (with_reducible repeat (first|refine zbN ?_ _|refine zbD ?_|refine zbA ?_ _));exact BK185.out)):gb185≠gb186));have n6_:=zm ((by rw [hg];exact Nat.ne_of_gt (blk_lt (g:=gb185) (o:=.cells #[.slice A0_0 l0_0.length c0_0,.slice A0_1 l0_1.length c0_1] 25 (0,0)) (by (with_reducible repeat (first|refine zbN ?_ _|refine zbD ?_|refine zbA ?_ _));exact BK185.out)):gb186≠gb185));clear BK185 HB;have BK185:=n0_;have HB:=n1_;have BK186:=n2_;have GW186:=n3_;have GE186:=n4_;have NB185_186:=n5_;have NB186_185:=n6_;clear n0_ n1_ n2_ n3_ n4_ n5_ n6_;clear hb hbox hg;have hnb14:=NB185_186.out;have hnc14:=NB186_185.out;have hcz15_0:w13.cell? ⟨gb185,0,none⟩=some (.slice A0_0 l0_0.length c0_0):=(blk_cell BK185.out 0).trans rfl;have hcz15_1:w13.cell? ⟨gb185,1,none⟩=some (.slice A0_1 l0_1.length c0_1):=(blk_cell BK185.out 1).trans rfl;have hfz15_0:=blk_frozen BK185.out 0;have hfz15_1:=blk_frozen BK185.out 1)|((with_reducible refine gate_callee (f:=34) rfl ?_);refine goesL_ (some 11) rfl rfl Try.func34 (by kernel_rfl) rfl #[.agg #[.slice A0_0 l0_0.length c0_0,.slice A0_1 l0_1.length c0_1]] rfl (by (try simp only [List.map_toArray,List.map_cons,List.map_nil]);first|done|rfl|(simp only [List.length_drop,List.length_take];rfl)) ?_;(with_reducible refine (pool_Clone.calls _ _ l0_0 _ _ l0_1 t187 t190 _ ?side1 ?side2 ?side3 ?side4 A5.out).mono ?_);(case side1=>repeat (first|exact (Kd.C_below HR0_0.out HB.out)|(with_reducible refine Kd.C_alloc ?_ _)|(with_reducible refine Kd.C_drewN ?_ _)|(with_reducible refine Kd.C_drew ?_)));(case side2=>exact HC0_0.out);(case side3=>repeat (first|exact (Kd.C_below HR0_1.out HB.out)|(with_reducible refine Kd.C_alloc ?_ _)|(with_reducible refine Kd.C_drewN ?_ _)|(with_reducible refine Kd.C_drew ?_)));(case side4=>exact HC0_1.out);rintro e w16 ⟨v188,v191,rfl,ho0,ho1,hb⟩;refine ⟨_,rfl,?_⟩;have n0_:=zm (Kd.R_lower ho0 (below_size (by repeat (first|(with_reducible first|exact HB.out|apply zlA|apply zlN|apply zlD|refine zlS ?_ GE185.out|refine zlS ?_ GE186.out)|exact HB.out))));have n1_:=zm (Kd.R_lower ho1 (below_size (by repeat (first|(with_reducible first|exact HB.out|apply zlA|apply zlN|apply zlD|refine zlS ?_ GE185.out|refine zlS ?_ GE186.out)|exact HB.out))));have n2_:=zm (zbB (g:=gb185) (o:=.cells #[.slice A0_0 l0_0.length c0_0,.slice A0_1 l0_1.length c0_1] 25 (0,0)) (by (with_reducible repeat (first|refine zbN ?_ _|refine zbD ?_|refine zbA ?_ _));exact BK185.out) hb);have n3_:=zm (zbB (g:=gb186) (o:=.cells #[.slice none 0 0,.slice none 0 0] 25 (0,0)) (by (with_reducible repeat (first|refine zbN ?_ _|refine zbD ?_|refine zbA ?_ _));exact BK186.out) hb);have n4_:=zm (below_step (by repeat (first|(with_reducible first|exact HB.out|apply zlA|apply zlN|apply zlD|refine zlS ?_ GE185.out|refine zlS ?_ GE186.out)|exact HB.out)) hb);clear BK185 BK186 HB;have HO189:=n0_;have HO192:=n1_;have BK185:=n2_;have BK186:=n3_;have HB:=n4_;clear n0_ n1_ n2_ n3_ n4_;(try clear hb);(try clear hb2);(try clear hk);(try clear hi);(try clear ho0);(try clear ho1))|((with_reducible refine gate_dst (N:=9) rfl ?_);refine box_event ?hg (N:=9) ?hd (cs:=#[.slice none 0 0,.slice none 0 0]) (t:=25) ?hr ?_;(case hd=>rfl);(case hg=>rfl);(case hr=>first|(go_simp;done)|(go_simp;rfl));intro gb193 hg w17 hbox hb;have n0_:=zm (Kd.R_below (by (with_reducible repeat (first|apply zrA|apply zrN|apply zrD));exact HO189.out) hb);have n1_:=zm (Kd.R_below (by (with_reducible repeat (first|apply zrA|apply zrN|apply zrD));exact HO192.out) hb);have n2_:=zm (zbB (g:=gb185) (o:=.cells #[.slice A0_0 l0_0.length c0_0,.slice A0_1 l0_1.length c0_1] 25 (0,0)) (by (with_reducible repeat (first|refine zbN ?_ _|refine zbD ?_|refine zbA ?_ _));exact BK185.out) hb);have n3_:=zm (zbB (g:=gb186) (o:=.cells #[.slice none 0 0,.slice none 0 0] 25 (0,0)) (by (with_reducible repeat (first|refine zbN ?_ _|refine zbD ?_|refine zbA ?_ _));exact BK186.out) hb);have n4_:=zm (below_step (by repeat (first|(with_reducible first|exact HB.out|apply zlA|apply zlN|apply zlD|refine zlS ?_ GE185.out|refine zlS ?_ GE186.out)|exact HB.out)) hb);have n5_:=zm (hbox);have n6_:=zm ((by rw [hg];exact (below_size (by repeat (first|(with_reducible first|exact HB.out|apply zlA|apply zlN|apply zlD|refine zlS ?_ GE185.out|refine zlS ?_ GE186.out)|exact HB.out))):w.heap.size≤gb193));have n7_:=zm ((by rw [hg];exact (below_size (by repeat (first|(with_reducible first|exact HB.out|apply zlA|apply zlN|apply zlD|refine zlS ?_ GE185.out|refine zlS ?_ GE186.out)|exact HB.out))):w.heap.size≤gb193));have n8_:=zm ((by rw [hg];exact Nat.ne_of_lt (blk_lt (g:=gb185) (o:=.cells #[.slice A0_0 l0_0.length c0_0,.slice A0_1 l0_1.length c0_1] 25 (0,0)) (by (with_reducible repeat (first|refine zbN ?_ _|refine zbD ?_|refine zbA ?_ _));exact BK185.out)):gb185≠gb193));have n9_:=zm ((by rw [hg];exact Nat.ne_of_gt (blk_lt (g:=gb185) (o:=.cells #[.slice A0_0 l0_0.length c0_0,.slice A0_1 l0_1.length c0_1] 25 (0,0)) (by (with_reducible repeat (first|refine zbN ?_ _|refine zbD ?_|refine zbA ?_ _));exact BK185.out)):gb193≠gb185));have n10_:=zm ((by rw [hg];exact Nat.ne_of_lt (blk_lt (g:=gb186) (o:=.cells #[.slice none 0 0,.slice none 0 0] 25 (0,0)) (by (with_reducible repeat (first|refine zbN ?_ _|refine zbD ?_|refine zbA ?_ _));exact BK186.out)):gb186≠gb193));have n11_:=zm ((by rw [hg];exact Nat.ne_of_gt (blk_lt (g:=gb186) (o:=.cells #[.slice none 0 0,.slice none 0 0] 25 (0,0)) (by (with_reducible repeat (first|refine zbN ?_ _|refine zbD ?_|refine zbA ?_ _));exact BK186.out)):gb193≠gb186));clear HO189 HO192 BK185 BK186 HB;have HO189:=n0_;have HO192:=n1_;have BK185:=n2_;have BK186:=n3_;have HB:=n4_;have BK193:=n5_;have GW193:=n6_;have GE193:=n7_;have NB185_193:=n8_;have NB193_185:=n9_;have NB186_193:=n10_;have NB193_186:=n11_;clear n0_ n1_ n2_ n3_ n4_ n5_ n6_ n7_ n8_ n9_ n10_ n11_;clear hb hbox hg;obtain ⟨Ao18,co18,eo18⟩:=Kd.R_slice HO189.out;subst eo18;have hnb19:=NB193_185.out;have hnc19:=NB185_193.out;have hnb20:=NB193_186.out;have hnc20:=NB186_193.out;have hcz21_0:w17.cell? ⟨gb193,0,none⟩=some (.slice none 0 0):=(blk_cell BK193.out 0).trans rfl;have hcz21_1:w17.cell? ⟨gb193,1,none⟩=some (.slice none 0 0):=(blk_cell BK193.out 1).trans rfl;have hfz21_0:=blk_frozen BK193.out 0;have hfz21_1:=blk_frozen BK193.out 1;obtain ⟨Ao22,co22,eo22⟩:=Kd.R_slice HO192.out;subst eo22)|((with_reducible refine gate_store (t:=25) (p:=9) rfl ?_);refine store_event (t:=25) (p:=9) (v:=?vo_w23) (w1:=((w17.setCell ⟨gb193,0,none⟩ (.slice Ao18 t187.length co18)).setCell ⟨gb193,1,none⟩ (.slice Ao22 t190.length co22))) ?hg ?ho ?hn ?hr ?_;(case ho=>rfl);(case hg=>rfl);(case hn=>rfl);(case hr=>first|(go_simp;done)|(go_simp;rfl));intro w23 hw;have n0_:Aside0 (Kd.R (Kd.int .i64) 3 w23 w.heap.size (fun _=>True) (.slice Ao18 t187.length co18) t187):=⟨(by rw [hw];exact (by (with_reducible repeat (first|apply zrA|apply zrN|apply zrD));exact Kd.R_mono (Kd.R_far (p:=⟨gb193,1,none⟩) (Kd.R_far (p:=⟨gb193,0,none⟩) (Kd.R_types HO189.out BK193.out (by decide)) (fun _ hk=>hk.2) (.slice Ao18 t187.length co18)) (fun _ hk=>hk.2) (.slice Ao22 t190.length co22)) (fun _ hk=>trivial)))⟩;have n1_:Aside0 (Kd.R (Kd.int .i64) 2 w23 w.heap.size (fun _=>True) (.slice Ao22 t190.length co22) t190):=⟨(by rw [hw];exact (by (with_reducible repeat (first|apply zrA|apply zrN|apply zrD));exact Kd.R_mono (Kd.R_far (p:=⟨gb193,1,none⟩) (Kd.R_far (p:=⟨gb193,0,none⟩) (Kd.R_types HO192.out BK193.out (by decide)) (fun _ hk=>hk.2) (.slice Ao18 t187.length co18)) (fun _ hk=>hk.2) (.slice Ao22 t190.length co22)) (fun _ hk=>trivial)))⟩;have n2_:Aside0 (w23.heap[gb185]?=some (.cells #[.slice A0_0 l0_0.length c0_0,.slice A0_1 l0_1.length c0_1] 25 (0,0))):=⟨(by rw [hw];exact (by (with_reducible repeat (first|refine zbN ?_ _|refine zbD ?_|refine zbA ?_ _));refine blk_far ?_ NB185_193.out _;(with_reducible repeat (first|refine zbN ?_ _|refine zbD ?_|refine zbA ?_ _));refine blk_far ?_ NB185_193.out _;(with_reducible repeat (first|refine zbN ?_ _|refine zbD ?_|refine zbA ?_ _));exact BK185.out))⟩;have n3_:Aside0 (w23.heap[gb186]?=some (.cells #[.slice none 0 0,.slice none 0 0] 25 (0,0))):=⟨(by rw [hw];exact (by (with_reducible repeat (first|refine zbN ?_ _|refine zbD ?_|refine zbA ?_ _));refine blk_far ?_ NB186_193.out _;(with_reducible repeat (first|refine zbN ?_ _|refine zbD ?_|refine zbA ?_ _));refine blk_far ?_ NB186_193.out _;(with_reducible repeat (first|refine zbN ?_ _|refine zbD ?_|refine zbA ?_ _));exact BK186.out))⟩;have n4_:Aside0 (w23.heap[gb193]?=some (.cells #[.slice Ao18 t187.length co18,.slice Ao22 t190.length co22] 25 (0,0))):=⟨(by rw [hw];exact (by (with_reducible repeat (first|refine zbN ?_ _|refine zbD ?_|refine zbA ?_ _));refine blk_put (cs:=#[.slice Ao18 t187.length co18,.slice none 0 0]) ?_ 1 _ rfl;(with_reducible repeat (first|refine zbN ?_ _|refine zbD ?_|refine zbA ?_ _));refine blk_put (cs:=#[.slice none 0 0,.slice none 0 0]) ?_ 0 _ rfl;(with_reducible repeat (first|refine zbN ?_ _|refine zbD ?_|refine zbA ?_ _));exact BK193.out))⟩;have n5_:Aside0 (Below w.heap.size w w23):=⟨(by rw [hw];exact (by repeat (first|(with_reducible first|exact HB.out|apply zlA|apply zlN|apply zlD|refine zlS ?_ GE185.out|refine zlS ?_ GE186.out|refine zlS ?_ GE193.out)|exact HB.out)))⟩;clear hw HO189 HO192 BK185 BK186 BK193 HB;have HO189:=n0_;have HO192:=n1_;have BK185:=n2_;have BK186:=n3_;have BK193:=n4_;have HB:=n5_;clear n0_ n1_ n2_ n3_ n4_ n5_;have hcz24_0:w23.cell? ⟨gb193,0,none⟩=some (.slice Ao18 t187.length co18):=(blk_cell BK193.out 0).trans rfl;have hcz24_1:w23.cell? ⟨gb193,1,none⟩=some (.slice Ao22 t190.length co22):=(blk_cell BK193.out 1).trans rfl;have hfz24_0:=blk_frozen BK193.out 0;have hfz24_1:=blk_frozen BK193.out 1;have p8:0≤(a1:Int):=of_decide_eq_true (by first|(with_reducible assumption)|assumption);have q8:(a1:Int) < ((t187.length:Int):Int):=of_decide_eq_true (by first|(with_reducible assumption)|assumption);obtain ⟨go8,co8,eo8,gb8,gl8,cl8,HG8⟩:=Kd.R_form HO189.out (by omega);(first|cases eo8|(injection eo8 with ea_ en_ ec_;(first|subst ea_|(injection ea_ with ea_;subst ea_));subst ec_;clear en_));have GB8:=zm gb8;have GG8:=zm HG8;clear gb8 gl8 HG8;obtain ⟨hx8_0,hf8_0⟩:=Kd.R_celln 0 HO189.out (a1:Int) p8 q8;replace p8:=eq_true p8;replace q8:=eq_true q8;obtain ⟨hy25_,hz25_⟩:=Kd.R_celln 0 HO189.out (a1:Int) (of_decide_eq_true (by first|(with_reducible assumption)|assumption)) (of_decide_eq_true (by first|(with_reducible assumption)|assumption));have HP25:=Kd.R_putg HO189.out (a1:Int) a2)|((with_reducible refine gate_store (t:=3) (p:=16) rfl ?_);refine store_event (t:=3) (p:=16) (v:=?vo_w26) (w1:=(w23.setCell ⟨go8,(a1:Int).toNat,none⟩ (.int .i64 a2))) ?hg ?ho ?hn ?hr ?_;(case ho=>rfl);(case hg=>rfl);(case hn=>rfl);(case hr=>first|(go_simp;done)|(go_simp;rfl));intro w26 hw;have hg:w23.grownBy w26 (some go8):=(by rw [hw];exact HP25.2);have hp_:Kd.R (Kd.int .i64) 3 w26 w.heap.size (fun _=>True) (.slice (some ⟨go8,0,none⟩) t187.length co18) y194:=(by rw [hw,Ny194.out];exact HP25.1);clear HP25;have n0_:=zm (blk_grown (g:=gb185) (o:=.cells #[.slice A0_0 l0_0.length c0_0,.slice A0_1 l0_1.length c0_1] 25 (0,0)) (by (with_reducible repeat (first|refine zbN ?_ _|refine zbD ?_|refine zbA ?_ _));exact BK185.out) hg (Kd.R_ne HO189.out BK185.out (by decide)));have n1_:=zm (blk_grown (g:=gb186) (o:=.cells #[.slice none 0 0,.slice none 0 0] 25 (0,0)) (by (with_reducible repeat (first|refine zbN ?_ _|refine zbD ?_|refine zbA ?_ _));exact BK186.out) hg (Kd.R_ne HO189.out BK186.out (by decide)));have n2_:=zm (hp_);have n3_:=zm (Kd.R_over' (v:=(.slice (some ⟨go8,0,none⟩) t187.length co18)) (by (with_reducible repeat (first|apply zrA|apply zrN|apply zrD));exact HO192.out) (Kd.R_typed HO189.out) (by decide) hg);have n4_:=zm (blk_grown (g:=gb193) (o:=.cells #[.slice (some ⟨go8,0,none⟩) t187.length co18,.slice Ao22 t190.length co22] 25 (0,0)) (by (with_reducible repeat (first|refine zbN ?_ _|refine zbD ?_|refine zbA ?_ _));exact BK193.out) hg (Kd.R_ne HO189.out BK193.out (by decide)));have n5_:=zm ((by rw [hw];exact zlS (HB.out) GB8.out:Below w.heap.size w w26));clear BK185 BK186 HO189 HO192 BK193 HB;have BK185:=n0_;have BK186:=n1_;have HO189:=n2_;have HO192:=n3_;have BK193:=n4_;have HB:=n5_;clear n0_ n1_ n2_ n3_ n4_ n5_;clear hg hw hp_))
    have n0_:=zm (zrD HO189.out)
    have n1_:=zm (zrD HO192.out)
    have n2_:=zm (zbD BK185.out)
    have n3_:=zm (zbD BK186.out)
    have n4_:=zm (zbD BK193.out)
    have n5_:=zm (zlD HB.out)
    clear HO189 HO192 BK185 BK186 BK193 HB
    have HO189:=n0_
    have HO192:=n1_
    have BK185:=n2_
    have BK186:=n3_
    have BK193:=n4_
    have HB:=n5_
    clear n0_ n1_ n2_ n3_ n4_ n5_
    have p195:0≤(a1:Int):=of_decide_eq_true (by first|(with_reducible assumption)|assumption)
    have q195:a1 < (t190.length:Int):=of_decide_eq_true (by first|(with_reducible assumption)|assumption)
    obtain ⟨ad195,e195,hx195_0⟩:=Kd.at_int (Kd.R_reads' HO192.out).2.2 a1 p195 q195
    cases e195
    replace p195:=eq_true p195
    replace q195:=eq_true q195
    have p11:0≤(a1:Int):=of_decide_eq_true (by first|(with_reducible assumption)|assumption)
    have q11:(a1:Int) < ((t190.length:Int):Int):=of_decide_eq_true (by first|(with_reducible assumption)|assumption)
    obtain ⟨go11,co11,eo11,gb11,gl11,cl11,HG11⟩:=Kd.R_form HO192.out (by omega)
    (first|cases eo11|(injection eo11 with ea_ en_ ec_;(first|subst ea_|(injection ea_ with ea_;subst ea_));subst ec_;clear en_))
    have GB11:=zm gb11
    have GG11:=zm HG11
    clear gb11 gl11 HG11
    (first|simp only [add_plain] at hx195_0|skip)
    obtain ⟨hx11_0,hf11_0⟩:=Kd.R_celln 0 HO192.out (a1:Int) p11 q11
    replace p11:=eq_true p11
    replace q11:=eq_true q11
    have HP28:=Kd.R_putn HO192.out (a1:Int) ji10
    rw [← Ny196.out] at HP28
    have HQ28:=zm HP28
    clear HP28
    refine start_ (n:=13) (S:=fun w'=>w'.cell? ⟨gb193,0,none⟩=some (.slice (some ⟨go8,0,none⟩) t187.length co18)∧w'.cell? ⟨gb193,1,none⟩=some (.slice (some ⟨go11,0,none⟩) t190.length co22)∧w'.cell? ⟨go11,(a1).toNat,none⟩=some (.int .i64 (rd t190 a1))) (ds:=[12]) #[false,false,false,false,false,false,false,false,false,false,false,false,false] (by kernel_rfl) rfl rfl ⟨(blk_cell BK193.out 0).trans rfl,(blk_cell BK193.out 1).trans rfl,hx195_0⟩ (fun hHeld=>?_);refine with_tabW pool_turned.tab3 pool_turned.bits3 (fun HT_ HW_=>?_)
    generalize w26.drew=w27 at HO189 HO192 BK185 BK186 BK193 HB GG11 HQ28 hf11_0 hx11_0 hx195_0 hHeld ⊢
    refine pure_ (i:=0) (N:=some 17) (v:=?_) (a':=?_) #[true,false,false,false,false,false,false,false,false,false,false,false,false] rfl rfl (any_of HT_.out (by kernel_rfl)) (fun _ _ _ h=>h) (Or.inl ⟨by rfl,?_⟩) ?_ ?_
    rotate_left
    ·intro w'
     go_simp
     with_reducible rfl
    rotate_left
    ·simp only [Act.put,List.setIfInBounds_toArray,List.set_cons_zero,List.set_cons_succ,i64_w,i32_w]
     rfl
    refine pure_ (i:=2) (N:=some 19) (v:=?_) (a':=?_) #[true,false,true,false,false,false,false,false,false,false,false,false,false] rfl rfl (any_of HT_.out (by kernel_rfl)) (fun _ _ _ h=>h) (Or.inl ⟨by rfl,?_⟩) ?_ ?_
    rotate_left
    ·intro w'
     go_simp
     with_reducible rfl
    rotate_left
    ·simp only [Act.put,List.setIfInBounds_toArray,List.set_cons_zero,List.set_cons_succ,i64_w,i32_w]
     rfl
    refine pure_ (i:=3) (N:=some 20) (v:=?_) (a':=?_) #[true,false,true,true,false,false,false,false,false,false,false,false,false] rfl rfl (any_of HT_.out (by kernel_rfl)) (fun _ _ _ h=>h) (Or.inl ⟨by rfl,?_⟩) ?_ ?_
    rotate_left
    ·intro w'
     go_simp
     with_reducible rfl
    rotate_left
    ·simp only [Act.put,List.setIfInBounds_toArray,List.set_cons_zero,List.set_cons_succ,i64_w,i32_w]
     rfl
    refine pure_ (i:=5) (N:=some 22) (v:=?_) (a':=?_) #[true,false,true,true,false,true,false,false,false,false,false,false,false] rfl rfl (any_of HT_.out (by kernel_rfl)) (fun _ _ _ h=>h) (Or.inl ⟨by rfl,?_⟩) ?_ ?_
    rotate_left
    ·intro w'
     go_simp
     with_reducible rfl
    rotate_left
    ·simp only [Act.put,List.setIfInBounds_toArray,List.set_cons_zero,List.set_cons_succ,i64_w,i32_w]
     rfl
    refine pure_ (i:=8) (N:=some 25) (v:=?_) (a':=?_) #[true,false,true,true,false,true,false,false,true,false,false,false,false] rfl rfl (any_of HT_.out (by kernel_rfl)) (fun _ _ _ h=>h) (Or.inl ⟨by rfl,?_⟩) ?_ ?_
    rotate_left
    ·intro w'
     go_simp
     with_reducible rfl
    rotate_left
    ·simp only [Act.put,List.setIfInBounds_toArray,List.set_cons_zero,List.set_cons_succ,i64_w,i32_w]
     rfl
    refine take_ (i:=1) (N:=some 18) (v:=?_) (a':=?_) #[true,true,true,true,false,true,false,false,true,false,false,false,false] rfl rfl (take_ofW HT_.out HW_.out (by kernel_rfl)) (fun _ _ _ h=>h) (Or.inl ⟨by rfl,?_⟩) hHeld ?_ ?_
    rotate_left
    ·rintro w' ⟨s0,s1,s2⟩
     go_simp
     with_reducible rfl
    rotate_left
    ·simp only [Act.put,List.setIfInBounds_toArray,List.set_cons_zero,List.set_cons_succ,i64_w,i32_w]
     rfl
    refine take_ (i:=4) (N:=some 21) (v:=?_) (a':=?_) #[true,true,true,true,true,true,false,false,true,false,false,false,false] rfl rfl (take_ofW HT_.out HW_.out (by kernel_rfl)) (fun _ _ _ h=>h) (Or.inl ⟨by rfl,?_⟩) hHeld ?_ ?_
    rotate_left
    ·rintro w' ⟨s0,s1,s2⟩
     go_simp
     with_reducible rfl
    rotate_left
    ·simp only [Act.put,List.setIfInBounds_toArray,List.set_cons_zero,List.set_cons_succ,i64_w,i32_w]
     rfl
    refine pure_ (i:=6) (N:=some 23) (v:=?_) (a':=?_) #[true,true,true,true,true,true,true,false,true,false,false,false,false] rfl rfl (any_of HT_.out (by kernel_rfl)) (fun _ _ _ h=>h) (Or.inl ⟨by rfl,?_⟩) ?_ ?_
    rotate_left
    ·intro w'
     go_simp
     with_reducible rfl
    rotate_left
    ·simp only [Act.put,List.setIfInBounds_toArray,List.set_cons_zero,List.set_cons_succ,i64_w,i32_w]
     rfl
    refine take_ (i:=7) (N:=some 24) (v:=?_) (a':=?_) #[true,true,true,true,true,true,true,true,true,false,false,false,false] rfl rfl (take_ofW HT_.out HW_.out (by kernel_rfl)) (fun _ _ _ h=>h) (Or.inl ⟨by rfl,?_⟩) hHeld ?_ ?_
    rotate_left
    ·rintro w' ⟨s0,s1,s2⟩
     go_simp
     with_reducible rfl
    rotate_left
    ·simp only [Act.put,List.setIfInBounds_toArray,List.set_cons_zero,List.set_cons_succ,i64_w,i32_w]
     rfl
    refine pure_ (i:=9) (N:=some 26) (v:=?_) (a':=?_) #[true,true,true,true,true,true,true,true,true,true,false,false,false] rfl rfl (any_of HT_.out (by kernel_rfl)) (fun _ _ _ h=>h) (Or.inl ⟨by rfl,?_⟩) ?_ ?_
    rotate_left
    ·intro w'
     go_simp
     with_reducible rfl
    rotate_left
    ·simp only [Act.put,List.setIfInBounds_toArray,List.set_cons_zero,List.set_cons_succ,i64_w,i32_w]
     rfl
    refine pure_ (i:=10) (N:=some 27) (v:=?_) (a':=?_) #[true,true,true,true,true,true,true,true,true,true,true,false,false] rfl rfl (any_of HT_.out (by kernel_rfl)) (fun _ _ _ h=>h) (Or.inl ⟨by rfl,?_⟩) ?_ ?_
    rotate_left
    ·intro w'
     go_simp
     with_reducible rfl
    rotate_left
    ·simp only [Act.put,List.setIfInBounds_toArray,List.set_cons_zero,List.set_cons_succ,i64_w,i32_w]
     rfl
    refine pure_ (i:=11) (N:=some 28) (v:=?_) (a':=?_) #[true,true,true,true,true,true,true,true,true,true,true,true,false] rfl rfl (any_of HT_.out (by kernel_rfl)) (fun _ _ _ h=>h) (Or.inl ⟨by rfl,?_⟩) ?_ ?_
    rotate_left
    ·intro w'
     go_simp
     with_reducible rfl
    rotate_left
    ·simp only [Act.put,List.setIfInBounds_toArray,List.set_cons_zero,List.set_cons_succ,i64_w,i32_w]
     rfl
    refine last_ (i:=12) (N:=none) #[true,true,true,true,true,true,true,true,true,true,true,true,true] rfl rfl (one_of HT_.out (by kernel_rfl)) (by decide) (fun K hK=>?_)
    refine skip_ (w1:=?_) (by rfl) rfl ?_ ?_
    rotate_left
    ·go_simp
     rfl
    refine hK.out _ _ ?_
    clear hK K
    refine done_ (done_of HT_.out (by kernel_rfl)) ?_
    have n0_:Aside0 (Kd.R (Kd.int .i64) 3 (w27.setCell ⟨go11,(a1:Int).toNat,none⟩ (.int .i64 ji10)) w.heap.size (fun _=>True) (.slice (some ⟨go8,0,none⟩) t187.length co18) y194):=⟨by (with_reducible repeat (first|apply zrA|apply zrN|apply zrD));exact Kd.R_mono (Kd.R_far (p:=⟨go11,(a1:Int).toNat,none⟩) (Kd.R_types HO189.out GG11.out (by decide)) (fun _ hk=>hk.2) (.int .i64 ji10)) (fun _ hk=>trivial)⟩
    have n1_:Aside0 (Kd.R (Kd.int .i64) 2 (w27.setCell ⟨go11,(a1:Int).toNat,none⟩ (.int .i64 ji10)) w.heap.size (fun _=>True) (.slice (some ⟨go11,0,none⟩) t190.length co22) y196):=⟨by (with_reducible repeat (first|apply zrA|apply zrN|apply zrD));exact HQ28.out⟩
    have n2_:Aside0 ((w27.setCell ⟨go11,(a1:Int).toNat,none⟩ (.int .i64 ji10)).heap[gb185]?=some (.cells #[.slice A0_0 l0_0.length c0_0,.slice A0_1 l0_1.length c0_1] 25 (0,0))):=⟨by (with_reducible repeat (first|refine zbN ?_ _|refine zbD ?_|refine zbA ?_ _));refine blk_far ?_ (by have h_:=Kd.R_ne HO192.out BK185.out (by decide);intro e_;exact h_ (by rw [e_];rfl)) _;(with_reducible repeat (first|refine zbN ?_ _|refine zbD ?_|refine zbA ?_ _));exact BK185.out⟩
    have n3_:Aside0 ((w27.setCell ⟨go11,(a1:Int).toNat,none⟩ (.int .i64 ji10)).heap[gb186]?=some (.cells #[.slice none 0 0,.slice none 0 0] 25 (0,0))):=⟨by (with_reducible repeat (first|refine zbN ?_ _|refine zbD ?_|refine zbA ?_ _));refine blk_far ?_ (by have h_:=Kd.R_ne HO192.out BK186.out (by decide);intro e_;exact h_ (by rw [e_];rfl)) _;(with_reducible repeat (first|refine zbN ?_ _|refine zbD ?_|refine zbA ?_ _));exact BK186.out⟩
    have n4_:Aside0 ((w27.setCell ⟨go11,(a1:Int).toNat,none⟩ (.int .i64 ji10)).heap[gb193]?=some (.cells #[.slice (some ⟨go8,0,none⟩) t187.length co18,.slice (some ⟨go11,0,none⟩) t190.length co22] 25 (0,0))):=⟨by (with_reducible repeat (first|refine zbN ?_ _|refine zbD ?_|refine zbA ?_ _));refine blk_far ?_ (by have h_:=Kd.R_ne HO192.out BK193.out (by decide);intro e_;exact h_ (by rw [e_];rfl)) _;(with_reducible repeat (first|refine zbN ?_ _|refine zbD ?_|refine zbA ?_ _));exact BK193.out⟩
    have n5_:Aside0 (Below w.heap.size w (w27.setCell ⟨go11,(a1:Int).toNat,none⟩ (.int .i64 ji10))):=⟨by repeat (first|(with_reducible first|exact HB.out|apply zlA|apply zlN|apply zlD|refine zlS ?_ GB11.out|refine zlS ?_ GE185.out|refine zlS ?_ GE186.out|refine zlS ?_ GE193.out)|exact HB.out)⟩
    (try clear HO189)
    (try clear HO192)
    (try clear BK185)
    (try clear BK186)
    (try clear BK193)
    (try clear HB)
    generalize (w27.setCell ⟨go11,(a1:Int).toNat,none⟩ (.int .i64 ji10))=w29 at n0_ n1_ n2_ n3_ n4_ n5_ ⊢
    have HO189:=n0_
    have HO192:=n1_
    have BK185:=n2_
    have BK186:=n3_
    have BK193:=n4_
    have HB:=n5_
    clear n0_ n1_ n2_ n3_ n4_ n5_
    have hcz30_0:w29.cell? ⟨gb193,0,none⟩=some (.slice (some ⟨go8,0,none⟩) t187.length co18):=(blk_cell BK193.out 0).trans rfl
    have hcz30_1:w29.cell? ⟨gb193,1,none⟩=some (.slice (some ⟨go11,0,none⟩) t190.length co22):=(blk_cell BK193.out 1).trans rfl
    have hfz30_0:=blk_frozen BK193.out 0
    have hfz30_1:=blk_frozen BK193.out 1
    have hcz31_0:w29.cell? ⟨gb186,0,none⟩=some (.slice none 0 0):=(blk_cell BK186.out 0).trans rfl
    have hcz31_1:w29.cell? ⟨gb186,1,none⟩=some (.slice none 0 0):=(blk_cell BK186.out 1).trans rfl
    have hfz31_0:=blk_frozen BK186.out 0
    have hfz31_1:=blk_frozen BK186.out 1
    try go_wp2
    refine bodyPost_ret (results_cell_row rfl _ _ gb186 25 #[.slice (some ⟨go8,0,none⟩) t187.length co18,.slice (some ⟨go11,0,none⟩) t190.length co22] (0,0) _ rfl (by (with_reducible repeat (first|refine zbN ?_ _|refine zbD ?_|refine zbA ?_ _));refine blk_put (cs:=#[.slice (some ⟨go8,0,none⟩) t187.length co18,.slice none 0 0]) ?_ 1 _ rfl;(with_reducible repeat (first|refine zbN ?_ _|refine zbD ?_|refine zbA ?_ _));refine blk_put (cs:=#[.slice none 0 0,.slice none 0 0]) ?_ 0 _ rfl;(with_reducible repeat (first|refine zbN ?_ _|refine zbD ?_|refine zbA ?_ _));exact BK186.out) Try.underlying25 rfl (by kernel_rfl)) rfl ?_
    exact ⟨_,_,by first|rfl|(simp [errW_none,errW_some] <;> rfl)|(simp only [← hji10];first|rfl|(simp [errW_none,errW_some] <;> rfl))|(simp [*,errW_none,errW_some] <;> rfl),by (with_reducible repeat (first|apply zrA|apply zrN|apply zrD));exact Kd.R_mono (Kd.R_far (p:=⟨gb186,1,none⟩) (Kd.R_far (p:=⟨gb186,0,none⟩) (Kd.R_types HO189.out BK186.out (by decide)) (fun _ hk=>hk.2) (.slice (some ⟨go8,0,none⟩) t187.length co18)) (fun _ hk=>hk.2) (.slice (some ⟨go11,0,none⟩) t190.length co22)) (fun _ hk=>trivial),by (with_reducible repeat (first|apply zrA|apply zrN|apply zrD));exact Kd.R_mono (Kd.R_far (p:=⟨gb186,1,none⟩) (Kd.R_far (p:=⟨gb186,0,none⟩) (Kd.R_types HO192.out BK186.out (by decide)) (fun _ hk=>hk.2) (.slice (some ⟨go8,0,none⟩) t187.length co18)) (fun _ hk=>hk.2) (.slice (some ⟨go11,0,none⟩) t190.length co22)) (fun _ hk=>trivial),by repeat (first|(with_reducible first|exact HB.out|apply zlA|apply zlN|apply zlD|refine zlS ?_ GE185.out|refine zlS ?_ GE186.out|refine zlS ?_ GE193.out)|exact HB.out)⟩
   ·rw [if_neg c9] at H
    exact absurd H (by simp)
  ·rw [if_neg c7] at H
   exact absurd H (by simp)
 ·rw [if_neg c6] at H
  exact absurd H (by simp)
def pool_Take.f (k:Nat) (l0_0:List Int) (l0_1:List Int) (a1:Int) (a2:Int):Option (List Int × List Int × Int):=(pool_asks.f k l0_0 l0_1 a1).bind fun t199=>(if t199=0 then ((pool_role.f k a2).bind fun bt200=>(if bt200.2=true then (if 0≤a1 then (if a1 < (l0_0.length:Int) then (if (rd l0_0 a1)=1 then ((pool_turned.f l0_0 l0_1 a1 a2 0).bind fun bt203=>(some (bt203.1,bt203.2,0))) else (some (([]:List Int),([]:List Int),41))) else (none)) else (none)) else (some (([]:List Int),([]:List Int),41)))) else (some (([]:List Int),([]:List Int),t199)))
theorem pool_Take.mono:∀ a0 a1 a2 a3 k,LeO (pool_Take.f k a0 a1 a2 a3) (pool_Take.f (k + 1) a0 a1 a2 a3):=by
 intro a0 a1 a2 a3 k
 unfold pool_Take.f
 repeat' first
   | (with_reducible exact pool_asks.mono _ _ _ _)
   | (with_reducible exact pool_role.mono _ _)
   | (with_reducible exact LeO.refl _)
   | (with_reducible exact LeO.none _)
   | (with_reducible refine LeO.ite ?_ ?_)
   | (with_reducible refine LeO.bind ?_ (fun _=>?_))
   | exact pool_asks.mono _ _ _ _
   | exact pool_role.mono _ _
   | exact LeO.none _
   | refine LeO.ite ?_ ?_
   | refine LeO.bind ?_ (fun _=>?_)
set_option maxHeartbeats 8000000 in
set_option maxRecDepth 100000 in
theorem pool_Take.calls (k:Nat) (A0_0:Option Addr) (c0_0:Nat) (l0_0:List Int) (A0_1:Option Addr) (c0_1:Nat) (l0_1:List Int) (a1:Int) (a2:Int) (r1:List Int) (r2:List Int) (r3:Int) (w:World) (hr0_0:Kd.C (Kd.int .i64) w A0_0 l0_0.length l0_0) (hc0_0:l0_0.length≤c0_0) (hr0_1:Kd.C (Kd.int .i64) w A0_1 l0_1.length l0_1) (hc0_1:l0_1.length≤c0_1) (h:pool_Take.f k l0_0 l0_1 a1 a2=some (r1,r2,r3)) :
  Calls Try.prog 19 #[.agg #[.slice A0_0 l0_0.length c0_0,.slice A0_1 l0_1.length c0_1],.int .i64 a1,.int .i64 a2] w fun e w'=>∃ v0_ v1_:Value,e=.returned (.tuple #[.agg #[v0_,v1_],.int .i64 r3])∧Kd.R (Kd.int .i64) 3 w' w.heap.size (fun _=>True) v0_ r1∧Kd.R (Kd.int .i64) 2 w' w.heap.size (fun _=>True) v1_ r2∧Below w.heap.size w w':=by
 have hu25:=Try.underlying25
 have HR0_0:=zm hr0_0
 have HC0_0:=zm hc0_0
 clear hr0_0 hc0_0
 have HR0_1:=zm hr0_1
 have HC0_1:=zm hc0_1
 clear hr0_1 hc0_1
 have HB:=zm (Below.refl w.heap.size w)
 have H:((pool_asks.f k l0_0 l0_1 a1).bind fun t199=>(if t199=0 then ((pool_role.f k a2).bind fun bt200=>(if bt200.2=true then (if 0≤a1 then (if a1 < (l0_0.length:Int) then (if (rd l0_0 a1)=1 then ((pool_turned.f l0_0 l0_1 a1 a2 0).bind fun bt203=>(some (bt203.1,bt203.2,0))) else (some (([]:List Int),([]:List Int),41))) else (none)) else (none)) else (some (([]:List Int),([]:List Int),41)))) else (some (([]:List Int),([]:List Int),t199))))=some (r1,r2,r3):=h
 clear h
 replace H:=Option.bind_eq_some_iff.mp H
 obtain ⟨t199,A40,H⟩:=H
 replace H:(if t199=0 then ((pool_role.f k a2).bind fun bt200=>(if bt200.2=true then (if 0≤a1 then (if a1 < (l0_0.length:Int) then (if (rd l0_0 a1)=1 then ((pool_turned.f l0_0 l0_1 a1 a2 0).bind fun bt203=>(some (bt203.1,bt203.2,0))) else (some (([]:List Int),([]:List Int),41))) else (none)) else (none)) else (some (([]:List Int),([]:List Int),41)))) else (some (([]:List Int),([]:List Int),t199)))=some (r1,r2,r3):=H
 have A4:=zm A40
 clear A40
 by_cases c5:t199=0
 ·rw [if_pos c5] at H
  have c5b0:(t199 == 0)=true:=beq_iff_eq.mpr c5
  have c5b1:(t199 != 0)=false:=bne_eq_false_iff_eq.mpr c5
  clear c5
  replace H:=Option.bind_eq_some_iff.mp H
  obtain ⟨⟨t200,t201⟩,A60,H⟩:=H
  replace H:(if t201=true then (if 0≤a1 then (if a1 < (l0_0.length:Int) then (if (rd l0_0 a1)=1 then ((pool_turned.f l0_0 l0_1 a1 a2 0).bind fun bt203=>(some (bt203.1,bt203.2,0))) else (some (([]:List Int),([]:List Int),41))) else (none)) else (none)) else (some (([]:List Int),([]:List Int),41)))=some (r1,r2,r3):=H
  have A6:=zm A60
  clear A60
  by_cases c7:t201=true
  ·subst c7
   have H1:(if 0≤a1 then (if a1 < (l0_0.length:Int) then (if (rd l0_0 a1)=1 then ((pool_turned.f l0_0 l0_1 a1 a2 0).bind fun bt203=>(some (bt203.1,bt203.2,0))) else (some (([]:List Int),([]:List Int),41))) else (none)) else (none))=some (r1,r2,r3):=by rw [if_pos rfl] at H;exact H
   clear H
   have H:=H1
   clear H1
   by_cases c8:0≤a1
   ·rw [if_pos c8] at H
    have c8b0:decide (0≤a1)=true:=decide_eq_true c8
    clear c8
    by_cases c9:a1 < (l0_0.length:Int)
    ·rw [if_pos c9] at H
     have c9b0:decide (a1 < (l0_0.length:Int))=true:=decide_eq_true c9
     clear c9
     by_cases c10:(rd l0_0 a1)=1
     ·rw [if_pos c10] at H
      have c10b0:((rd l0_0 a1) == 1)=true:=beq_iff_eq.mpr c10
      have c10b1:((rd l0_0 a1) != 1)=false:=bne_eq_false_iff_eq.mpr c10
      clear c10
      replace H:=Option.bind_eq_some_iff.mp H
      obtain ⟨⟨t203,t206⟩,A110,H⟩:=H
      replace H:(some (t203,t206,0))=some (r1,r2,r3):=H
      have A11:=zm A110
      clear A110
      simp only [Option.some.injEq,Prod.mk.injEq] at H
      obtain ⟨rfl,rfl,rfl⟩:=H
      go_enter Try.func19,Try.ntmps19
      go_wp2_with (first|((with_reducible refine gate_dst (N:=3) rfl ?_);refine box_event ?hg (N:=3) ?hd (cs:=#[.slice A0_0 l0_0.length c0_0,.slice A0_1 l0_1.length c0_1]) (t:=25) ?hr ?_;(case hd=>rfl);(case hg=>rfl);(case hr=>first|(go_simp;done)|(go_simp;rfl));intro gb197 hg w12 hbox hb;have n0_:=zm (below_step (by repeat (first|(with_reducible first|exact HB.out|apply zlA|apply zlN|apply zlD)|exact HB.out)) hb);have n1_:=zm (hbox);have n2_:=zm ((by rw [hg];exact (below_size (by repeat (first|(with_reducible first|exact HB.out|apply zlA|apply zlN|apply zlD)|exact HB.out))):w.heap.size≤gb197));have n3_:=zm ((by rw [hg];exact (below_size (by repeat (first|(with_reducible first|exact HB.out|apply zlA|apply zlN|apply zlD)|exact HB.out))):w.heap.size≤gb197));clear HB;have HB:=n0_;have BK197:=n1_;have GW197:=n2_;have GE197:=n3_;clear n0_ n1_ n2_ n3_;clear hb hbox hg)|((with_reducible refine gate_dst (N:=6) rfl ?_);refine box_event ?hg (N:=6) ?hd (cs:=#[.slice none 0 0,.slice none 0 0]) (t:=25) ?hr ?_;(case hd=>rfl);(case hg=>rfl);(case hr=>first|(go_simp;done)|(go_simp;rfl));intro gb198 hg w13 hbox hb;have n0_:=zm (zbB (g:=gb197) (o:=.cells #[.slice A0_0 l0_0.length c0_0,.slice A0_1 l0_1.length c0_1] 25 (0,0)) (by (with_reducible repeat (first|refine zbN ?_ _|refine zbD ?_|refine zbA ?_ _));exact BK197.out) hb);have n1_:=zm (below_step (by repeat (first|(with_reducible first|exact HB.out|apply zlA|apply zlN|apply zlD|refine zlS ?_ GE197.out)|exact HB.out)) hb);have n2_:=zm (hbox);have n3_:=zm ((by rw [hg];exact (below_size (by repeat (first|(with_reducible first|exact HB.out|apply zlA|apply zlN|apply zlD|refine zlS ?_ GE197.out)|exact HB.out))):w.heap.size≤gb198));have n4_:=zm ((by rw [hg];exact (below_size (by repeat (first|(with_reducible first|exact HB.out|apply zlA|apply zlN|apply zlD|refine zlS ?_ GE197.out)|exact HB.out))):w.heap.size≤gb198));have n5_:=zm ((by rw [hg];exact Nat.ne_of_lt (blk_lt (g:=gb197) (o:=.cells #[.slice A0_0 l0_0.length c0_0,.slice A0_1 l0_1.length c0_1] 25 (0,0)) (by (with_reducible repeat (first|refine zbN ?_ _|refine zbD ?_|refine zbA ?_ _));exact BK197.out)):gb197≠gb198));have n6_:=zm ((by rw [hg];exact Nat.ne_of_gt (blk_lt (g:=gb197) (o:=.cells #[.slice A0_0 l0_0.length c0_0,.slice A0_1 l0_1.length c0_1] 25 (0,0)) (by (with_reducible repeat (first|refine zbN ?_ _|refine zbD ?_|refine zbA ?_ _));exact BK197.out)):gb198≠gb197));clear BK197 HB;have BK197:=n0_;have HB:=n1_;have BK198:=n2_;have GW198:=n3_;have GE198:=n4_;have NB197_198:=n5_;have NB198_197:=n6_;clear n0_ n1_ n2_ n3_ n4_ n5_ n6_;clear hb hbox hg;have hnb14:=NB197_198.out;have hnc14:=NB198_197.out;have hcz15_0:w13.cell? ⟨gb197,0,none⟩=some (.slice A0_0 l0_0.length c0_0):=(blk_cell BK197.out 0).trans rfl;have hcz15_1:w13.cell? ⟨gb197,1,none⟩=some (.slice A0_1 l0_1.length c0_1):=(blk_cell BK197.out 1).trans rfl;have hfz15_0:=blk_frozen BK197.out 0;have hfz15_1:=blk_frozen BK197.out 1)|((with_reducible refine gate_callee (f:=42) rfl ?_);refine goesL_ (some 13) rfl rfl Try.func42 (by kernel_rfl) rfl #[.agg #[.slice A0_0 l0_0.length c0_0,.slice A0_1 l0_1.length c0_1],.int .i64 a1] rfl (by (try simp only [List.map_toArray,List.map_cons,List.map_nil]);first|done|rfl|(simp only [List.length_drop,List.length_take];rfl)) ?_;(with_reducible refine (pool_asks.calls k _ _ l0_0 _ _ l0_1 a1 t199 _ ?side1 ?side2 ?side3 ?side4 A4.out).mono ?_);(case side1=>repeat (first|exact (Kd.C_below HR0_0.out HB.out)|(with_reducible refine Kd.C_alloc ?_ _)|(with_reducible refine Kd.C_drewN ?_ _)|(with_reducible refine Kd.C_drew ?_)));(case side2=>exact HC0_0.out);(case side3=>repeat (first|exact (Kd.C_below HR0_1.out HB.out)|(with_reducible refine Kd.C_alloc ?_ _)|(with_reducible refine Kd.C_drewN ?_ _)|(with_reducible refine Kd.C_drew ?_)));(case side4=>exact HC0_1.out);rintro e w16 ⟨rfl,hb⟩;refine ⟨_,rfl,?_⟩;have n0_:=zm (zbB (g:=gb197) (o:=.cells #[.slice A0_0 l0_0.length c0_0,.slice A0_1 l0_1.length c0_1] 25 (0,0)) (by (with_reducible repeat (first|refine zbN ?_ _|refine zbD ?_|refine zbA ?_ _));exact BK197.out) hb);have n1_:=zm (zbB (g:=gb198) (o:=.cells #[.slice none 0 0,.slice none 0 0] 25 (0,0)) (by (with_reducible repeat (first|refine zbN ?_ _|refine zbD ?_|refine zbA ?_ _));exact BK198.out) hb);have n2_:=zm (below_step (by repeat (first|(with_reducible first|exact HB.out|apply zlA|apply zlN|apply zlD|refine zlS ?_ GE197.out|refine zlS ?_ GE198.out)|exact HB.out)) hb);clear BK197 BK198 HB;have BK197:=n0_;have BK198:=n1_;have HB:=n2_;clear n0_ n1_ n2_;(try clear hb);(try clear hb2);(try clear hk);(try clear hi))|((with_reducible refine gate_callee (f:=37) rfl ?_);refine goesL_ (some 20) rfl rfl Try.func37 (by kernel_rfl) rfl #[.int .i64 a2] rfl (by (try simp only [List.map_toArray,List.map_cons,List.map_nil]);first|done|rfl|(simp only [List.length_drop,List.length_take];rfl)) ?_;(with_reducible refine (pool_role.calls k a2 t200 true _ A6.out).mono ?_);rintro e w' ⟨rfl,⟨nd,rfl⟩⟩;refine ⟨_,rfl,?_⟩;(try (rw [drewN_self w16];generalize hq_:World.drewN w16 _=w16;have n0_:Aside0 (w16.heap[gb197]?=some (.cells #[.slice A0_0 l0_0.length c0_0,.slice A0_1 l0_1.length c0_1] 25 (0,0))):=⟨by rw [← hq_];exact (by (with_reducible repeat (first|refine zbN ?_ _|refine zbD ?_|refine zbA ?_ _));exact BK197.out)⟩;have n1_:Aside0 (w16.heap[gb198]?=some (.cells #[.slice none 0 0,.slice none 0 0] 25 (0,0))):=⟨by rw [← hq_];exact (by (with_reducible repeat (first|refine zbN ?_ _|refine zbD ?_|refine zbA ?_ _));exact BK198.out)⟩;have n2_:Aside0 (Below w.heap.size w w16):=⟨by rw [← hq_];exact (by repeat (first|(with_reducible first|exact HB.out|apply zlA|apply zlN|apply zlD|refine zlS ?_ GE197.out|refine zlS ?_ GE198.out)|exact HB.out))⟩;clear BK197 BK198 HB hq_;have BK197:=n0_;have BK198:=n1_;have HB:=n2_;clear n0_ n1_ n2_));have hcz17_0:w16.cell? ⟨gb197,0,none⟩=some (.slice A0_0 l0_0.length c0_0):=(blk_cell BK197.out 0).trans rfl;have hcz17_1:w16.cell? ⟨gb197,1,none⟩=some (.slice A0_1 l0_1.length c0_1):=(blk_cell BK197.out 1).trans rfl;have hfz17_0:=blk_frozen BK197.out 0;have hfz17_1:=blk_frozen BK197.out 1;have p202:0≤(a1:Int):=of_decide_eq_true (by first|(with_reducible assumption)|assumption);have q202:a1 < (l0_0.length:Int):=of_decide_eq_true (by first|(with_reducible assumption)|assumption);obtain ⟨ad202,e202,hx202_0⟩:=Kd.at_int HR0_0.out a1 p202 q202;cases e202;replace hx202_0:=(HB.out.cell (World.block_lt_of_cell? w _ hx202_0)).trans hx202_0;replace p202:=eq_true p202;replace q202:=eq_true q202)|((with_reducible refine gate_callee (f:=43) rfl ?_);refine goesL_ (some 37) rfl rfl Try.func43 (by kernel_rfl) rfl #[.agg #[.slice (some ad202) l0_0.length c0_0,.slice A0_1 l0_1.length c0_1],.int .i64 a1,.int .i64 a2,.int .i64 0] rfl (by (try simp only [List.map_toArray,List.map_cons,List.map_nil]);first|done|rfl|(simp only [List.length_drop,List.length_take];rfl)) ?_;(with_reducible refine (pool_turned.calls _ _ l0_0 _ _ l0_1 a1 a2 0 t203 t206 _ ?side1 ?side2 ?side3 ?side4 A11.out).mono ?_);(case side1=>repeat (first|exact (Kd.C_below HR0_0.out HB.out)|(with_reducible refine Kd.C_alloc ?_ _)|(with_reducible refine Kd.C_drewN ?_ _)|(with_reducible refine Kd.C_drew ?_)));(case side2=>exact HC0_0.out);(case side3=>repeat (first|exact (Kd.C_below HR0_1.out HB.out)|(with_reducible refine Kd.C_alloc ?_ _)|(with_reducible refine Kd.C_drewN ?_ _)|(with_reducible refine Kd.C_drew ?_)));(case side4=>exact HC0_1.out);rintro e w18 ⟨v204,v207,rfl,ho0,ho1,hb⟩;refine ⟨_,rfl,?_⟩;have n0_:=zm (Kd.R_lower ho0 (below_size (by repeat (first|(with_reducible first|exact HB.out|apply zlA|apply zlN|apply zlD|refine zlS ?_ GE197.out|refine zlS ?_ GE198.out)|exact HB.out))));have n1_:=zm (Kd.R_lower ho1 (below_size (by repeat (first|(with_reducible first|exact HB.out|apply zlA|apply zlN|apply zlD|refine zlS ?_ GE197.out|refine zlS ?_ GE198.out)|exact HB.out))));have n2_:=zm (zbB (g:=gb197) (o:=.cells #[.slice (some ad202) l0_0.length c0_0,.slice A0_1 l0_1.length c0_1] 25 (0,0)) (by (with_reducible repeat (first|refine zbN ?_ _|refine zbD ?_|refine zbA ?_ _));exact BK197.out) hb);have n3_:=zm (zbB (g:=gb198) (o:=.cells #[.slice none 0 0,.slice none 0 0] 25 (0,0)) (by (with_reducible repeat (first|refine zbN ?_ _|refine zbD ?_|refine zbA ?_ _));exact BK198.out) hb);have n4_:=zm (below_step (by repeat (first|(with_reducible first|exact HB.out|apply zlA|apply zlN|apply zlD|refine zlS ?_ GE197.out|refine zlS ?_ GE198.out)|exact HB.out)) hb);clear BK197 BK198 HB;have HO205:=n0_;have HO208:=n1_;have BK197:=n2_;have BK198:=n3_;have HB:=n4_;clear n0_ n1_ n2_ n3_ n4_;(try clear hb);(try clear hb2);(try clear hk);(try clear hi);(try clear ho0);(try clear ho1);obtain ⟨Ao19,co19,eo19⟩:=Kd.R_slice HO205.out;subst eo19;have hcz20_0:w18.cell? ⟨gb198,0,none⟩=some (.slice none 0 0):=(blk_cell BK198.out 0).trans rfl;have hcz20_1:w18.cell? ⟨gb198,1,none⟩=some (.slice none 0 0):=(blk_cell BK198.out 1).trans rfl;have hfz20_0:=blk_frozen BK198.out 0;have hfz20_1:=blk_frozen BK198.out 1;obtain ⟨Ao21,co21,eo21⟩:=Kd.R_slice HO208.out;subst eo21))
      refine bodyPost_ret (results_ct rfl _ _ gb198 25 #[.slice Ao19 t203.length co19,.slice Ao21 t206.length co21] (0,0) _ rfl (by (with_reducible repeat (first|refine zbN ?_ _|refine zbD ?_|refine zbA ?_ _));refine blk_put (cs:=#[.slice Ao19 t203.length co19,.slice none 0 0]) ?_ 1 _ rfl;(with_reducible repeat (first|refine zbN ?_ _|refine zbD ?_|refine zbA ?_ _));refine blk_put (cs:=#[.slice none 0 0,.slice none 0 0]) ?_ 0 _ rfl;(with_reducible repeat (first|refine zbN ?_ _|refine zbD ?_|refine zbA ?_ _));exact BK198.out) Try.underlying25 rfl (by kernel_rfl)) rfl ?_
      exact ⟨_,_,by first|rfl|(simp [errW_none,errW_some] <;> rfl)|(simp [*,errW_none,errW_some] <;> rfl),by (with_reducible repeat (first|apply zrA|apply zrN|apply zrD));exact Kd.R_mono (Kd.R_far (p:=⟨gb198,1,none⟩) (Kd.R_far (p:=⟨gb198,0,none⟩) (Kd.R_types HO205.out BK198.out (by decide)) (fun _ hk=>hk.2) (.slice Ao19 t203.length co19)) (fun _ hk=>hk.2) (.slice Ao21 t206.length co21)) (fun _ hk=>trivial),by (with_reducible repeat (first|apply zrA|apply zrN|apply zrD));exact Kd.R_mono (Kd.R_far (p:=⟨gb198,1,none⟩) (Kd.R_far (p:=⟨gb198,0,none⟩) (Kd.R_types HO208.out BK198.out (by decide)) (fun _ hk=>hk.2) (.slice Ao19 t203.length co19)) (fun _ hk=>hk.2) (.slice Ao21 t206.length co21)) (fun _ hk=>trivial),by repeat (first|(with_reducible first|exact HB.out|apply zlA|apply zlN|apply zlD|refine zlS ?_ GE197.out|refine zlS ?_ GE198.out)|exact HB.out)⟩
     ·rw [if_neg c10] at H
      have c10b0:((rd l0_0 a1) == 1)=false:=beq_eq_false_iff_ne.mpr c10
      have c10b1:((rd l0_0 a1) != 1)=true:=bne_iff_ne.mpr c10
      simp only [Option.some.injEq,Prod.mk.injEq] at H
      obtain ⟨rfl,rfl,rfl⟩:=H
      go_enter Try.func19,Try.ntmps19
      go_wp2_with (first|((with_reducible refine gate_dst (N:=3) rfl ?_);refine box_event ?hg (N:=3) ?hd (cs:=#[.slice A0_0 l0_0.length c0_0,.slice A0_1 l0_1.length c0_1]) (t:=25) ?hr ?_;(case hd=>rfl);(case hg=>rfl);(case hr=>first|(go_simp;done)|(go_simp;rfl));intro gb197 hg w22 hbox hb;have n0_:=zm (below_step (by repeat (first|(with_reducible first|exact HB.out|apply zlA|apply zlN|apply zlD)|exact HB.out)) hb);have n1_:=zm (hbox);have n2_:=zm ((by rw [hg];exact (below_size (by repeat (first|(with_reducible first|exact HB.out|apply zlA|apply zlN|apply zlD)|exact HB.out))):w.heap.size≤gb197));have n3_:=zm ((by rw [hg];exact (below_size (by repeat (first|(with_reducible first|exact HB.out|apply zlA|apply zlN|apply zlD)|exact HB.out))):w.heap.size≤gb197));clear HB;have HB:=n0_;have BK197:=n1_;have GW197:=n2_;have GE197:=n3_;clear n0_ n1_ n2_ n3_;clear hb hbox hg)|((with_reducible refine gate_dst (N:=6) rfl ?_);refine box_event ?hg (N:=6) ?hd (cs:=#[.slice none 0 0,.slice none 0 0]) (t:=25) ?hr ?_;(case hd=>rfl);(case hg=>rfl);(case hr=>first|(go_simp;done)|(go_simp;rfl));intro gb198 hg w23 hbox hb;have n0_:=zm (zbB (g:=gb197) (o:=.cells #[.slice A0_0 l0_0.length c0_0,.slice A0_1 l0_1.length c0_1] 25 (0,0)) (by (with_reducible repeat (first|refine zbN ?_ _|refine zbD ?_|refine zbA ?_ _));exact BK197.out) hb);have n1_:=zm (below_step (by repeat (first|(with_reducible first|exact HB.out|apply zlA|apply zlN|apply zlD|refine zlS ?_ GE197.out)|exact HB.out)) hb);have n2_:=zm (hbox);have n3_:=zm ((by rw [hg];exact (below_size (by repeat (first|(with_reducible first|exact HB.out|apply zlA|apply zlN|apply zlD|refine zlS ?_ GE197.out)|exact HB.out))):w.heap.size≤gb198));have n4_:=zm ((by rw [hg];exact (below_size (by repeat (first|(with_reducible first|exact HB.out|apply zlA|apply zlN|apply zlD|refine zlS ?_ GE197.out)|exact HB.out))):w.heap.size≤gb198));have n5_:=zm ((by rw [hg];exact Nat.ne_of_lt (blk_lt (g:=gb197) (o:=.cells #[.slice A0_0 l0_0.length c0_0,.slice A0_1 l0_1.length c0_1] 25 (0,0)) (by (with_reducible repeat (first|refine zbN ?_ _|refine zbD ?_|refine zbA ?_ _));exact BK197.out)):gb197≠gb198));have n6_:=zm ((by rw [hg];exact Nat.ne_of_gt (blk_lt (g:=gb197) (o:=.cells #[.slice A0_0 l0_0.length c0_0,.slice A0_1 l0_1.length c0_1] 25 (0,0)) (by (with_reducible repeat (first|refine zbN ?_ _|refine zbD ?_|refine zbA ?_ _));exact BK197.out)):gb198≠gb197));clear BK197 HB;have BK197:=n0_;have HB:=n1_;have BK198:=n2_;have GW198:=n3_;have GE198:=n4_;have NB197_198:=n5_;have NB198_197:=n6_;clear n0_ n1_ n2_ n3_ n4_ n5_ n6_;clear hb hbox hg;have hnb24:=NB197_198.out;have hnc24:=NB198_197.out;have hcz25_0:w23.cell? ⟨gb197,0,none⟩=some (.slice A0_0 l0_0.length c0_0):=(blk_cell BK197.out 0).trans rfl;have hcz25_1:w23.cell? ⟨gb197,1,none⟩=some (.slice A0_1 l0_1.length c0_1):=(blk_cell BK197.out 1).trans rfl;have hfz25_0:=blk_frozen BK197.out 0;have hfz25_1:=blk_frozen BK197.out 1)|((with_reducible refine gate_callee (f:=42) rfl ?_);refine goesL_ (some 13) rfl rfl Try.func42 (by kernel_rfl) rfl #[.agg #[.slice A0_0 l0_0.length c0_0,.slice A0_1 l0_1.length c0_1],.int .i64 a1] rfl (by (try simp only [List.map_toArray,List.map_cons,List.map_nil]);first|done|rfl|(simp only [List.length_drop,List.length_take];rfl)) ?_;(with_reducible refine (pool_asks.calls k _ _ l0_0 _ _ l0_1 a1 t199 _ ?side1 ?side2 ?side3 ?side4 A4.out).mono ?_);(case side1=>repeat (first|exact (Kd.C_below HR0_0.out HB.out)|(with_reducible refine Kd.C_alloc ?_ _)|(with_reducible refine Kd.C_drewN ?_ _)|(with_reducible refine Kd.C_drew ?_)));(case side2=>exact HC0_0.out);(case side3=>repeat (first|exact (Kd.C_below HR0_1.out HB.out)|(with_reducible refine Kd.C_alloc ?_ _)|(with_reducible refine Kd.C_drewN ?_ _)|(with_reducible refine Kd.C_drew ?_)));(case side4=>exact HC0_1.out);rintro e w26 ⟨rfl,hb⟩;refine ⟨_,rfl,?_⟩;have n0_:=zm (zbB (g:=gb197) (o:=.cells #[.slice A0_0 l0_0.length c0_0,.slice A0_1 l0_1.length c0_1] 25 (0,0)) (by (with_reducible repeat (first|refine zbN ?_ _|refine zbD ?_|refine zbA ?_ _));exact BK197.out) hb);have n1_:=zm (zbB (g:=gb198) (o:=.cells #[.slice none 0 0,.slice none 0 0] 25 (0,0)) (by (with_reducible repeat (first|refine zbN ?_ _|refine zbD ?_|refine zbA ?_ _));exact BK198.out) hb);have n2_:=zm (below_step (by repeat (first|(with_reducible first|exact HB.out|apply zlA|apply zlN|apply zlD|refine zlS ?_ GE197.out|refine zlS ?_ GE198.out)|exact HB.out)) hb);clear BK197 BK198 HB;have BK197:=n0_;have BK198:=n1_;have HB:=n2_;clear n0_ n1_ n2_;(try clear hb);(try clear hb2);(try clear hk);(try clear hi))|((with_reducible refine gate_callee (f:=37) rfl ?_);refine goesL_ (some 20) rfl rfl Try.func37 (by kernel_rfl) rfl #[.int .i64 a2] rfl (by (try simp only [List.map_toArray,List.map_cons,List.map_nil]);first|done|rfl|(simp only [List.length_drop,List.length_take];rfl)) ?_;(with_reducible refine (pool_role.calls k a2 t200 true _ A6.out).mono ?_);rintro e w' ⟨rfl,⟨nd,rfl⟩⟩;refine ⟨_,rfl,?_⟩;(try (rw [drewN_self w26];generalize hq_:World.drewN w26 _=w26;have n0_:Aside0 (w26.heap[gb197]?=some (.cells #[.slice A0_0 l0_0.length c0_0,.slice A0_1 l0_1.length c0_1] 25 (0,0))):=⟨by rw [← hq_];exact (by (with_reducible repeat (first|refine zbN ?_ _|refine zbD ?_|refine zbA ?_ _));exact BK197.out)⟩;have n1_:Aside0 (w26.heap[gb198]?=some (.cells #[.slice none 0 0,.slice none 0 0] 25 (0,0))):=⟨by rw [← hq_];exact (by (with_reducible repeat (first|refine zbN ?_ _|refine zbD ?_|refine zbA ?_ _));exact BK198.out)⟩;have n2_:Aside0 (Below w.heap.size w w26):=⟨by rw [← hq_];exact (by repeat (first|(with_reducible first|exact HB.out|apply zlA|apply zlN|apply zlD|refine zlS ?_ GE197.out|refine zlS ?_ GE198.out)|exact HB.out))⟩;clear BK197 BK198 HB hq_;have BK197:=n0_;have BK198:=n1_;have HB:=n2_;clear n0_ n1_ n2_));have hcz27_0:w26.cell? ⟨gb197,0,none⟩=some (.slice A0_0 l0_0.length c0_0):=(blk_cell BK197.out 0).trans rfl;have hcz27_1:w26.cell? ⟨gb197,1,none⟩=some (.slice A0_1 l0_1.length c0_1):=(blk_cell BK197.out 1).trans rfl;have hfz27_0:=blk_frozen BK197.out 0;have hfz27_1:=blk_frozen BK197.out 1;have p202:0≤(a1:Int):=of_decide_eq_true (by first|(with_reducible assumption)|assumption);have q202:a1 < (l0_0.length:Int):=of_decide_eq_true (by first|(with_reducible assumption)|assumption);obtain ⟨ad202,e202,hx202_0⟩:=Kd.at_int HR0_0.out a1 p202 q202;cases e202;replace hx202_0:=(HB.out.cell (World.block_lt_of_cell? w _ hx202_0)).trans hx202_0;replace p202:=eq_true p202;replace q202:=eq_true q202;have hcz28_0:w26.cell? ⟨gb198,0,none⟩=some (.slice none 0 0):=(blk_cell BK198.out 0).trans rfl;have hcz28_1:w26.cell? ⟨gb198,1,none⟩=some (.slice none 0 0):=(blk_cell BK198.out 1).trans rfl;have hfz28_0:=blk_frozen BK198.out 0;have hfz28_1:=blk_frozen BK198.out 1))
      refine bodyPost_ret (results_ct rfl _ _ gb198 25 #[.slice none 0 0,.slice none 0 0] (0,0) _ rfl (by (with_reducible repeat (first|refine zbN ?_ _|refine zbD ?_|refine zbA ?_ _));refine blk_put (cs:=#[.slice none 0 0,.slice none 0 0]) ?_ 1 _ rfl;(with_reducible repeat (first|refine zbN ?_ _|refine zbD ?_|refine zbA ?_ _));refine blk_put (cs:=#[.slice none 0 0,.slice none 0 0]) ?_ 0 _ rfl;(with_reducible repeat (first|refine zbN ?_ _|refine zbD ?_|refine zbA ?_ _));exact BK198.out) Try.underlying25 rfl (by kernel_rfl)) rfl ?_
      exact ⟨_,_,by first|rfl|(simp [errW_none,errW_some] <;> rfl)|(simp [*,errW_none,errW_some] <;> rfl),by first|exact Kd.R_nil _ _ _ _ _|exact Kd.N_nil _ _ _ _ _|exact Kd.V_nil _ _ _ _ _|exact Kd.Q_nil _ _ _ _ _|exact Kd.S_nil _ _ _ _ _,by first|exact Kd.R_nil _ _ _ _ _|exact Kd.N_nil _ _ _ _ _|exact Kd.V_nil _ _ _ _ _|exact Kd.Q_nil _ _ _ _ _|exact Kd.S_nil _ _ _ _ _,by repeat (first|(with_reducible first|exact HB.out|apply zlA|apply zlN|apply zlD|refine zlS ?_ GE197.out|refine zlS ?_ GE198.out)|exact HB.out)⟩
    ·rw [if_neg c9] at H
     exact absurd H (by simp)
   ·rw [if_neg c8] at H
    exact absurd H (by simp)
  ·replace c7:=Bool.eq_false_iff.mpr c7
   subst c7
   have H1:(some (([]:List Int),([]:List Int),41))=some (r1,r2,r3):=by rw [if_neg (show ¬ (false=true) by decide)] at H;exact H
   clear H
   have H:=H1
   clear H1
   simp only [Option.some.injEq,Prod.mk.injEq] at H
   obtain ⟨rfl,rfl,rfl⟩:=H
   go_enter Try.func19,Try.ntmps19
   go_wp2_with (first|((with_reducible refine gate_dst (N:=3) rfl ?_);refine box_event ?hg (N:=3) ?hd (cs:=#[.slice A0_0 l0_0.length c0_0,.slice A0_1 l0_1.length c0_1]) (t:=25) ?hr ?_;(case hd=>rfl);(case hg=>rfl);(case hr=>first|(go_simp;done)|(go_simp;rfl));intro gb197 hg w29 hbox hb;have n0_:=zm (below_step (by repeat (first|(with_reducible first|exact HB.out|apply zlA|apply zlN|apply zlD)|exact HB.out)) hb);have n1_:=zm (hbox);have n2_:=zm ((by rw [hg];exact (below_size (by repeat (first|(with_reducible first|exact HB.out|apply zlA|apply zlN|apply zlD)|exact HB.out))):w.heap.size≤gb197));have n3_:=zm ((by rw [hg];exact (below_size (by repeat (first|(with_reducible first|exact HB.out|apply zlA|apply zlN|apply zlD)|exact HB.out))):w.heap.size≤gb197));clear HB;have HB:=n0_;have BK197:=n1_;have GW197:=n2_;have GE197:=n3_;clear n0_ n1_ n2_ n3_;clear hb hbox hg)|((with_reducible refine gate_dst (N:=6) rfl ?_);refine box_event ?hg (N:=6) ?hd (cs:=#[.slice none 0 0,.slice none 0 0]) (t:=25) ?hr ?_;(case hd=>rfl);(case hg=>rfl);(case hr=>first|(go_simp;done)|(go_simp;rfl));intro gb198 hg w30 hbox hb;have n0_:=zm (zbB (g:=gb197) (o:=.cells #[.slice A0_0 l0_0.length c0_0,.slice A0_1 l0_1.length c0_1] 25 (0,0)) (by (with_reducible repeat (first|refine zbN ?_ _|refine zbD ?_|refine zbA ?_ _));exact BK197.out) hb);have n1_:=zm (below_step (by repeat (first|(with_reducible first|exact HB.out|apply zlA|apply zlN|apply zlD|refine zlS ?_ GE197.out)|exact HB.out)) hb);have n2_:=zm (hbox);have n3_:=zm ((by rw [hg];exact (below_size (by repeat (first|(with_reducible first|exact HB.out|apply zlA|apply zlN|apply zlD|refine zlS ?_ GE197.out)|exact HB.out))):w.heap.size≤gb198));have n4_:=zm ((by rw [hg];exact (below_size (by repeat (first|(with_reducible first|exact HB.out|apply zlA|apply zlN|apply zlD|refine zlS ?_ GE197.out)|exact HB.out))):w.heap.size≤gb198));have n5_:=zm ((by rw [hg];exact Nat.ne_of_lt (blk_lt (g:=gb197) (o:=.cells #[.slice A0_0 l0_0.length c0_0,.slice A0_1 l0_1.length c0_1] 25 (0,0)) (by (with_reducible repeat (first|refine zbN ?_ _|refine zbD ?_|refine zbA ?_ _));exact BK197.out)):gb197≠gb198));have n6_:=zm ((by rw [hg];exact Nat.ne_of_gt (blk_lt (g:=gb197) (o:=.cells #[.slice A0_0 l0_0.length c0_0,.slice A0_1 l0_1.length c0_1] 25 (0,0)) (by (with_reducible repeat (first|refine zbN ?_ _|refine zbD ?_|refine zbA ?_ _));exact BK197.out)):gb198≠gb197));clear BK197 HB;have BK197:=n0_;have HB:=n1_;have BK198:=n2_;have GW198:=n3_;have GE198:=n4_;have NB197_198:=n5_;have NB198_197:=n6_;clear n0_ n1_ n2_ n3_ n4_ n5_ n6_;clear hb hbox hg;have hnb31:=NB197_198.out;have hnc31:=NB198_197.out;have hcz32_0:w30.cell? ⟨gb197,0,none⟩=some (.slice A0_0 l0_0.length c0_0):=(blk_cell BK197.out 0).trans rfl;have hcz32_1:w30.cell? ⟨gb197,1,none⟩=some (.slice A0_1 l0_1.length c0_1):=(blk_cell BK197.out 1).trans rfl;have hfz32_0:=blk_frozen BK197.out 0;have hfz32_1:=blk_frozen BK197.out 1)|((with_reducible refine gate_callee (f:=42) rfl ?_);refine goesL_ (some 13) rfl rfl Try.func42 (by kernel_rfl) rfl #[.agg #[.slice A0_0 l0_0.length c0_0,.slice A0_1 l0_1.length c0_1],.int .i64 a1] rfl (by (try simp only [List.map_toArray,List.map_cons,List.map_nil]);first|done|rfl|(simp only [List.length_drop,List.length_take];rfl)) ?_;(with_reducible refine (pool_asks.calls k _ _ l0_0 _ _ l0_1 a1 t199 _ ?side1 ?side2 ?side3 ?side4 A4.out).mono ?_);(case side1=>repeat (first|exact (Kd.C_below HR0_0.out HB.out)|(with_reducible refine Kd.C_alloc ?_ _)|(with_reducible refine Kd.C_drewN ?_ _)|(with_reducible refine Kd.C_drew ?_)));(case side2=>exact HC0_0.out);(case side3=>repeat (first|exact (Kd.C_below HR0_1.out HB.out)|(with_reducible refine Kd.C_alloc ?_ _)|(with_reducible refine Kd.C_drewN ?_ _)|(with_reducible refine Kd.C_drew ?_)));(case side4=>exact HC0_1.out);rintro e w33 ⟨rfl,hb⟩;refine ⟨_,rfl,?_⟩;have n0_:=zm (zbB (g:=gb197) (o:=.cells #[.slice A0_0 l0_0.length c0_0,.slice A0_1 l0_1.length c0_1] 25 (0,0)) (by (with_reducible repeat (first|refine zbN ?_ _|refine zbD ?_|refine zbA ?_ _));exact BK197.out) hb);have n1_:=zm (zbB (g:=gb198) (o:=.cells #[.slice none 0 0,.slice none 0 0] 25 (0,0)) (by (with_reducible repeat (first|refine zbN ?_ _|refine zbD ?_|refine zbA ?_ _));exact BK198.out) hb);have n2_:=zm (below_step (by repeat (first|(with_reducible first|exact HB.out|apply zlA|apply zlN|apply zlD|refine zlS ?_ GE197.out|refine zlS ?_ GE198.out)|exact HB.out)) hb);clear BK197 BK198 HB;have BK197:=n0_;have BK198:=n1_;have HB:=n2_;clear n0_ n1_ n2_;(try clear hb);(try clear hb2);(try clear hk);(try clear hi))|((with_reducible refine gate_callee (f:=37) rfl ?_);refine goesL_ (some 20) rfl rfl Try.func37 (by kernel_rfl) rfl #[.int .i64 a2] rfl (by (try simp only [List.map_toArray,List.map_cons,List.map_nil]);first|done|rfl|(simp only [List.length_drop,List.length_take];rfl)) ?_;(with_reducible refine (pool_role.calls k a2 t200 false _ A6.out).mono ?_);rintro e w' ⟨rfl,⟨nd,rfl⟩⟩;refine ⟨_,rfl,?_⟩;(try (rw [drewN_self w33];generalize hq_:World.drewN w33 _=w33;have n0_:Aside0 (w33.heap[gb197]?=some (.cells #[.slice A0_0 l0_0.length c0_0,.slice A0_1 l0_1.length c0_1] 25 (0,0))):=⟨by rw [← hq_];exact (by (with_reducible repeat (first|refine zbN ?_ _|refine zbD ?_|refine zbA ?_ _));exact BK197.out)⟩;have n1_:Aside0 (w33.heap[gb198]?=some (.cells #[.slice none 0 0,.slice none 0 0] 25 (0,0))):=⟨by rw [← hq_];exact (by (with_reducible repeat (first|refine zbN ?_ _|refine zbD ?_|refine zbA ?_ _));exact BK198.out)⟩;have n2_:Aside0 (Below w.heap.size w w33):=⟨by rw [← hq_];exact (by repeat (first|(with_reducible first|exact HB.out|apply zlA|apply zlN|apply zlD|refine zlS ?_ GE197.out|refine zlS ?_ GE198.out)|exact HB.out))⟩;clear BK197 BK198 HB hq_;have BK197:=n0_;have BK198:=n1_;have HB:=n2_;clear n0_ n1_ n2_));have hcz34_0:w33.cell? ⟨gb198,0,none⟩=some (.slice none 0 0):=(blk_cell BK198.out 0).trans rfl;have hcz34_1:w33.cell? ⟨gb198,1,none⟩=some (.slice none 0 0):=(blk_cell BK198.out 1).trans rfl;have hfz34_0:=blk_frozen BK198.out 0;have hfz34_1:=blk_frozen BK198.out 1))
   refine bodyPost_ret (results_ct rfl _ _ gb198 25 #[.slice none 0 0,.slice none 0 0] (0,0) _ rfl (by (with_reducible repeat (first|refine zbN ?_ _|refine zbD ?_|refine zbA ?_ _));refine blk_put (cs:=#[.slice none 0 0,.slice none 0 0]) ?_ 1 _ rfl;(with_reducible repeat (first|refine zbN ?_ _|refine zbD ?_|refine zbA ?_ _));refine blk_put (cs:=#[.slice none 0 0,.slice none 0 0]) ?_ 0 _ rfl;(with_reducible repeat (first|refine zbN ?_ _|refine zbD ?_|refine zbA ?_ _));exact BK198.out) Try.underlying25 rfl (by kernel_rfl)) rfl ?_
   exact ⟨_,_,by first|rfl|(simp [errW_none,errW_some] <;> rfl)|(simp [*,errW_none,errW_some] <;> rfl),by first|exact Kd.R_nil _ _ _ _ _|exact Kd.N_nil _ _ _ _ _|exact Kd.V_nil _ _ _ _ _|exact Kd.Q_nil _ _ _ _ _|exact Kd.S_nil _ _ _ _ _,by first|exact Kd.R_nil _ _ _ _ _|exact Kd.N_nil _ _ _ _ _|exact Kd.V_nil _ _ _ _ _|exact Kd.Q_nil _ _ _ _ _|exact Kd.S_nil _ _ _ _ _,by repeat (first|(with_reducible first|exact HB.out|apply zlA|apply zlN|apply zlD|refine zlS ?_ GE197.out|refine zlS ?_ GE198.out)|exact HB.out)⟩
 ·rw [if_neg c5] at H
  have c5b0:(t199 == 0)=false:=beq_eq_false_iff_ne.mpr c5
  have c5b1:(t199 != 0)=true:=bne_iff_ne.mpr c5
  simp only [Option.some.injEq,Prod.mk.injEq] at H
  obtain ⟨rfl,rfl,rfl⟩:=H
  go_enter Try.func19,Try.ntmps19
  go_wp2_with (first|((with_reducible refine gate_dst (N:=3) rfl ?_);refine box_event ?hg (N:=3) ?hd (cs:=#[.slice A0_0 l0_0.length c0_0,.slice A0_1 l0_1.length c0_1]) (t:=25) ?hr ?_;(case hd=>rfl);(case hg=>rfl);(case hr=>first|(go_simp;done)|(go_simp;rfl));intro gb197 hg w35 hbox hb;have n0_:=zm (below_step (by repeat (first|(with_reducible first|exact HB.out|apply zlA|apply zlN|apply zlD)|exact HB.out)) hb);have n1_:=zm (hbox);have n2_:=zm ((by rw [hg];exact (below_size (by repeat (first|(with_reducible first|exact HB.out|apply zlA|apply zlN|apply zlD)|exact HB.out))):w.heap.size≤gb197));have n3_:=zm ((by rw [hg];exact (below_size (by repeat (first|(with_reducible first|exact HB.out|apply zlA|apply zlN|apply zlD)|exact HB.out))):w.heap.size≤gb197));clear HB;have HB:=n0_;have BK197:=n1_;have GW197:=n2_;have GE197:=n3_;clear n0_ n1_ n2_ n3_;clear hb hbox hg)|((with_reducible refine gate_dst (N:=6) rfl ?_);refine box_event ?hg (N:=6) ?hd (cs:=#[.slice none 0 0,.slice none 0 0]) (t:=25) ?hr ?_;(case hd=>rfl);(case hg=>rfl);(case hr=>first|(go_simp;done)|(go_simp;rfl));intro gb198 hg w36 hbox hb;have n0_:=zm (zbB (g:=gb197) (o:=.cells #[.slice A0_0 l0_0.length c0_0,.slice A0_1 l0_1.length c0_1] 25 (0,0)) (by (with_reducible repeat (first|refine zbN ?_ _|refine zbD ?_|refine zbA ?_ _));exact BK197.out) hb);have n1_:=zm (below_step (by repeat (first|(with_reducible first|exact HB.out|apply zlA|apply zlN|apply zlD|refine zlS ?_ GE197.out)|exact HB.out)) hb);have n2_:=zm (hbox);have n3_:=zm ((by rw [hg];exact (below_size (by repeat (first|(with_reducible first|exact HB.out|apply zlA|apply zlN|apply zlD|refine zlS ?_ GE197.out)|exact HB.out))):w.heap.size≤gb198));have n4_:=zm ((by rw [hg];exact (below_size (by repeat (first|(with_reducible first|exact HB.out|apply zlA|apply zlN|apply zlD|refine zlS ?_ GE197.out)|exact HB.out))):w.heap.size≤gb198));have n5_:=zm ((by rw [hg];exact Nat.ne_of_lt (blk_lt (g:=gb197) (o:=.cells #[.slice A0_0 l0_0.length c0_0,.slice A0_1 l0_1.length c0_1] 25 (0,0)) (by (with_reducible repeat (first|refine zbN ?_ _|refine zbD ?_|refine zbA ?_ _));exact BK197.out)):gb197≠gb198));have n6_:=zm ((by rw [hg];exact Nat.ne_of_gt (blk_lt (g:=gb197) (o:=.cells #[.slice A0_0 l0_0.length c0_0,.slice A0_1 l0_1.length c0_1] 25 (0,0)) (by (with_reducible repeat (first|refine zbN ?_ _|refine zbD ?_|refine zbA ?_ _));exact BK197.out)):gb198≠gb197));clear BK197 HB;have BK197:=n0_;have HB:=n1_;have BK198:=n2_;have GW198:=n3_;have GE198:=n4_;have NB197_198:=n5_;have NB198_197:=n6_;clear n0_ n1_ n2_ n3_ n4_ n5_ n6_;clear hb hbox hg;have hnb37:=NB197_198.out;have hnc37:=NB198_197.out;have hcz38_0:w36.cell? ⟨gb197,0,none⟩=some (.slice A0_0 l0_0.length c0_0):=(blk_cell BK197.out 0).trans rfl;have hcz38_1:w36.cell? ⟨gb197,1,none⟩=some (.slice A0_1 l0_1.length c0_1):=(blk_cell BK197.out 1).trans rfl;have hfz38_0:=blk_frozen BK197.out 0;have hfz38_1:=blk_frozen BK197.out 1)|((with_reducible refine gate_callee (f:=42) rfl ?_);refine goesL_ (some 13) rfl rfl Try.func42 (by kernel_rfl) rfl #[.agg #[.slice A0_0 l0_0.length c0_0,.slice A0_1 l0_1.length c0_1],.int .i64 a1] rfl (by (try simp only [List.map_toArray,List.map_cons,List.map_nil]);first|done|rfl|(simp only [List.length_drop,List.length_take];rfl)) ?_;(with_reducible refine (pool_asks.calls k _ _ l0_0 _ _ l0_1 a1 t199 _ ?side1 ?side2 ?side3 ?side4 A4.out).mono ?_);(case side1=>repeat (first|exact (Kd.C_below HR0_0.out HB.out)|(with_reducible refine Kd.C_alloc ?_ _)|(with_reducible refine Kd.C_drewN ?_ _)|(with_reducible refine Kd.C_drew ?_)));(case side2=>exact HC0_0.out);(case side3=>repeat (first|exact (Kd.C_below HR0_1.out HB.out)|(with_reducible refine Kd.C_alloc ?_ _)|(with_reducible refine Kd.C_drewN ?_ _)|(with_reducible refine Kd.C_drew ?_)));(case side4=>exact HC0_1.out);rintro e w39 ⟨rfl,hb⟩;refine ⟨_,rfl,?_⟩;have n0_:=zm (zbB (g:=gb197) (o:=.cells #[.slice A0_0 l0_0.length c0_0,.slice A0_1 l0_1.length c0_1] 25 (0,0)) (by (with_reducible repeat (first|refine zbN ?_ _|refine zbD ?_|refine zbA ?_ _));exact BK197.out) hb);have n1_:=zm (zbB (g:=gb198) (o:=.cells #[.slice none 0 0,.slice none 0 0] 25 (0,0)) (by (with_reducible repeat (first|refine zbN ?_ _|refine zbD ?_|refine zbA ?_ _));exact BK198.out) hb);have n2_:=zm (below_step (by repeat (first|(with_reducible first|exact HB.out|apply zlA|apply zlN|apply zlD|refine zlS ?_ GE197.out|refine zlS ?_ GE198.out)|exact HB.out)) hb);clear BK197 BK198 HB;have BK197:=n0_;have BK198:=n1_;have HB:=n2_;clear n0_ n1_ n2_;(try clear hb);(try clear hb2);(try clear hk);(try clear hi);have hcz40_0:w39.cell? ⟨gb198,0,none⟩=some (.slice none 0 0):=(blk_cell BK198.out 0).trans rfl;have hcz40_1:w39.cell? ⟨gb198,1,none⟩=some (.slice none 0 0):=(blk_cell BK198.out 1).trans rfl;have hfz40_0:=blk_frozen BK198.out 0;have hfz40_1:=blk_frozen BK198.out 1))
  refine bodyPost_ret (results_ct rfl _ _ gb198 25 #[.slice none 0 0,.slice none 0 0] (0,0) _ rfl (by (with_reducible repeat (first|refine zbN ?_ _|refine zbD ?_|refine zbA ?_ _));refine blk_put (cs:=#[.slice none 0 0,.slice none 0 0]) ?_ 1 _ rfl;(with_reducible repeat (first|refine zbN ?_ _|refine zbD ?_|refine zbA ?_ _));refine blk_put (cs:=#[.slice none 0 0,.slice none 0 0]) ?_ 0 _ rfl;(with_reducible repeat (first|refine zbN ?_ _|refine zbD ?_|refine zbA ?_ _));exact BK198.out) Try.underlying25 rfl (by kernel_rfl)) rfl ?_
  exact ⟨_,_,by first|rfl|(simp [errW_none,errW_some] <;> rfl)|(simp [*,errW_none,errW_some] <;> rfl),by first|exact Kd.R_nil _ _ _ _ _|exact Kd.N_nil _ _ _ _ _|exact Kd.V_nil _ _ _ _ _|exact Kd.Q_nil _ _ _ _ _|exact Kd.S_nil _ _ _ _ _,by first|exact Kd.R_nil _ _ _ _ _|exact Kd.N_nil _ _ _ _ _|exact Kd.V_nil _ _ _ _ _|exact Kd.Q_nil _ _ _ _ _|exact Kd.S_nil _ _ _ _ _,by repeat (first|(with_reducible first|exact HB.out|apply zlA|apply zlN|apply zlD|refine zlS ?_ GE197.out|refine zlS ?_ GE198.out)|exact HB.out)⟩
end Go.Proofs.Ytlegmnpngcadhaa.Print
end
