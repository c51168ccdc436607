/- Texts of the proof of PoolMakes, part 13. -/
import Derived.Test.YtlegmnpngcadhaaPoolMakesMA
import Derived.Test.YtlegmnpngcadhaaProg
import Derived.Below
import Derived.Deep.Draws
import Derived.Deep.AppendLies
import Derived.Maps.AppendAt
import Derived.OwnWalk
import Derived.Laws.BytesArg
import Derived.Laws.MakeOwn
import Derived.Laws.OwnMore
import Derived.Deep.OwnRows
import Derived.Tactics
import Derived.Lib.ConvBytes
import Derived.Laws.Slices
import Derived.WalkKit
import Derived.KernelRfl
import Derived.RowKit3
import Derived.Deep.LoopGhost
import Derived.Deep.QuietTactic
import Derived.BigQuiet
import Derived.WideLaws
import Derived.Deep.DeepCutAuto
import Derived.Deep.CutBlock
import Derived.Deep.RegionHeld3
import Derived.Laws.Rows
import Derived.Lib.AppendStr
import Derived.ArgAppend
import Derived.Laws.IdiomCopy
import Derived.OrdersHeld
import Derived.Laws.BitsLemmas
import Derived.RowKit
import Derived.Lib.SliceRun
import Derived.Test.YtlegmnpngcadhaaPoolMakesM1
import Derived.Laws.CopyOwn
import Derived.Test.YtlegmnpngcadhaaPoolMakesM0
import Derived.Deep.RegionLaw
import Derived.Test.YtlegmnpngcadhaaPoolMakesM2
import Derived.Test.YtlegmnpngcadhaaPoolMakesM3
import Derived.Test.YtlegmnpngcadhaaPoolMakesM4
import Derived.Test.YtlegmnpngcadhaaPoolMakesM5
import Derived.Test.YtlegmnpngcadhaaPoolMakesM6
import Derived.Test.YtlegmnpngcadhaaPoolMakesM7
import Derived.Test.YtlegmnpngcadhaaPoolMakesM8
import Derived.Laws.StructEq
import Derived.Test.YtlegmnpngcadhaaPoolMakesM9
import Derived.Test.YtlegmnpngcadhaaPoolMakesM10
import Derived.Test.YtlegmnpngcadhaaPoolMakesM11
import Derived.Test.YtlegmnpngcadhaaPoolMakesM12
section
namespace Go.Proofs.Ytlegmnpngcadhaa.Print
open Go.RowKit Go.Proofs.YtlegmnpngcadhaaW.PrintWords Go.Proofs.YtlegmnpngcadhaaW.PrintLast Go.Proofs.YtlegmnpngcadhaaW.PrintMore
attribute [local go_sem] max2_int min2_int max_two min_two max_three min_three max_four min_four   -- for this text's walks alone
attribute [local go_sem ↓] Go.Proofs.Ytlegmnpngcadhaa.Sem.isSome_setCell
attribute [local go_sem] Go.Instr.field Go.asAgg
set_option linter.unusedVariables false
set_option linter.unusedSimpArgs false
def errW:Option Int → Value
 | none=>.nilIface
 | some c=>.iface 0 (.int .i64 c)
theorem errW_none:errW none=.nilIface:=rfl
theorem errW_some (c:Int):errW (some c)=.iface 0 (.int .i64 c):=rfl
theorem info2:(Try.prog.info? 2).map (fun i=>(i.zero,i.size,i.bytes))=some (some (.int .i64 0),1,8):=by kernel_rfl
theorem info3:(Try.prog.info? 3).map (fun i=>(i.zero,i.size,i.bytes))=some (some (.int .i64 0),1,8):=by kernel_rfl
-- the values' own types
end Go.Proofs.Ytlegmnpngcadhaa.Print
end
section
namespace Go.Proofs.Ytlegmnpngcadhaa.Print
open Go.RowKit Go.Proofs.YtlegmnpngcadhaaW.PrintWords Go.Proofs.YtlegmnpngcadhaaW.PrintLast Go.Proofs.YtlegmnpngcadhaaW.PrintMore
attribute [local go_sem] max2_int min2_int max_two min_two max_three min_three max_four min_four   -- for this text's walks alone
attribute [local go_sem ↓] Go.Proofs.Ytlegmnpngcadhaa.Sem.isSome_setCell
attribute [local go_sem] Go.Instr.field Go.asAgg
set_option linter.unusedVariables false
set_option linter.unusedSimpArgs false
def pool_worn.f (a0:Int):Option (Bool):=if a0 ≥ 0 then (some (decide (a0≤16777215))) else (some false)
set_option maxHeartbeats 8000000 in
set_option maxRecDepth 100000 in
theorem pool_worn.calls (a0:Int) (r:Bool) (w:World) (h:pool_worn.f a0=some r) :
  Calls Try.prog 38 #[.int .i64 a0] w fun e w'=>e=.returned (.bool r)∧Drawn0 w w':=by
 have H:(if a0 ≥ 0 then (some (decide (a0≤16777215))) else (some false))=some r:=h
 clear h
 by_cases c2:a0 ≥ 0
 ·rw [if_pos c2] at H
  have c2b0:decide (0≤a0)=true:=decide_eq_true c2
  clear c2
  obtain rfl:=Option.some.inj H
  go_enter Try.func38,Try.ntmps38
  go_wp2
  go_ret
  exact ⟨by first|rfl|(simp;done)|(simp [*];done),by repeat (first|exact Drawn0.refl _|apply Drawn0.step)⟩
 ·rw [if_neg c2] at H
  have c2b0:decide (0≤a0)=false:=decide_eq_false c2
  clear c2
  obtain rfl:=Option.some.inj H
  go_enter Try.func38,Try.ntmps38
  go_wp2
  go_ret
  exact ⟨by first|rfl|(simp;done)|(simp [*];done),by repeat (first|exact Drawn0.refl _|apply Drawn0.step)⟩
def pool_blocks.f (a0:Int):Option (Bool):=if a0 ≥ 16 then (some (decide (a0≤256))) else (some false)
set_option maxHeartbeats 8000000 in
set_option maxRecDepth 100000 in
theorem pool_blocks.calls (a0:Int) (r:Bool) (w:World) (h:pool_blocks.f a0=some r) :
  Calls Try.prog 35 #[.int .i64 a0] w fun e w'=>e=.returned (.bool r)∧Drawn0 w w':=by
 have H:(if a0 ≥ 16 then (some (decide (a0≤256))) else (some false))=some r:=h
 clear h
 by_cases c2:a0 ≥ 16
 ·rw [if_pos c2] at H
  have c2b0:decide (16≤a0)=true:=decide_eq_true c2
  clear c2
  obtain rfl:=Option.some.inj H
  go_enter Try.func35,Try.ntmps35
  go_wp2
  go_ret
  exact ⟨by first|rfl|(simp;done)|(simp [*];done),by repeat (first|exact Drawn0.refl _|apply Drawn0.step)⟩
 ·rw [if_neg c2] at H
  have c2b0:decide (16≤a0)=false:=decide_eq_false c2
  clear c2
  obtain rfl:=Option.some.inj H
  go_enter Try.func35,Try.ntmps35
  go_wp2
  go_ret
  exact ⟨by first|rfl|(simp;done)|(simp [*];done),by repeat (first|exact Drawn0.refl _|apply Drawn0.step)⟩
def bits_Mul64.f (a0:Int) (a1:Int):Option (Int × Int):=some (IntKind.u64.wrap ((IntKind.u64.wrap ((IntKind.u64.wrap ((a0 / 4294967296) * (a1 / 4294967296))) + ((IntKind.u64.wrap ((IntKind.u64.wrap ((a0 / 4294967296) * (Go.bits .and .u64 a1 4294967295))) + ((IntKind.u64.wrap ((Go.bits .and .u64 a0 4294967295) * (Go.bits .and .u64 a1 4294967295))) / 4294967296))) / 4294967296))) + ((IntKind.u64.wrap ((Go.bits .and .u64 (IntKind.u64.wrap ((IntKind.u64.wrap ((a0 / 4294967296) * (Go.bits .and .u64 a1 4294967295))) + ((IntKind.u64.wrap ((Go.bits .and .u64 a0 4294967295) * (Go.bits .and .u64 a1 4294967295))) / 4294967296))) 4294967295) + (IntKind.u64.wrap ((Go.bits .and .u64 a0 4294967295) * (a1 / 4294967296))))) / 4294967296)),IntKind.u64.wrap (a0 * a1))
set_option maxHeartbeats 8000000 in
set_option maxRecDepth 100000 in
theorem bits_Mul64.calls (a0:Int) (a1:Int) (r1:Int) (r2:Int) (w:World) (h:bits_Mul64.f a0 a1=some (r1,r2)) :
  Calls Try.prog 55 #[.int .u64 a0,.int .u64 a1] w fun e w'=>e=.returned (.tuple #[.int .u64 r1,.int .u64 r2])∧Drawn0 w w':=by
 have H:(some (IntKind.u64.wrap ((IntKind.u64.wrap ((IntKind.u64.wrap ((a0 / 4294967296) * (a1 / 4294967296))) + ((IntKind.u64.wrap ((IntKind.u64.wrap ((a0 / 4294967296) * (Go.bits .and .u64 a1 4294967295))) + ((IntKind.u64.wrap ((Go.bits .and .u64 a0 4294967295) * (Go.bits .and .u64 a1 4294967295))) / 4294967296))) / 4294967296))) + ((IntKind.u64.wrap ((Go.bits .and .u64 (IntKind.u64.wrap ((IntKind.u64.wrap ((a0 / 4294967296) * (Go.bits .and .u64 a1 4294967295))) + ((IntKind.u64.wrap ((Go.bits .and .u64 a0 4294967295) * (Go.bits .and .u64 a1 4294967295))) / 4294967296))) 4294967295) + (IntKind.u64.wrap ((Go.bits .and .u64 a0 4294967295) * (a1 / 4294967296))))) / 4294967296)),IntKind.u64.wrap (a0 * a1)))=some (r1,r2):=h
 clear h
 simp only [Option.some.injEq,Prod.mk.injEq] at H
 obtain ⟨rfl,rfl⟩:=H
 go_enter Try.func55,Try.ntmps55
 go_wp2
 go_ret2
 exact ⟨by first|rfl|(simp;done)|(simp [*];done),by repeat (first|exact Drawn0.refl _|apply Drawn0.step)⟩
def bits_Mul.f (a0:Int) (a1:Int):Option (Int × Int):=(bits_Mul64.f a0 a1).bind fun bt101=>(some (bt101.1,bt101.2))
set_option maxHeartbeats 8000000 in
set_option maxRecDepth 100000 in
theorem bits_Mul.calls (a0:Int) (a1:Int) (r1:Int) (r2:Int) (w:World) (h:bits_Mul.f a0 a1=some (r1,r2)) :
  Calls Try.prog 51 #[.int .u64 a0,.int .u64 a1] w fun e w'=>e=.returned (.tuple #[.int .u64 r1,.int .u64 r2])∧Drawn0 w w':=by
 have H:((bits_Mul64.f a0 a1).bind fun bt101=>(some (bt101.1,bt101.2)))=some (r1,r2):=h
 clear h
 replace H:=Option.bind_eq_some_iff.mp H
 obtain ⟨⟨t101,t102⟩,A30,H⟩:=H
 replace H:(some (t101,t102))=some (r1,r2):=H
 have A3:=zm A30
 clear A30
 simp only [Option.some.injEq,Prod.mk.injEq] at H
 obtain ⟨rfl,rfl⟩:=H
 go_enter Try.func51,Try.ntmps51
 go_wp2_with (first|((with_reducible refine gate_callee (f:=55) rfl ?_);refine goesL_ (some 25) rfl rfl Try.func55 (by kernel_rfl) rfl #[.int .u64 a0,.int .u64 a1] rfl (by (try simp only [List.map_toArray,List.map_cons,List.map_nil]);first|done|rfl|(simp only [List.length_drop,List.length_take];rfl)) ?_;(with_reducible refine (bits_Mul64.calls a0 a1 t101 t102 _ A3.out).mono ?_);rintro e w' ⟨rfl,⟨nd,rfl⟩⟩;refine ⟨_,rfl,?_⟩))
 go_ret2
 exact ⟨by first|rfl|(simp;done)|(simp [*];done),by repeat (first|exact Drawn0.refl _|apply Drawn0.step)⟩
def slices_Repeat_int_int.f (l0:List Int) (a1:Int):Option (List Int):=match l0 with
 | [x]=>if 0 < a1∧a1≤256 then some (List.replicate a1.toNat x) else none
 | _=>none
theorem slices_Repeat_int_int.mul:∀ n:Nat,n < 257 → bits_Mul.f 1 (n:Int)=some (0,(n:Int)):=by decide +kernel
def slices_Repeat_int_int.row (x z:Value) (n q:Nat):List Value:=List.replicate q x ++ List.replicate (n - q) z
theorem slices_Repeat_int_int.row_len (x z:Value) (n q:Nat) (h:q≤n):(slices_Repeat_int_int.row x z n q).length=n:=by simp [slices_Repeat_int_int.row];omega
theorem slices_Repeat_int_int.row_get (x z:Value) (n q j:Nat) (h:j < q):(slices_Repeat_int_int.row x z n q)[j]?=some x:=by
 rw [slices_Repeat_int_int.row,List.getElem?_append_left (by simpa using h),List.getElem?_replicate,if_pos h]
theorem slices_Repeat_int_int.row_splice (x z:Value) (n q m:Nat) (h:q + m≤n):(slices_Repeat_int_int.row x z n q).take q ++ (List.replicate m x ++ (slices_Repeat_int_int.row x z n q).drop (q + m))=slices_Repeat_int_int.row x z n (q + m):=by
 have e1:(slices_Repeat_int_int.row x z n q).take q=List.replicate q x:=by
  rw [slices_Repeat_int_int.row,List.take_append_of_le_length (by simp),List.take_of_length_le (by simp)]
 have e2:(slices_Repeat_int_int.row x z n q).drop (q + m)=List.replicate (n - (q + m)) z:=by
  rw [slices_Repeat_int_int.row,List.drop_append,List.drop_eq_nil_of_le (by simp),List.nil_append,List.length_replicate,show q + m - q=m by omega,List.drop_replicate,show n - q - m=n - (q + m) by omega]
 rw [e1,e2,slices_Repeat_int_int.row,← List.append_assoc,List.replicate_append_replicate]
theorem slices_Repeat_int_int.row_full (x z:Value) (n:Nat):slices_Repeat_int_int.row x z n n=List.replicate n x:=by simp [slices_Repeat_int_int.row]
set_option maxHeartbeats 8000000 in
set_option maxRecDepth 100000 in
theorem slices_Repeat_int_int.calls (A0:Option Addr) (c0:Nat) (l0:List Int) (a1:Int) (r:List Int) (w:World) (hr0:Kd.C (Kd.int .i64) w A0 l0.length l0) (hc0:l0.length≤c0) (h:slices_Repeat_int_int.f l0 a1=some r) :
  Calls Try.prog 36 #[.slice A0 l0.length c0,.int .i64 a1] w fun e w'=>∃ v0_:Value,e=.returned (v0_)∧Kd.R (Kd.int .i64) 3 w' w.heap.size (fun _=>True) v0_ r∧Below w.heap.size w w':=by
 obtain ⟨x,n,rfl,rfl,hn0,hn1,rfl⟩:∃ (x:Int) (n:Nat),l0=[x]∧a1=(n:Int)∧0 < n∧n≤256∧r=List.replicate n x:=by
  unfold slices_Repeat_int_int.f at h
  split at h
  ·rename_i x
   split at h
   ·rename_i hc
    obtain ⟨n,rfl⟩:=Int.eq_ofNat_of_zero_le (Int.le_of_lt hc.1)
    exact ⟨x,n,rfl,rfl,by omega,by omega,(Option.some.inj h).symm⟩
   ·cases h
  ·cases h
 have hmk:∀ nd,((w.drewN nd).alloc (.cells (madeCells #[.int .i64 0] n) 3)).heap[w.heap.size]?=some (.cells (slices_Repeat_int_int.row (.int .i64 x) (.int .i64 0) n 0).toArray 3 (0,0)):=fun nd=>by
  have h1:=heap_alloc_new (w.drewN nd) (.cells (madeCells #[.int .i64 0] n) 3)
  have h2:(madeCells #[Value.int .i64 0] n)=(slices_Repeat_int_int.row (.int .i64 x) (.int .i64 0) n 0).toArray:=by
   apply Array.ext
   ·simp [madeCells,slices_Repeat_int_int.row]
   ·intro i h1 h2
    simp [madeCells,slices_Repeat_int_int.row,Nat.mod_one]
  rw [← h2]
  exact h1
 have hbl:∀ nd,Below w.heap.size w ((w.drewN nd).alloc (.cells (madeCells #[.int .i64 0] n) 3)):=fun nd=>zlA (zlN (Below.refl _ _) nd) _
 have hmul:=slices_Repeat_int_int.mul n (by omega)
 obtain ⟨ad,rfl,hcell⟩:=(Kd.reads_of_C (d:=(0:Int)) hr0).2.2 (by simp)
 have hx:w.cell? (ad.add 0)=some (.int .i64 x):=hcell 0 (by simp)
 obtain ⟨i0,hi0,hzz⟩:=Option.map_eq_some_iff.1 info3
 simp only [Prod.mk.injEq] at hzz
 obtain ⟨hz,hsz,hby⟩:=hzz
 have hsz':(Try.prog.info? 3).map (·.size)=some 1:=by rw [hi0];simp [hsz]
 have hsrc1:∀ nd j v,[Value.int .i64 x][j]?=some v → ((w.drewN nd).alloc (.cells (madeCells #[.int .i64 0] n) 3)).cell? (ad.add j)=some v:=fun nd j v hj=>by
  rcases j with _|j
  ·cases hj
   exact pw_cell_below (hbl nd) hx
  ·simp at hj
 clear h hcell hr0
 have hw1:IntKind.u64.wrap (n:Int)=(n:Int):=by simp [IntKind.wrap,IntKind.bits,IntKind.signed];omega
 have hw2:IntKind.i64.wrap (n:Int)=(n:Int):=by simp [IntKind.wrap,IntKind.bits,IntKind.signed];omega
 have hn3:¬ ((n:Int) < 0):=by omega
 have hn4:¬ (9223372036854775807 < (n:Int)):=by omega
 go_enter Try.func36,Try.ntmps36
 go_wp2_with (first|((with_reducible refine gate_callee (f:=51) rfl ?_);refine goesL_ (some 18) rfl rfl Try.func51 (by kernel_rfl) rfl #[.int .u64 1,.int .u64 n] rfl (by (try simp only [List.map_toArray,List.map_cons,List.map_nil]);first|done|rfl|(simp;done)) ?_;(with_reducible refine (bits_Mul.calls 1 n 0 n _ hmul).mono ?_);rintro e w' ⟨rfl,⟨nd,rfl⟩⟩;refine ⟨_,rfl,?_⟩)|((with_reducible refine gate_dst (N:=30) rfl ?_);refine wpList_make_row _ rfl _ _ 22 rfl 3 i0 (.int .i64 0) Try.underlying22 hi0 hz hsz rfl .i64 .i64 n rfl rfl (by rw [hby];omega) (by omega) ?_)|((with_reducible refine gate_builtin (b:=.copy) (xs:=#[.tmp 31,.tmp 32]) rfl ?_);refine wpList_copy_splice rfl (.tmp 31) (.tmp 32) 22 22 rfl 3 Try.underlying22 hsz' (some ⟨w.heap.size,0,none⟩) (some ad) n n 1 c0 rfl rfl w.heap.size 0 (slices_Repeat_int_int.row (.int .i64 x) (.int .i64 0) n 0) 3 (hmk _) [.int .i64 x] (by simp [Nat.min_def];omega) ?_ (by rw [slices_Repeat_int_int.row_len _ _ _ _ (by omega)];simp;omega) (by intro u hu;rw [List.mem_singleton.1 hu];rfl) w.heap.size w (hbl _) (Nat.le_refl _) ?_;(exact fun _=>⟨rfl,ad,rfl,hsrc1 _⟩);intro w3 hg3 hb3;have hg3:=hg3.out;rw [show splice (slices_Repeat_int_int.row (.int .i64 x) (.int .i64 0) n 0) 0 [Value.int .i64 x]=slices_Repeat_int_int.row (.int .i64 x) (.int .i64 0) n 1 from slices_Repeat_int_int.row_splice _ _ n 0 1 (by omega)] at hg3))
 clear hmk hbl hsrc1
 go_loopw [8] (fun v8 w'=>∃ q:Nat,v8=.int .i64 q∧1≤q∧q≤n∧Hid (w'.heap[w.heap.size]?=some (.cells (slices_Repeat_int_int.row (.int .i64 x) (.int .i64 0) n q).toArray 3 (0,0)))∧Hid (Below w.heap.size w w')) (fun v8 _=>n - (intOf v8).toNat)
 case atStart=>exact ⟨1,by simp,Nat.le_refl _,hn0,hg3,hb3⟩
 case round =>
  obtain ⟨q,rfl,hq1,hqn,hgr,hbr⟩:=hrel
  by_cases hlt:q < n
  ·have hne:¬ (n=q):=by omega
   have hwm:IntKind.i64.wrap ((q:Int) + ((min q (n - q):Nat):Int))=((q + min q (n - q):Nat):Int):=by simp [IntKind.wrap,IntKind.bits,IntKind.signed];omega
   have hsrc2:∀ j v,(List.replicate (min q (n - q)) (Value.int .i64 x))[j]?=some v → wr.drew.cell? ((⟨w.heap.size,0,none⟩:Addr).add j)=some v:=fun j v hj=>by
    obtain ⟨hj1,hj2⟩:=List.getElem?_eq_some_iff.1 hj
    rw [List.getElem_replicate] at hj2
    subst hj2
    rw [List.length_replicate] at hj1
    have hj3:j < q:=by omega
    show wr.cell? _=_
    have:=blk_cell hgr.out j
    rw [Addr.add_lit,Nat.zero_add]
    rw [this]
    simpa using slices_Repeat_int_int.row_get (Value.int .i64 x) (.int .i64 0) n q j hj3
   go_wp2
   go_region_law (refine step_copy_splice rfl (.tmp 41) (.tmp 44) 22 22 rfl 3 Try.underlying22 hsz' (some ⟨w.heap.size,q,none⟩) (some ⟨w.heap.size,0,none⟩) (n - q) (n - q) q n (by simp [Act.eval,Act.put]) (by simp [Act.eval,Act.put]) w.heap.size q (slices_Repeat_int_int.row (.int .i64 x) (.int .i64 0) n q) 3 hgr.out (List.replicate (min q (n - q)) (.int .i64 x)) (by simp [Nat.min_def]) (fun _=>⟨rfl,_,rfl,hsrc2⟩) (by rw [slices_Repeat_int_int.row_len _ _ _ _ hqn];simp;omega) (by intro u hu;rw [List.eq_of_mem_replicate hu];rfl) w.heap.size w (below_drew hbr.out) (Nat.le_refl _) ?_;intro w4 hg4 hb4)
   have hg4:=hg4.out
   rw [show splice (slices_Repeat_int_int.row (.int .i64 x) (.int .i64 0) n q) q (List.replicate (min q (n - q)) (Value.int .i64 x))=slices_Repeat_int_int.row (.int .i64 x) (.int .i64 0) n (q + min q (n - q)) from by have:=slices_Repeat_int_int.row_splice (.int .i64 x) (.int .i64 0) n q (min q (n - q)) (by omega);simpa [splice] using this] at hg4
   simp only [Act.put,List.getElem_toArray,List.getElem_cons_zero,List.getElem_cons_succ,go_sem,List.setIfInBounds_toArray,List.set_cons_succ,List.set_cons_zero]
   go_roundw
   case rel=>exact ⟨_,_,_,_,_,_,_,_,_,_,_,_,_,_,⟨q + min q (n - q),by rw [Int.natCast_add],by omega,by omega,hg4,hb4⟩,rfl⟩
   case measure=>simp [intOf];omega
  ·go_wp2
   have hqe:q=n:=by omega
   subst hqe
   go_ret
   have hsz2:(slices_Repeat_int_int.row (.int .i64 x) (.int .i64 0) q q).length=q:=slices_Repeat_int_int.row_len _ _ _ _ (Nat.le_refl _)
   refine ⟨_,rfl,Kd.R_of_own ⟨by simp [encs],.inr ⟨w.heap.size,q,_,by simp,Nat.le_refl _,hgr.out,by simp,by simp [maxLen];omega,by simp [hsz2],?_⟩⟩ (fun _ _=>trivial),hbr.out⟩
   rw [slices_Repeat_int_int.row_full,encs,List.map_replicate,List.length_replicate]
   simp
end Go.Proofs.Ytlegmnpngcadhaa.Print
end
section
namespace Go.Proofs.Ytlegmnpngcadhaa.Print
open Go.RowKit Go.Proofs.YtlegmnpngcadhaaW.PrintWords Go.Proofs.YtlegmnpngcadhaaW.PrintLast Go.Proofs.YtlegmnpngcadhaaW.PrintMore
attribute [local go_sem] max2_int min2_int max_two min_two max_three min_three max_four min_four   -- for this text's walks alone
attribute [local go_sem ↓] Go.Proofs.Ytlegmnpngcadhaa.Sem.isSome_setCell
attribute [local go_sem] Go.Instr.field Go.asAgg
set_option linter.unusedVariables false
set_option linter.unusedSimpArgs false
def pool_New.l0:Nat → Int → List Int → Int → Int → List Int → List Int → Option (List Int × List Int × Int)
 | 0,_,_,_,_,_,_=>none
 | k + 1,x0,x19,x20,x21,x118000,x118001=>if x21 < x20 then (if 0≤x21 then (if x21 < (x19.length:Int) then (if (rd x19 x21) < 0 then (some (([]:List Int),([]:List Int),22)) else (if (rd x19 x21) ≥ x0 then (some (([]:List Int),([]:List Int),22)) else (if 0≤(rd x19 x21) then (if (rd x19 x21) < (x118000.length:Int) then (if (rd x118000 (rd x19 x21))=6 then (some (([]:List Int),([]:List Int),22)) else (pool_New.l0 k x0 x19 x20 (wrap64 (x21 + 1)) (x118000.set ((rd x19 x21):Int).toNat 6) x118001)) else (none)) else (none)))) else (none)) else (none)) else (some (x118000,x118001,0))
def pool_New.f (k:Nat) (a0:Int) (l1:List Int):Option (List Int × List Int × Int):=(pool_blocks.f a0).bind fun t107=>(if t107=true then ((slices_Repeat_int_int.f (([1]:List Int)) a0).bind fun t111=>(if 0≤a0 then (if (a0:Int).toNat≤35184372088832 then (pool_New.l0 k a0 l1 (l1.length:Int) 0 t111 (List.replicate (a0:Int).toNat 0)) else (none)) else (none))) else (some (([]:List Int),([]:List Int),20)))
theorem pool_New.mono_l:∀ k,(∀ y0 y1 y2 y3 y4 y5,LeO (pool_New.l0 k y0 y1 y2 y3 y4 y5) (pool_New.l0 (k + 1) y0 y1 y2 y3 y4 y5))
 | 0=>fun _ _ _ _ _ _ r h=>by simp [pool_New.l0] at h
 | k + 1=>by
  have ih0:=pool_New.mono_l k
  ·intro y0 y1 y2 y3 y4 y5
   unfold pool_New.l0
   repeat' first
   | (with_reducible exact ih0 _ _ _ _ _ _)
   | (with_reducible exact LeO.refl _)
   | (with_reducible exact LeO.none _)
   | (with_reducible refine LeO.ite ?_ ?_)
   | (with_reducible refine LeO.bind ?_ (fun _=>?_))
   | exact ih0 _ _ _ _ _ _
   | exact LeO.none _
   | refine LeO.ite ?_ ?_
   | refine LeO.bind ?_ (fun _=>?_)
theorem pool_New.mono:∀ a0 a1 k,LeO (pool_New.f k a0 a1) (pool_New.f (k + 1) a0 a1):=by
 intro a0 a1 k
 have ih0:=pool_New.mono_l k
 unfold pool_New.f
 repeat' first
   | (with_reducible exact ih0 _ _ _ _ _ _)
   | (with_reducible exact LeO.refl _)
   | (with_reducible exact LeO.none _)
   | (with_reducible refine LeO.ite ?_ ?_)
   | (with_reducible refine LeO.bind ?_ (fun _=>?_))
   | exact ih0 _ _ _ _ _ _
   | exact LeO.none _
   | refine LeO.ite ?_ ?_
   | refine LeO.bind ?_ (fun _=>?_)
def pool_New.T3:Bool × List (List Nat × List Nat):=(true,[([],[]),([],[]),([0,1],[0,1]),([],[]),([3,3],[3]),([2,4],[2,4]),([],[]),([6,5,2,0,1,2,3,4,5,6],[5,6])])
def pool_New.B3:List Nat:=[0,0,3,0,8,31,0,127]
theorem pool_New.tab3:rtab .any (opsOf Try.f8 3)=pool_New.T3:=by kernel_rfl
theorem pool_New.bits3:waitsOk pool_New.T3.2 pool_New.B3=true:=by kernel_rfl
set_option maxHeartbeats 8000000 in
set_option maxRecDepth 100000 in
theorem pool_New.calls (k:Nat) (a0:Int) (A1:Option Addr) (c1:Nat) (l1:List Int) (r1:List Int) (r2:List Int) (r3:Int) (w:World) (hr1:Kd.C (Kd.int .i64) w A1 l1.length l1) (hc1:l1.length≤c1) (h:pool_New.f k a0 l1=some (r1,r2,r3)) :
  Calls Try.prog 8 #[.int .i64 a0,.slice A1 l1.length c1] w fun e w'=>∃ v0_ v1_:Value,e=.returned (.tuple #[.agg #[v0_,v1_],.int .i64 r3])∧Kd.R (Kd.int .i64) 3 w' w.heap.size (fun _=>True) v0_ r1∧Kd.R (Kd.int .i64) 2 w' w.heap.size (fun _=>True) v1_ r2∧Below w.heap.size w w':=by
 have hu25:=Try.underlying25
 have HR1:=zm hr1
 have HC1:=zm hc1
 clear hr1 hc1
 have HB:=zm (Below.refl w.heap.size w)
 have H:((pool_blocks.f a0).bind fun t107=>(if t107=true then ((slices_Repeat_int_int.f (([1]:List Int)) a0).bind fun t111=>(if 0≤a0 then (if (a0:Int).toNat≤35184372088832 then (pool_New.l0 k a0 l1 (l1.length:Int) 0 t111 (List.replicate (a0:Int).toNat 0)) else (none)) else (none))) else (some (([]:List Int),([]:List Int),20))))=some (r1,r2,r3):=h
 clear h
 replace H:=Option.bind_eq_some_iff.mp H
 obtain ⟨t107,A30,H⟩:=H
 replace H:(if t107=true then ((slices_Repeat_int_int.f (([1]:List Int)) a0).bind fun t111=>(if 0≤a0 then (if (a0:Int).toNat≤35184372088832 then (pool_New.l0 k a0 l1 (l1.length:Int) 0 t111 (List.replicate (a0:Int).toNat 0)) else (none)) else (none))) else (some (([]:List Int),([]:List Int),20)))=some (r1,r2,r3):=H
 have A3:=zm A30
 clear A30
 by_cases c4:t107=true
 ·subst c4
  have H1:((slices_Repeat_int_int.f (([1]:List Int)) a0).bind fun t111=>(if 0≤a0 then (if (a0:Int).toNat≤35184372088832 then (pool_New.l0 k a0 l1 (l1.length:Int) 0 t111 (List.replicate (a0:Int).toNat 0)) else (none)) else (none)))=some (r1,r2,r3):=by rw [if_pos rfl] at H;exact H
  clear H
  have H:=H1
  clear H1
  obtain ⟨y108,hy108⟩:∃ y_:List Int,y_=(([1]:List Int)):=⟨_,rfl⟩
  replace H:((slices_Repeat_int_int.f y108 a0).bind fun t111=>(if 0≤a0 then (if (a0:Int).toNat≤35184372088832 then (pool_New.l0 k a0 l1 (l1.length:Int) 0 t111 (List.replicate (a0:Int).toNat 0)) else (none)) else (none)))=some (r1,r2,r3):=by first|(rw [hy108];with_reducible exact H)|(have H2_:=(Option.bind_some _ _).symm.trans H;rw [hy108];with_reducible exact H2_)|(have H2_:=(Option.bind_some _ _).symm.trans H;with_reducible exact H2_)|with_reducible exact H|(rw [hy108];exact H)|exact H
  have Ny108:=zm hy108
  clear hy108
  replace H:=Option.bind_eq_some_iff.mp H
  obtain ⟨t111,A50,H⟩:=H
  replace H:(if 0≤a0 then (if (a0:Int).toNat≤35184372088832 then (pool_New.l0 k a0 l1 (l1.length:Int) 0 t111 (List.replicate (a0:Int).toNat 0)) else (none)) else (none))=some (r1,r2,r3):=H
  have A5:=zm A50
  clear A50
  by_cases c6:0≤a0
  ·rw [if_pos c6] at H
   have c6b0:=eq_true c6
   have c6b1:decide (0≤a0)=true:=decide_eq_true c6
   clear c6
   by_cases c7:(a0:Int).toNat≤35184372088832
   ·rw [if_pos c7] at H
    have c7b0:=eq_true c7
    have c7b1:decide ((a0:Int).toNat≤35184372088832)=true:=decide_eq_true c7
    clear c7
    obtain ⟨y114,hy114⟩:∃ y_:List Int,y_=(List.replicate (a0:Int).toNat 0):=⟨_,rfl⟩
    replace H:(pool_New.l0 k a0 l1 (l1.length:Int) 0 t111 y114)=some (r1,r2,r3):=by first|(rw [hy114];with_reducible exact H)|(have H2_:=(Option.bind_some _ _).symm.trans H;rw [hy114];with_reducible exact H2_)|(have H2_:=(Option.bind_some _ _).symm.trans H;with_reducible exact H2_)|with_reducible exact H|(rw [hy114];exact H)|exact H
    have Ny114:=zm hy114
    clear hy114
    have H':=zm H
    clear H
    go_enter Try.func8,Try.ntmps8
    try go_wp2_with (first|((with_reducible refine gate_dst (N:=4) rfl ?_);refine box_event ?hg (N:=4) ?hd (cs:=#[.slice none 0 0,.slice none 0 0]) (t:=25) ?hr ?_;(case hd=>rfl);(case hg=>rfl);(case hr=>first|(go_simp;done)|(go_simp;rfl));intro gb106 hg w8 hbox hb;have n0_:=zm (below_step (by repeat (first|(with_reducible first|exact HB.out|apply zlA|apply zlN|apply zlD)|exact HB.out)) hb);have n1_:=zm (hbox);have n2_:=zm ((by rw [hg];exact (below_size (by repeat (first|(with_reducible first|exact HB.out|apply zlA|apply zlN|apply zlD)|exact HB.out))):w.heap.size≤gb106));have n3_:=zm ((by rw [hg];exact (below_size (by repeat (first|(with_reducible first|exact HB.out|apply zlA|apply zlN|apply zlD)|exact HB.out))):w.heap.size≤gb106));clear HB;have HB:=n0_;have BK106:=n1_;have GW106:=n2_;have GE106:=n3_;clear n0_ n1_ n2_ n3_;clear hb hbox hg)|((with_reducible refine gate_callee (f:=35) rfl ?_);refine goesL_ (some 10) rfl rfl Try.func35 (by kernel_rfl) rfl #[.int .i64 a0] rfl (by (try simp only [List.map_toArray,List.map_cons,List.map_nil]);first|done|rfl|(simp only [List.length_drop,List.length_take];rfl)) ?_;(with_reducible refine (pool_blocks.calls a0 true _ A3.out).mono ?_);rintro e w' ⟨rfl,⟨nd,rfl⟩⟩;refine ⟨_,rfl,?_⟩;(try (rw [drewN_self w8];generalize hq_:World.drewN w8 _=w8;have n0_:Aside0 (w8.heap[gb106]?=some (.cells #[.slice none 0 0,.slice none 0 0] 25 (0,0))):=⟨by rw [← hq_];exact (by (with_reducible repeat (first|refine zbN ?_ _|refine zbD ?_|refine zbA ?_ _));exact BK106.out)⟩;have n1_:Aside0 (Below w.heap.size w w8):=⟨by rw [← hq_];exact (by repeat (first|(with_reducible first|exact HB.out|apply zlA|apply zlN|apply zlD|refine zlS ?_ GE106.out)|exact HB.out))⟩;clear BK106 HB hq_;have BK106:=n0_;have HB:=n1_;clear n0_ n1_))))
    have n0_:=zm (zbD BK106.out)
    have n1_:=zm (zlD HB.out)
    clear BK106 HB
    have BK106:=n0_
    have HB:=n1_
    clear n0_ n1_
    refine start_ (n:=8) (S:=fun w'=>True) (ds:=[]) #[false,false,false,false,false,false,false,false] (by kernel_rfl) rfl rfl trivial (fun hHeld=>?_);refine with_tabW pool_New.tab3 pool_New.bits3 (fun HT_ HW_=>?_)
    generalize w8.drew=w9 at BK106 HB hHeld ⊢
    refine pure_ (i:=1) (N:=some 14) (v:=?_) (a':=?_) #[false,true,false,false,false,false,false,false] rfl rfl (any_of HT_.out (by kernel_rfl)) (fun _ _ _ h=>h) (Or.inl ⟨by rfl,?_⟩) ?_ ?_
    rotate_left
    ·intro w'
     go_simp
     with_reducible rfl
    rotate_left
    ·simp only [Act.put,List.setIfInBounds_toArray,List.set_cons_zero,List.set_cons_succ,i64_w,i32_w]
     rfl
    refine pure_ (i:=3) (N:=some 16) (v:=?_) (a':=?_) #[false,true,false,true,false,false,false,false] rfl rfl (any_of HT_.out (by kernel_rfl)) (fun _ _ _ h=>h) (Or.inl ⟨by rfl,?_⟩) ?_ ?_
    rotate_left
    ·intro w'
     go_simp
     with_reducible rfl
    rotate_left
    ·simp only [Act.put,List.setIfInBounds_toArray,List.set_cons_zero,List.set_cons_succ,i64_w,i32_w]
     rfl
    refine join_ (σ:=Value × Value × Value × Nat) 1 #[true,true,true,true,true,true,true,false] (fun s_=>[(13,s_.1),(15,s_.2.1),(17,s_.2.2.1),(6,.pointer (some ⟨s_.2.2.2,0,none⟩)),(18,.agg #[s_.2.1,s_.2.2.1])]) (fun s_ w'=>(Kd.R (Kd.int .i64) 3 w' w.heap.size (fun k_=>some k_≠(s_.2.1:Value).ownBlock) s_.1 y108)∧(Kd.R (Kd.int .i64) 3 w' w.heap.size (fun k_=>some k_≠(s_.1:Value).ownBlock) s_.2.1 t111)∧(Kd.R (Kd.int .i64) 2 w' w.heap.size (fun _=>True) s_.2.2.1 y114)∧(w'.heap[gb106]?=some (.cells #[.slice none 0 0,.slice none 0 0] 25 (0,0)))∧(w'.heap[s_.2.2.2]?=some (.cells #[.slice none 0 0,.slice none 0 0] 25 (0,0)))∧(w.heap.size≤s_.2.2.2)∧(w.heap.size≤s_.2.2.2)∧(gb106≠s_.2.2.2)∧(s_.2.2.2≠gb106)∧(Below w.heap.size w w')) ?_ ?_
    rotate_left
    ·intro hJ0_2_4_6
     refine join_ (σ:=Value × Value × Value) 2 #[true,true,true,true,true,true,false,false] (fun s_=>[(13,s_.1),(15,s_.2.1),(17,s_.2.2),(18,.agg #[s_.2.1,s_.2.2])]) (fun s_ w'=>(Kd.R (Kd.int .i64) 3 w' w.heap.size (fun k_=>some k_≠(s_.2.1:Value).ownBlock) s_.1 y108)∧(Kd.R (Kd.int .i64) 3 w' w.heap.size (fun k_=>some k_≠(s_.1:Value).ownBlock) s_.2.1 t111)∧(Kd.R (Kd.int .i64) 2 w' w.heap.size (fun _=>True) s_.2.2 y114)∧(w'.heap[gb106]?=some (.cells #[.slice none 0 0,.slice none 0 0] 25 (0,0)))∧(Below w.heap.size w w')) ?_ ?_
     rotate_left
     ·intro hJ0_2_4
      refine join_ (σ:=Value × Value × Nat) 3 #[true,true,true,true,false,false,true,false] (fun s_=>[(13,s_.1),(15,s_.2.1),(6,.pointer (some ⟨s_.2.2,0,none⟩))]) (fun s_ w'=>(Kd.R (Kd.int .i64) 3 w' w.heap.size (fun k_=>some k_≠(s_.2.1:Value).ownBlock) s_.1 y108)∧(Kd.R (Kd.int .i64) 3 w' w.heap.size (fun k_=>some k_≠(s_.1:Value).ownBlock) s_.2.1 t111)∧(w'.heap[gb106]?=some (.cells #[.slice none 0 0,.slice none 0 0] 25 (0,0)))∧(w'.heap[s_.2.2]?=some (.cells #[.slice none 0 0,.slice none 0 0] 25 (0,0)))∧(w.heap.size≤s_.2.2)∧(w.heap.size≤s_.2.2)∧(gb106≠s_.2.2)∧(s_.2.2≠gb106)∧(Below w.heap.size w w')) ?_ ?_
      rotate_left
      ·intro hJ0_2_6
       refine join_ (σ:=Value × Value × Nat) 3 #[true,true,false,true,true,false,true,false] (fun s_=>[(13,s_.1),(17,s_.2.1),(6,.pointer (some ⟨s_.2.2,0,none⟩))]) (fun s_ w'=>(Kd.R (Kd.int .i64) 3 w' w.heap.size (fun _=>True) s_.1 y108)∧(Kd.R (Kd.int .i64) 2 w' w.heap.size (fun _=>True) s_.2.1 y114)∧(w'.heap[gb106]?=some (.cells #[.slice none 0 0,.slice none 0 0] 25 (0,0)))∧(w'.heap[s_.2.2]?=some (.cells #[.slice none 0 0,.slice none 0 0] 25 (0,0)))∧(w.heap.size≤s_.2.2)∧(w.heap.size≤s_.2.2)∧(gb106≠s_.2.2)∧(s_.2.2≠gb106)∧(Below w.heap.size w w')) ?_ ?_
       rotate_left
       ·intro hJ0_4_6
        refine join_ (σ:=Value × Value) 4 #[true,true,true,true,false,false,false,false] (fun s_=>[(13,s_.1),(15,s_.2)]) (fun s_ w'=>(Kd.R (Kd.int .i64) 3 w' w.heap.size (fun k_=>some k_≠(s_.2:Value).ownBlock) s_.1 y108)∧(Kd.R (Kd.int .i64) 3 w' w.heap.size (fun k_=>some k_≠(s_.1:Value).ownBlock) s_.2 t111)∧(w'.heap[gb106]?=some (.cells #[.slice none 0 0,.slice none 0 0] 25 (0,0)))∧(Below w.heap.size w w')) ?_ ?_
        rotate_left
        ·intro hJ0_2
         refine join_ (σ:=Value × Value) 4 #[true,true,false,true,true,false,false,false] (fun s_=>[(13,s_.1),(17,s_.2)]) (fun s_ w'=>(Kd.R (Kd.int .i64) 3 w' w.heap.size (fun _=>True) s_.1 y108)∧(Kd.R (Kd.int .i64) 2 w' w.heap.size (fun _=>True) s_.2 y114)∧(w'.heap[gb106]?=some (.cells #[.slice none 0 0,.slice none 0 0] 25 (0,0)))∧(Below w.heap.size w w')) ?_ ?_
         rotate_left
         ·intro hJ0_4
          refine join_ (σ:=Value × Nat) 4 #[true,true,false,true,false,false,true,false] (fun s_=>[(13,s_.1),(6,.pointer (some ⟨s_.2,0,none⟩))]) (fun s_ w'=>(Kd.R (Kd.int .i64) 3 w' w.heap.size (fun _=>True) s_.1 y108)∧(w'.heap[gb106]?=some (.cells #[.slice none 0 0,.slice none 0 0] 25 (0,0)))∧(w'.heap[s_.2]?=some (.cells #[.slice none 0 0,.slice none 0 0] 25 (0,0)))∧(w.heap.size≤s_.2)∧(w.heap.size≤s_.2)∧(gb106≠s_.2)∧(s_.2≠gb106)∧(Below w.heap.size w w')) ?_ ?_
          rotate_left
          ·intro hJ0_6
           refine join_ (σ:=Value × Nat) 4 #[false,true,false,true,true,false,true,false] (fun s_=>[(17,s_.1),(6,.pointer (some ⟨s_.2,0,none⟩))]) (fun s_ w'=>(Kd.R (Kd.int .i64) 2 w' w.heap.size (fun _=>True) s_.1 y114)∧(w'.heap[gb106]?=some (.cells #[.slice none 0 0,.slice none 0 0] 25 (0,0)))∧(w'.heap[s_.2]?=some (.cells #[.slice none 0 0,.slice none 0 0] 25 (0,0)))∧(w.heap.size≤s_.2)∧(w.heap.size≤s_.2)∧(gb106≠s_.2)∧(s_.2≠gb106)∧(Below w.heap.size w w')) ?_ ?_
           rotate_left
           ·intro hJ4_6
            refine join_ (σ:=Value) 5 #[true,true,false,true,false,false,false,false] (fun s_=>[(13,s_)]) (fun s_ w'=>(Kd.R (Kd.int .i64) 3 w' w.heap.size (fun _=>True) s_ y108)∧(w'.heap[gb106]?=some (.cells #[.slice none 0 0,.slice none 0 0] 25 (0,0)))∧(Below w.heap.size w w')) ?_ ?_
            rotate_left
            ·intro hJ0
             refine join_ (σ:=Value) 5 #[false,true,false,true,true,false,false,false] (fun s_=>[(17,s_)]) (fun s_ w'=>(Kd.R (Kd.int .i64) 2 w' w.heap.size (fun _=>True) s_ y114)∧(w'.heap[gb106]?=some (.cells #[.slice none 0 0,.slice none 0 0] 25 (0,0)))∧(Below w.heap.size w w')) ?_ ?_
             rotate_left
             ·intro hJ4
              refine join_ (σ:=Nat) 5 #[false,true,false,true,false,false,true,false] (fun s_=>[(6,.pointer (some ⟨s_,0,none⟩))]) (fun s_ w'=>(w'.heap[gb106]?=some (.cells #[.slice none 0 0,.slice none 0 0] 25 (0,0)))∧(w'.heap[s_]?=some (.cells #[.slice none 0 0,.slice none 0 0] 25 (0,0)))∧(w.heap.size≤s_)∧(w.heap.size≤s_)∧(gb106≠s_)∧(s_≠gb106)∧(Below w.heap.size w w')) ?_ ?_
              rotate_left
              ·intro hJ6
               refine three_ (i:=0) (j:=4) (k:=6) (Ni:=some 13) (Nj:=some 17) (Nk:=some 6) #[true,true,false,true,false,false,false,false] #[false,true,false,true,true,false,false,false] #[false,true,false,true,false,false,true,false] rfl rfl rfl rfl rfl rfl (three_of HT_.out (by kernel_rfl)) (by decide) (by decide) (by decide) (fun K hK=>?_) (fun K hK=>?_) (fun K hK=>?_)
               ·skip
                refine Kd.R_lit_step (Kd.int .i64) _ 3 ?hg (N:=13) ?hd (xs:=([1]:List Int)) (inner:=[.int .i64 1]) (ok:=fun _=>True) (okp:=fun _=>True) ?hr ?hp (fun _ hk=>hk) trivial (Below.refl _ _) (Nat.le_refl _) (by simp) ?_;(case hd=>rfl);(case hg=>rfl);(case hr=>first|(go_simp;done)|(go_simp;rfl));(case hp=>exact (Reps.one (show Kd.M (Kd.int .i64) _ _ _ 1 [.int .i64 1] from rfl) (Reps.none _ _)))
                intro v109 w10 ho11 hb hg_ hnew_
                clear hg_ hnew_
                (first|rw [← Ny108.out] at ho11|(simp only [Int.reduceToNat] at ho11;rw [← Ny108.out] at ho11))
                have n0_:=zm (Kd.R_lower ho11 (below_size (by repeat (first|(with_reducible first|exact HB.out|apply zlA|apply zlN|apply zlD|refine zlS ?_ GE106.out)|exact HB.out))))
                have n1_:=zm (zbB (g:=gb106) (o:=.cells #[.slice none 0 0,.slice none 0 0] 25 (0,0)) (by (with_reducible repeat (first|refine zbN ?_ _|refine zbD ?_|refine zbA ?_ _));exact BK106.out) hb)
                have n2_:=zm (below_step (by repeat (first|(with_reducible first|exact HB.out|apply zlA|apply zlN|apply zlD|refine zlS ?_ GE106.out)|exact HB.out)) hb)
                clear BK106 HB
                have HO110:=n0_
                have BK106:=n1_
                have HB:=n2_
                clear n0_ n1_ n2_ hb ho11
                refine hK.out _ _ trivial (fun hHeld=>?_)
                clear hK K
                refine norm_ (a':=?_) ?_ ?_
                rotate_left
                ·show Act.put _ (some 13) _=_
                 simp only [Act.put,List.setIfInBounds_toArray,List.set_cons_zero,List.set_cons_succ,i64_w,i32_w]
                 rfl
                exact norm_ (by first|(simp only [putAll,Act.put,List.setIfInBounds_toArray,List.set_cons_zero,List.set_cons_succ];done)|(simp only [putAll,Act.put,List.setIfInBounds_toArray,List.set_cons_zero,List.set_cons_succ];rfl)) (hJ0 (v109) _ ⟨(by (with_reducible repeat (first|apply zrA|apply zrN|apply zrD));exact HO110.out),(by (with_reducible repeat (first|refine zbN ?_ _|refine zbD ?_|refine zbA ?_ _));exact BK106.out),(by repeat (first|(with_reducible first|exact HB.out|apply zlA|apply zlN|apply zlD|refine zlS ?_ GE106.out)|exact HB.out))⟩)
               ·skip
                refine Kd.R_make_step (Kd.int .i64) _ 2 (by rfl) (N:=17) rfl 23 _ _ rfl a0 rfl rfl Try.underlying23 (.int .i64 0) 8 info2 rfl (by decide) (by omega) 0 (ok:=fun _=>True) (okp:=fun _=>True) rfl (fun _ hk=>hk) trivial (of_decide_eq_true (by first|(with_reducible assumption)|assumption)) (Nat.le_trans (Nat.mul_le_mul_right _ (of_decide_eq_true (by first|(with_reducible assumption)|assumption):a0.toNat≤35184372088832)) (by omega)) (Below.refl _ _) (Nat.le_refl _) ?_
                intro v115 w10 ho11 hb hg_ hnew_
                clear hg_ hnew_
                (first|rw [← Ny114.out] at ho11|(simp only [Int.reduceToNat] at ho11;rw [← Ny114.out] at ho11))
                have n0_:=zm (Kd.R_lower ho11 (below_size (by repeat (first|(with_reducible first|exact HB.out|apply zlA|apply zlN|apply zlD|refine zlS ?_ GE106.out)|exact HB.out))))
                have n1_:=zm (zbB (g:=gb106) (o:=.cells #[.slice none 0 0,.slice none 0 0] 25 (0,0)) (by (with_reducible repeat (first|refine zbN ?_ _|refine zbD ?_|refine zbA ?_ _));exact BK106.out) hb)
                have n2_:=zm (below_step (by repeat (first|(with_reducible first|exact HB.out|apply zlA|apply zlN|apply zlD|refine zlS ?_ GE106.out)|exact HB.out)) hb)
                clear BK106 HB
                have HO116:=n0_
                have BK106:=n1_
                have HB:=n2_
                clear n0_ n1_ n2_ hb ho11
                refine hK.out _ _ trivial (fun hHeld=>?_)
                clear hK K
                refine norm_ (a':=?_) ?_ ?_
                rotate_left
                ·show Act.put _ (some 17) _=_
                 simp only [Act.put,List.setIfInBounds_toArray,List.set_cons_zero,List.set_cons_succ,i64_w,i32_w]
                 rfl
                exact norm_ (by first|(simp only [putAll,Act.put,List.setIfInBounds_toArray,List.set_cons_zero,List.set_cons_succ];done)|(simp only [putAll,Act.put,List.setIfInBounds_toArray,List.set_cons_zero,List.set_cons_succ];rfl)) (hJ4 (v115) _ ⟨(by (with_reducible repeat (first|apply zrA|apply zrN|apply zrD));exact HO116.out),(by (with_reducible repeat (first|refine zbN ?_ _|refine zbD ?_|refine zbA ?_ _));exact BK106.out),(by repeat (first|(with_reducible first|exact HB.out|apply zlA|apply zlN|apply zlD|refine zlS ?_ GE106.out)|exact HB.out))⟩)
               ·skip
                refine box_step ?hg (N:=6) ?hd (cs:=#[.slice none 0 0,.slice none 0 0]) (t:=25) ?hr ?_;(case hd=>rfl);(case hg=>rfl);(case hr=>first|(go_simp;done)|(go_simp;rfl))
                intro gb117 hg w10 hbox hb
                have n0_:=zm (zbB (g:=gb106) (o:=.cells #[.slice none 0 0,.slice none 0 0] 25 (0,0)) (by (with_reducible repeat (first|refine zbN ?_ _|refine zbD ?_|refine zbA ?_ _));exact BK106.out) hb)
                have n1_:=zm (below_step (by repeat (first|(with_reducible first|exact HB.out|apply zlA|apply zlN|apply zlD|refine zlS ?_ GE106.out)|exact HB.out)) hb)
                have n2_:=zm (hbox)
                have n3_:=zm ((by rw [hg];exact (below_size (by repeat (first|(with_reducible first|exact HB.out|apply zlA|apply zlN|apply zlD|refine zlS ?_ GE106.out)|exact HB.out))):w.heap.size≤gb117))
                have n4_:=zm ((by rw [hg];exact (below_size (by repeat (first|(with_reducible first|exact HB.out|apply zlA|apply zlN|apply zlD|refine zlS ?_ GE106.out)|exact HB.out))):w.heap.size≤gb117))
                have n5_:=zm ((by rw [hg];exact Nat.ne_of_lt (blk_lt (g:=gb106) (o:=.cells #[.slice none 0 0,.slice none 0 0] 25 (0,0)) (by (with_reducible repeat (first|refine zbN ?_ _|refine zbD ?_|refine zbA ?_ _));exact BK106.out)):gb106≠gb117))
                have n6_:=zm ((by rw [hg];exact Nat.ne_of_gt (blk_lt (g:=gb106) (o:=.cells #[.slice none 0 0,.slice none 0 0] 25 (0,0)) (by (with_reducible repeat (first|refine zbN ?_ _|refine zbD ?_|refine zbA ?_ _));exact BK106.out)):gb117≠gb106))
                clear BK106 HB
                have BK106:=n0_
                have HB:=n1_
                have BK117:=n2_
                have GW117:=n3_
                have GE117:=n4_
                have NB106_117:=n5_
                have NB117_106:=n6_
                clear n0_ n1_ n2_ n3_ n4_ n5_ n6_ hb hbox hg
                refine hK.out _ _ trivial (fun hHeld=>?_)
                clear hK K
                refine norm_ (a':=?_) ?_ ?_
                rotate_left
                ·show Act.put _ (some 6) _=_
                 simp only [Act.put,List.setIfInBounds_toArray,List.set_cons_zero,List.set_cons_succ,i64_w,i32_w]
                 rfl
                exact norm_ (by first|(simp only [putAll,Act.put,List.setIfInBounds_toArray,List.set_cons_zero,List.set_cons_succ];done)|(simp only [putAll,Act.put,List.setIfInBounds_toArray,List.set_cons_zero,List.set_cons_succ];rfl)) (hJ6 (gb117) _ ⟨(by (with_reducible repeat (first|refine zbN ?_ _|refine zbD ?_|refine zbA ?_ _));exact BK106.out),(by (with_reducible repeat (first|refine zbN ?_ _|refine zbD ?_|refine zbA ?_ _));exact BK117.out),GW117.out,GE117.out,NB106_117.out,NB117_106.out,(by repeat (first|(with_reducible first|exact HB.out|apply zlA|apply zlN|apply zlD|refine zlS ?_ GE106.out|refine zlS ?_ GE117.out)|exact HB.out))⟩)
              ·skip
               rintro gb117 w11 ⟨h0_,h1_,h2_,h3_,h4_,h5_,h6_⟩
               have n0_:Aside0 (w11.heap[gb106]?=some (.cells #[.slice none 0 0,.slice none 0 0] 25 (0,0))):=⟨h0_⟩
               have n1_:Aside0 (w11.heap[gb117]?=some (.cells #[.slice none 0 0,.slice none 0 0] 25 (0,0))):=⟨h1_⟩
               have n2_:Aside0 (w.heap.size≤gb117):=⟨h2_⟩
               have n3_:Aside0 (w.heap.size≤gb117):=⟨h3_⟩
               have n4_:Aside0 (gb106≠gb117):=⟨h4_⟩
               have n5_:Aside0 (gb117≠gb106):=⟨h5_⟩
               have n6_:Aside0 (Below w.heap.size w w11):=⟨h6_⟩
               clear BK106 HB h0_ h1_ h2_ h3_ h4_ h5_ h6_
               have BK106:=n0_
               have BK117:=n1_
               have GW117:=n2_
               have GE117:=n3_
               have NB106_117:=n4_
               have NB117_106:=n5_
               have HB:=n6_
               clear n0_ n1_ n2_ n3_ n4_ n5_ n6_
               have hHeld:=trivial
               refine norm_ (a':=?_) ?_ ?_
               rotate_left
               ·simp only [putAll,Act.put,List.setIfInBounds_toArray,List.set_cons_zero,List.set_cons_succ]
                rfl
               refine two_ (i:=0) (j:=4) (Ni:=some 13) (Nj:=some 17) #[true,true,false,true,false,false,true,false] #[false,true,false,true,true,false,true,false] rfl rfl rfl rfl (two_of HT_.out (by kernel_rfl)) (by decide) (by decide) (fun K hK=>?_) (fun K hK=>?_)
               ·skip
                refine Kd.R_lit_step (Kd.int .i64) _ 3 ?hg (N:=13) ?hd (xs:=([1]:List Int)) (inner:=[.int .i64 1]) (ok:=fun _=>True) (okp:=fun _=>True) ?hr ?hp (fun _ hk=>hk) trivial (Below.refl _ _) (Nat.le_refl _) (by simp) ?_;(case hd=>rfl);(case hg=>rfl);(case hr=>first|(go_simp;done)|(go_simp;rfl));(case hp=>exact (Reps.one (show Kd.M (Kd.int .i64) _ _ _ 1 [.int .i64 1] from rfl) (Reps.none _ _)))
                intro v109 w12 ho13 hb hg_ hnew_
                clear hg_ hnew_
                (first|rw [← Ny108.out] at ho13|(simp only [Int.reduceToNat] at ho13;rw [← Ny108.out] at ho13))
                have n0_:=zm (Kd.R_lower ho13 (below_size (by repeat (first|(with_reducible first|exact HB.out|apply zlA|apply zlN|apply zlD|refine zlS ?_ GE106.out|refine zlS ?_ GE117.out)|exact HB.out))))
                have n1_:=zm (zbB (g:=gb106) (o:=.cells #[.slice none 0 0,.slice none 0 0] 25 (0,0)) (by (with_reducible repeat (first|refine zbN ?_ _|refine zbD ?_|refine zbA ?_ _));exact BK106.out) hb)
                have n2_:=zm (zbB (g:=gb117) (o:=.cells #[.slice none 0 0,.slice none 0 0] 25 (0,0)) (by (with_reducible repeat (first|refine zbN ?_ _|refine zbD ?_|refine zbA ?_ _));exact BK117.out) hb)
                have n3_:=zm (below_step (by repeat (first|(with_reducible first|exact HB.out|apply zlA|apply zlN|apply zlD|refine zlS ?_ GE106.out|refine zlS ?_ GE117.out)|exact HB.out)) hb)
                clear BK106 BK117 HB
                have HO110:=n0_
                have BK106:=n1_
                have BK117:=n2_
                have HB:=n3_
                clear n0_ n1_ n2_ n3_ hb ho13
                refine hK.out _ _ trivial (fun hHeld=>?_)
                clear hK K
                refine norm_ (a':=?_) ?_ ?_
                rotate_left
                ·show Act.put _ (some 13) _=_
                 simp only [Act.put,List.setIfInBounds_toArray,List.set_cons_zero,List.set_cons_succ,i64_w,i32_w]
                 rfl
                exact norm_ (by first|(simp only [putAll,Act.put,List.setIfInBounds_toArray,List.set_cons_zero,List.set_cons_succ];done)|(simp only [putAll,Act.put,List.setIfInBounds_toArray,List.set_cons_zero,List.set_cons_succ];rfl)) (hJ0_6 (v109,gb117) _ ⟨(by (with_reducible repeat (first|apply zrA|apply zrN|apply zrD));exact HO110.out),(by (with_reducible repeat (first|refine zbN ?_ _|refine zbD ?_|refine zbA ?_ _));exact BK106.out),(by (with_reducible repeat (first|refine zbN ?_ _|refine zbD ?_|refine zbA ?_ _));exact BK117.out),GW117.out,GE117.out,NB106_117.out,NB117_106.out,(by repeat (first|(with_reducible first|exact HB.out|apply zlA|apply zlN|apply zlD|refine zlS ?_ GE106.out|refine zlS ?_ GE117.out)|exact HB.out))⟩)
               ·skip
                refine Kd.R_make_step (Kd.int .i64) _ 2 (by rfl) (N:=17) rfl 23 _ _ rfl a0 rfl rfl Try.underlying23 (.int .i64 0) 8 info2 rfl (by decide) (by omega) 0 (ok:=fun _=>True) (okp:=fun _=>True) rfl (fun _ hk=>hk) trivial (of_decide_eq_true (by first|(with_reducible assumption)|assumption)) (Nat.le_trans (Nat.mul_le_mul_right _ (of_decide_eq_true (by first|(with_reducible assumption)|assumption):a0.toNat≤35184372088832)) (by omega)) (Below.refl _ _) (Nat.le_refl _) ?_
                intro v115 w12 ho13 hb hg_ hnew_
                clear hg_ hnew_
                (first|rw [← Ny114.out] at ho13|(simp only [Int.reduceToNat] at ho13;rw [← Ny114.out] at ho13))
                have n0_:=zm (Kd.R_lower ho13 (below_size (by repeat (first|(with_reducible first|exact HB.out|apply zlA|apply zlN|apply zlD|refine zlS ?_ GE106.out|refine zlS ?_ GE117.out)|exact HB.out))))
                have n1_:=zm (zbB (g:=gb106) (o:=.cells #[.slice none 0 0,.slice none 0 0] 25 (0,0)) (by (with_reducible repeat (first|refine zbN ?_ _|refine zbD ?_|refine zbA ?_ _));exact BK106.out) hb)
                have n2_:=zm (zbB (g:=gb117) (o:=.cells #[.slice none 0 0,.slice none 0 0] 25 (0,0)) (by (with_reducible repeat (first|refine zbN ?_ _|refine zbD ?_|refine zbA ?_ _));exact BK117.out) hb)
                have n3_:=zm (below_step (by repeat (first|(with_reducible first|exact HB.out|apply zlA|apply zlN|apply zlD|refine zlS ?_ GE106.out|refine zlS ?_ GE117.out)|exact HB.out)) hb)
                clear BK106 BK117 HB
                have HO116:=n0_
                have BK106:=n1_
                have BK117:=n2_
                have HB:=n3_
                clear n0_ n1_ n2_ n3_ hb ho13
                refine hK.out _ _ trivial (fun hHeld=>?_)
                clear hK K
                refine norm_ (a':=?_) ?_ ?_
                rotate_left
                ·show Act.put _ (some 17) _=_
                 simp only [Act.put,List.setIfInBounds_toArray,List.set_cons_zero,List.set_cons_succ,i64_w,i32_w]
                 rfl
                exact norm_ (by first|(simp only [putAll,Act.put,List.setIfInBounds_toArray,List.set_cons_zero,List.set_cons_succ];done)|(simp only [putAll,Act.put,List.setIfInBounds_toArray,List.set_cons_zero,List.set_cons_succ];rfl)) (hJ4_6 (v115,gb117) _ ⟨(by (with_reducible repeat (first|apply zrA|apply zrN|apply zrD));exact HO116.out),(by (with_reducible repeat (first|refine zbN ?_ _|refine zbD ?_|refine zbA ?_ _));exact BK106.out),(by (with_reducible repeat (first|refine zbN ?_ _|refine zbD ?_|refine zbA ?_ _));exact BK117.out),GW117.out,GE117.out,NB106_117.out,NB117_106.out,(by repeat (first|(with_reducible first|exact HB.out|apply zlA|apply zlN|apply zlD|refine zlS ?_ GE106.out|refine zlS ?_ GE117.out)|exact HB.out))⟩)
             ·skip
              rintro v115 w12 ⟨h0_,h1_,h2_⟩
              have n0_:Aside0 (Kd.R (Kd.int .i64) 2 w12 w.heap.size (fun _=>True) v115 y114):=⟨h0_⟩
              have n1_:Aside0 (w12.heap[gb106]?=some (.cells #[.slice none 0 0,.slice none 0 0] 25 (0,0))):=⟨h1_⟩
              have n2_:Aside0 (Below w.heap.size w w12):=⟨h2_⟩
              clear BK106 HB h0_ h1_ h2_
              have HO116:=n0_
              have BK106:=n1_
              have HB:=n2_
              clear n0_ n1_ n2_
              have hHeld:=trivial
              refine norm_ (a':=?_) ?_ ?_
              rotate_left
              ·simp only [putAll,Act.put,List.setIfInBounds_toArray,List.set_cons_zero,List.set_cons_succ]
               rfl
              refine two_ (i:=0) (j:=6) (Ni:=some 13) (Nj:=some 6) #[true,true,false,true,true,false,false,false] #[false,true,false,true,true,false,true,false] rfl rfl rfl rfl (two_of HT_.out (by kernel_rfl)) (by decide) (by decide) (fun K hK=>?_) (fun K hK=>?_)
              ·skip
               refine Kd.R_lit_step (Kd.int .i64) _ 3 ?hg (N:=13) ?hd (xs:=([1]:List Int)) (inner:=[.int .i64 1]) (ok:=fun _=>True) (okp:=fun _=>True) ?hr ?hp (fun _ hk=>hk) trivial (Below.refl _ _) (Nat.le_refl _) (by simp) ?_;(case hd=>rfl);(case hg=>rfl);(case hr=>first|(go_simp;done)|(go_simp;rfl));(case hp=>exact (Reps.one (show Kd.M (Kd.int .i64) _ _ _ 1 [.int .i64 1] from rfl) (Reps.none _ _)))
               intro v109 w13 ho14 hb hg_ hnew_
               clear hg_ hnew_
               (first|rw [← Ny108.out] at ho14|(simp only [Int.reduceToNat] at ho14;rw [← Ny108.out] at ho14))
               have n0_:=zm (Kd.R_below (by (with_reducible repeat (first|apply zrA|apply zrN|apply zrD));exact HO116.out) hb)
               have n1_:=zm (Kd.R_lower ho14 (below_size (by repeat (first|(with_reducible first|exact HB.out|apply zlA|apply zlN|apply zlD|refine zlS ?_ GE106.out)|exact HB.out))))
               have n2_:=zm (zbB (g:=gb106) (o:=.cells #[.slice none 0 0,.slice none 0 0] 25 (0,0)) (by (with_reducible repeat (first|refine zbN ?_ _|refine zbD ?_|refine zbA ?_ _));exact BK106.out) hb)
               have n3_:=zm (below_step (by repeat (first|(with_reducible first|exact HB.out|apply zlA|apply zlN|apply zlD|refine zlS ?_ GE106.out)|exact HB.out)) hb)
               clear HO116 BK106 HB
               have HO116:=n0_
               have HO110:=n1_
               have BK106:=n2_
               have HB:=n3_
               clear n0_ n1_ n2_ n3_ hb ho14
               refine hK.out _ _ trivial (fun hHeld=>?_)
               clear hK K
               refine norm_ (a':=?_) ?_ ?_
               rotate_left
               ·show Act.put _ (some 13) _=_
                simp only [Act.put,List.setIfInBounds_toArray,List.set_cons_zero,List.set_cons_succ,i64_w,i32_w]
                rfl
               exact norm_ (by first|(simp only [putAll,Act.put,List.setIfInBounds_toArray,List.set_cons_zero,List.set_cons_succ];done)|(simp only [putAll,Act.put,List.setIfInBounds_toArray,List.set_cons_zero,List.set_cons_succ];rfl)) (hJ0_4 (v109,v115) _ ⟨(by (with_reducible repeat (first|apply zrA|apply zrN|apply zrD));exact HO110.out),(by (with_reducible repeat (first|apply zrA|apply zrN|apply zrD));exact HO116.out),(by (with_reducible repeat (first|refine zbN ?_ _|refine zbD ?_|refine zbA ?_ _));exact BK106.out),(by repeat (first|(with_reducible first|exact HB.out|apply zlA|apply zlN|apply zlD|refine zlS ?_ GE106.out)|exact HB.out))⟩)
              ·skip
               refine box_step ?hg (N:=6) ?hd (cs:=#[.slice none 0 0,.slice none 0 0]) (t:=25) ?hr ?_;(case hd=>rfl);(case hg=>rfl);(case hr=>first|(go_simp;done)|(go_simp;rfl))
               intro gb117 hg w13 hbox hb
               have n0_:=zm (Kd.R_below (by (with_reducible repeat (first|apply zrA|apply zrN|apply zrD));exact HO116.out) hb)
               have n1_:=zm (zbB (g:=gb106) (o:=.cells #[.slice none 0 0,.slice none 0 0] 25 (0,0)) (by (with_reducible repeat (first|refine zbN ?_ _|refine zbD ?_|refine zbA ?_ _));exact BK106.out) hb)
               have n2_:=zm (below_step (by repeat (first|(with_reducible first|exact HB.out|apply zlA|apply zlN|apply zlD|refine zlS ?_ GE106.out)|exact HB.out)) hb)
               have n3_:=zm (hbox)
               have n4_:=zm ((by rw [hg];exact (below_size (by repeat (first|(with_reducible first|exact HB.out|apply zlA|apply zlN|apply zlD|refine zlS ?_ GE106.out)|exact HB.out))):w.heap.size≤gb117))
               have n5_:=zm ((by rw [hg];exact (below_size (by repeat (first|(with_reducible first|exact HB.out|apply zlA|apply zlN|apply zlD|refine zlS ?_ GE106.out)|exact HB.out))):w.heap.size≤gb117))
               have n6_:=zm ((by rw [hg];exact Nat.ne_of_lt (blk_lt (g:=gb106) (o:=.cells #[.slice none 0 0,.slice none 0 0] 25 (0,0)) (by (with_reducible repeat (first|refine zbN ?_ _|refine zbD ?_|refine zbA ?_ _));exact BK106.out)):gb106≠gb117))
               have n7_:=zm ((by rw [hg];exact Nat.ne_of_gt (blk_lt (g:=gb106) (o:=.cells #[.slice none 0 0,.slice none 0 0] 25 (0,0)) (by (with_reducible repeat (first|refine zbN ?_ _|refine zbD ?_|refine zbA ?_ _));exact BK106.out)):gb117≠gb106))
               clear HO116 BK106 HB
               have HO116:=n0_
               have BK106:=n1_
               have HB:=n2_
               have BK117:=n3_
               have GW117:=n4_
               have GE117:=n5_
               have NB106_117:=n6_
               have NB117_106:=n7_
               clear n0_ n1_ n2_ n3_ n4_ n5_ n6_ n7_ hb hbox hg
               refine hK.out _ _ trivial (fun hHeld=>?_)
               clear hK K
               refine norm_ (a':=?_) ?_ ?_
               rotate_left
               ·show Act.put _ (some 6) _=_
                simp only [Act.put,List.setIfInBounds_toArray,List.set_cons_zero,List.set_cons_succ,i64_w,i32_w]
                rfl
               exact norm_ (by first|(simp only [putAll,Act.put,List.setIfInBounds_toArray,List.set_cons_zero,List.set_cons_succ];done)|(simp only [putAll,Act.put,List.setIfInBounds_toArray,List.set_cons_zero,List.set_cons_succ];rfl)) (hJ4_6 (v115,gb117) _ ⟨(by (with_reducible repeat (first|apply zrA|apply zrN|apply zrD));exact HO116.out),(by (with_reducible repeat (first|refine zbN ?_ _|refine zbD ?_|refine zbA ?_ _));exact BK106.out),(by (with_reducible repeat (first|refine zbN ?_ _|refine zbD ?_|refine zbA ?_ _));exact BK117.out),GW117.out,GE117.out,NB106_117.out,NB117_106.out,(by repeat (first|(with_reducible first|exact HB.out|apply zlA|apply zlN|apply zlD|refine zlS ?_ GE106.out|refine zlS ?_ GE117.out)|exact HB.out))⟩)
            ·skip
             rintro v109 w12 ⟨h0_,h1_,h2_⟩
             have n0_:Aside0 (Kd.R (Kd.int .i64) 3 w12 w.heap.size (fun _=>True) v109 y108):=⟨h0_⟩
             have n1_:Aside0 (w12.heap[gb106]?=some (.cells #[.slice none 0 0,.slice none 0 0] 25 (0,0))):=⟨h1_⟩
             have n2_:Aside0 (Below w.heap.size w w12):=⟨h2_⟩
             clear BK106 HB h0_ h1_ h2_
             have HO110:=n0_
             have BK106:=n1_
             have HB:=n2_
             clear n0_ n1_ n2_
             have hHeld:=trivial
             obtain ⟨Ao13,co13,eo13⟩:=Kd.R_slice HO110.out
             (first|subst eo13|(injection eo13 with f1_ f2_ f3_;have f4_:=f1_.symm;have f5_:=f3_.symm;clear f1_ f2_ f3_;subst f4_;subst f5_))
             refine norm_ (a':=?_) ?_ ?_
             rotate_left
             ·simp only [putAll,Act.put,List.setIfInBounds_toArray,List.set_cons_zero,List.set_cons_succ]
              rfl
             refine three_ (i:=2) (j:=4) (k:=6) (Ni:=some 15) (Nj:=some 17) (Nk:=some 6) #[true,true,true,true,false,false,false,false] #[true,true,false,true,true,false,false,false] #[true,true,false,true,false,false,true,false] rfl rfl rfl rfl rfl rfl (three_of HT_.out (by kernel_rfl)) (by decide) (by decide) (by decide) (fun K hK=>?_) (fun K hK=>?_) (fun K hK=>?_)
             ·skip
              refine goes_ Try.func36 (by kernel_rfl) rfl #[.slice Ao13 y108.length co13,.int .i64 a0] (by rfl) rfl rfl (by (try simp only [List.map_toArray,List.map_cons,List.map_nil]);first|done|rfl|(simp only [List.length_drop,List.length_take];rfl)) ?_
              with_reducible refine (slices_Repeat_int_int.calls _ _ y108 a0 t111 _ ?side1 ?side2 A5.out).mono ?_
              (case side1=>repeat (first|exact (Kd.R_reads' HO110.out).2.2|(with_reducible refine Kd.C_alloc ?_ _)|(with_reducible refine Kd.C_drewN ?_ _)|(with_reducible refine Kd.C_drew ?_)))
              (case side2=>exact (Kd.R_reads' HO110.out).2.1)
              rintro e w14 ⟨v112,rfl,ho0,hb⟩
              refine ⟨_,rfl,?_⟩
              have n0_:=zm (Kd.R_elder' (by (with_reducible repeat (first|apply zrA|apply zrN|apply zrD));exact HO110.out) (Kd.R_base ho0) hb)
              have n1_:=zm (Kd.R_lower (Kd.R_new' ho0 (Kd.R_lt (by (with_reducible repeat (first|apply zrA|apply zrN|apply zrD));exact HO110.out))) (below_size (by repeat (first|(with_reducible first|exact HB.out|apply zlA|apply zlN|apply zlD|refine zlS ?_ GE106.out)|exact HB.out))))
              have n2_:=zm (zbB (g:=gb106) (o:=.cells #[.slice none 0 0,.slice none 0 0] 25 (0,0)) (by (with_reducible repeat (first|refine zbN ?_ _|refine zbD ?_|refine zbA ?_ _));exact BK106.out) hb)
              have n3_:=zm (below_step (by repeat (first|(with_reducible first|exact HB.out|apply zlA|apply zlN|apply zlD|refine zlS ?_ GE106.out)|exact HB.out)) hb)
              clear HO110 BK106 HB
              have HO110:=n0_
              have HO113:=n1_
              have BK106:=n2_
              have HB:=n3_
              clear n0_ n1_ n2_ n3_
              (try clear hb)
              (try clear hb2)
              (try clear hk)
              (try clear hi)
              (try clear ho0)
              refine hK.out _ _ trivial (fun hHeld=>?_)
              clear hK K
              refine norm_ (a':=?_) ?_ ?_
              rotate_left
              ·show Act.put _ (some 15) _=_
               simp only [Act.put,List.setIfInBounds_toArray,List.set_cons_zero,List.set_cons_succ,i64_w,i32_w]
               rfl
              exact norm_ (by first|(simp only [putAll,Act.put,List.setIfInBounds_toArray,List.set_cons_zero,List.set_cons_succ];done)|(simp only [putAll,Act.put,List.setIfInBounds_toArray,List.set_cons_zero,List.set_cons_succ];rfl)) (hJ0_2 (.slice Ao13 y108.length co13,v112) _ ⟨(by (with_reducible repeat (first|apply zrA|apply zrN|apply zrD));exact Kd.R_mono HO110.out (fun _ hk=>hk.2)),(by (with_reducible repeat (first|apply zrA|apply zrN|apply zrD));exact Kd.R_mono HO113.out (fun _ hk=>hk.2)),(by (with_reducible repeat (first|refine zbN ?_ _|refine zbD ?_|refine zbA ?_ _));exact BK106.out),(by repeat (first|(with_reducible first|exact HB.out|apply zlA|apply zlN|apply zlD|refine zlS ?_ GE106.out)|exact HB.out))⟩)
             ·skip
              refine Kd.R_make_step (Kd.int .i64) _ 2 (by rfl) (N:=17) rfl 23 _ _ rfl a0 rfl rfl Try.underlying23 (.int .i64 0) 8 info2 rfl (by decide) (by omega) 0 (ok:=fun _=>True) (okp:=fun _=>True) rfl (fun _ hk=>hk) trivial (of_decide_eq_true (by first|(with_reducible assumption)|assumption)) (Nat.le_trans (Nat.mul_le_mul_right _ (of_decide_eq_true (by first|(with_reducible assumption)|assumption):a0.toNat≤35184372088832)) (by omega)) (Below.refl _ _) (Nat.le_refl _) ?_
              intro v115 w13 ho14 hb hg_ hnew_
              clear hg_ hnew_
              (first|rw [← Ny114.out] at ho14|(simp only [Int.reduceToNat] at ho14;rw [← Ny114.out] at ho14))
              have n0_:=zm (Kd.R_below (by (with_reducible repeat (first|apply zrA|apply zrN|apply zrD));exact HO110.out) hb)
              have n1_:=zm (Kd.R_lower ho14 (below_size (by repeat (first|(with_reducible first|exact HB.out|apply zlA|apply zlN|apply zlD|refine zlS ?_ GE106.out)|exact HB.out))))
              have n2_:=zm (zbB (g:=gb106) (o:=.cells #[.slice none 0 0,.slice none 0 0] 25 (0,0)) (by (with_reducible repeat (first|refine zbN ?_ _|refine zbD ?_|refine zbA ?_ _));exact BK106.out) hb)
              have n3_:=zm (below_step (by repeat (first|(with_reducible first|exact HB.out|apply zlA|apply zlN|apply zlD|refine zlS ?_ GE106.out)|exact HB.out)) hb)
              clear HO110 BK106 HB
              have HO110:=n0_
              have HO116:=n1_
              have BK106:=n2_
              have HB:=n3_
              clear n0_ n1_ n2_ n3_ hb ho14
              refine hK.out _ _ trivial (fun hHeld=>?_)
              clear hK K
              refine norm_ (a':=?_) ?_ ?_
              rotate_left
              ·show Act.put _ (some 17) _=_
               simp only [Act.put,List.setIfInBounds_toArray,List.set_cons_zero,List.set_cons_succ,i64_w,i32_w]
               rfl
              exact norm_ (by first|(simp only [putAll,Act.put,List.setIfInBounds_toArray,List.set_cons_zero,List.set_cons_succ];done)|(simp only [putAll,Act.put,List.setIfInBounds_toArray,List.set_cons_zero,List.set_cons_succ];rfl)) (hJ0_4 ((.slice Ao13 y108.length co13),v115) _ ⟨(by (with_reducible repeat (first|apply zrA|apply zrN|apply zrD));exact HO110.out),(by (with_reducible repeat (first|apply zrA|apply zrN|apply zrD));exact HO116.out),(by (with_reducible repeat (first|refine zbN ?_ _|refine zbD ?_|refine zbA ?_ _));exact BK106.out),(by repeat (first|(with_reducible first|exact HB.out|apply zlA|apply zlN|apply zlD|refine zlS ?_ GE106.out)|exact HB.out))⟩)
             ·skip
              refine box_step ?hg (N:=6) ?hd (cs:=#[.slice none 0 0,.slice none 0 0]) (t:=25) ?hr ?_;(case hd=>rfl);(case hg=>rfl);(case hr=>first|(go_simp;done)|(go_simp;rfl))
              intro gb117 hg w13 hbox hb
              have n0_:=zm (Kd.R_below (by (with_reducible repeat (first|apply zrA|apply zrN|apply zrD));exact HO110.out) hb)
              have n1_:=zm (zbB (g:=gb106) (o:=.cells #[.slice none 0 0,.slice none 0 0] 25 (0,0)) (by (with_reducible repeat (first|refine zbN ?_ _|refine zbD ?_|refine zbA ?_ _));exact BK106.out) hb)
              have n2_:=zm (below_step (by repeat (first|(with_reducible first|exact HB.out|apply zlA|apply zlN|apply zlD|refine zlS ?_ GE106.out)|exact HB.out)) hb)
              have n3_:=zm (hbox)
              have n4_:=zm ((by rw [hg];exact (below_size (by repeat (first|(with_reducible first|exact HB.out|apply zlA|apply zlN|apply zlD|refine zlS ?_ GE106.out)|exact HB.out))):w.heap.size≤gb117))
              have n5_:=zm ((by rw [hg];exact (below_size (by repeat (first|(with_reducible first|exact HB.out|apply zlA|apply zlN|apply zlD|refine zlS ?_ GE106.out)|exact HB.out))):w.heap.size≤gb117))
              have n6_:=zm ((by rw [hg];exact Nat.ne_of_lt (blk_lt (g:=gb106) (o:=.cells #[.slice none 0 0,.slice none 0 0] 25 (0,0)) (by (with_reducible repeat (first|refine zbN ?_ _|refine zbD ?_|refine zbA ?_ _));exact BK106.out)):gb106≠gb117))
              have n7_:=zm ((by rw [hg];exact Nat.ne_of_gt (blk_lt (g:=gb106) (o:=.cells #[.slice none 0 0,.slice none 0 0] 25 (0,0)) (by (with_reducible repeat (first|refine zbN ?_ _|refine zbD ?_|refine zbA ?_ _));exact BK106.out)):gb117≠gb106))
              clear HO110 BK106 HB
              have HO110:=n0_
              have BK106:=n1_
              have HB:=n2_
              have BK117:=n3_
              have GW117:=n4_
              have GE117:=n5_
              have NB106_117:=n6_
              have NB117_106:=n7_
              clear n0_ n1_ n2_ n3_ n4_ n5_ n6_ n7_ hb hbox hg
              refine hK.out _ _ trivial (fun hHeld=>?_)
              clear hK K
              refine norm_ (a':=?_) ?_ ?_
              rotate_left
              ·show Act.put _ (some 6) _=_
               simp only [Act.put,List.setIfInBounds_toArray,List.set_cons_zero,List.set_cons_succ,i64_w,i32_w]
               rfl
              exact norm_ (by first|(simp only [putAll,Act.put,List.setIfInBounds_toArray,List.set_cons_zero,List.set_cons_succ];done)|(simp only [putAll,Act.put,List.setIfInBounds_toArray,List.set_cons_zero,List.set_cons_succ];rfl)) (hJ0_6 ((.slice Ao13 y108.length co13),gb117) _ ⟨(by (with_reducible repeat (first|apply zrA|apply zrN|apply zrD));exact HO110.out),(by (with_reducible repeat (first|refine zbN ?_ _|refine zbD ?_|refine zbA ?_ _));exact BK106.out),(by (with_reducible repeat (first|refine zbN ?_ _|refine zbD ?_|refine zbA ?_ _));exact BK117.out),GW117.out,GE117.out,NB106_117.out,NB117_106.out,(by repeat (first|(with_reducible first|exact HB.out|apply zlA|apply zlN|apply zlD|refine zlS ?_ GE106.out|refine zlS ?_ GE117.out)|exact HB.out))⟩)
           ·skip
            rintro ⟨v115,gb117⟩ w13 ⟨h0_,h1_,h2_,h3_,h4_,h5_,h6_,h7_⟩
            have n0_:Aside0 (Kd.R (Kd.int .i64) 2 w13 w.heap.size (fun _=>True) v115 y114):=⟨h0_⟩
            have n1_:Aside0 (w13.heap[gb106]?=some (.cells #[.slice none 0 0,.slice none 0 0] 25 (0,0))):=⟨h1_⟩
            have n2_:Aside0 (w13.heap[gb117]?=some (.cells #[.slice none 0 0,.slice none 0 0] 25 (0,0))):=⟨h2_⟩
            have n3_:Aside0 (w.heap.size≤gb117):=⟨h3_⟩
            have n4_:Aside0 (w.heap.size≤gb117):=⟨h4_⟩
            have n5_:Aside0 (gb106≠gb117):=⟨h5_⟩
            have n6_:Aside0 (gb117≠gb106):=⟨h6_⟩
            have n7_:Aside0 (Below w.heap.size w w13):=⟨h7_⟩
            clear BK106 HB h0_ h1_ h2_ h3_ h4_ h5_ h6_ h7_
            have HO116:=n0_
            have BK106:=n1_
            have BK117:=n2_
            have GW117:=n3_
            have GE117:=n4_
            have NB106_117:=n5_
            have NB117_106:=n6_
            have HB:=n7_
            clear n0_ n1_ n2_ n3_ n4_ n5_ n6_ n7_
            have hHeld:=trivial
            refine norm_ (a':=?_) ?_ ?_
            rotate_left
            ·simp only [putAll,Act.put,List.setIfInBounds_toArray,List.set_cons_zero,List.set_cons_succ]
             rfl
            refine one_ (i:=0) (N:=some 13) #[true,true,false,true,true,false,true,false] rfl rfl (one_of HT_.out (by kernel_rfl)) (by decide) (fun K hK=>?_)
            refine Kd.R_lit_step (Kd.int .i64) _ 3 ?hg (N:=13) ?hd (xs:=([1]:List Int)) (inner:=[.int .i64 1]) (ok:=fun _=>True) (okp:=fun _=>True) ?hr ?hp (fun _ hk=>hk) trivial (Below.refl _ _) (Nat.le_refl _) (by simp) ?_;(case hd=>rfl);(case hg=>rfl);(case hr=>first|(go_simp;done)|(go_simp;rfl));(case hp=>exact (Reps.one (show Kd.M (Kd.int .i64) _ _ _ 1 [.int .i64 1] from rfl) (Reps.none _ _)))
            intro v109 w14 ho15 hb hg_ hnew_
            clear hg_ hnew_
            (first|rw [← Ny108.out] at ho15|(simp only [Int.reduceToNat] at ho15;rw [← Ny108.out] at ho15))
            have n0_:=zm (Kd.R_below (by (with_reducible repeat (first|apply zrA|apply zrN|apply zrD));exact HO116.out) hb)
            have n1_:=zm (Kd.R_lower ho15 (below_size (by repeat (first|(with_reducible first|exact HB.out|apply zlA|apply zlN|apply zlD|refine zlS ?_ GE106.out|refine zlS ?_ GE117.out)|exact HB.out))))
            have n2_:=zm (zbB (g:=gb106) (o:=.cells #[.slice none 0 0,.slice none 0 0] 25 (0,0)) (by (with_reducible repeat (first|refine zbN ?_ _|refine zbD ?_|refine zbA ?_ _));exact BK106.out) hb)
            have n3_:=zm (zbB (g:=gb117) (o:=.cells #[.slice none 0 0,.slice none 0 0] 25 (0,0)) (by (with_reducible repeat (first|refine zbN ?_ _|refine zbD ?_|refine zbA ?_ _));exact BK117.out) hb)
            have n4_:=zm (below_step (by repeat (first|(with_reducible first|exact HB.out|apply zlA|apply zlN|apply zlD|refine zlS ?_ GE106.out|refine zlS ?_ GE117.out)|exact HB.out)) hb)
            clear HO116 BK106 BK117 HB
            have HO116:=n0_
            have HO110:=n1_
            have BK106:=n2_
            have BK117:=n3_
            have HB:=n4_
            clear n0_ n1_ n2_ n3_ n4_ hb ho15
            refine hK.out _ _ trivial (fun hHeld=>?_)
            clear hK K
            refine norm_ (a':=?_) ?_ ?_
            rotate_left
            ·show Act.put _ (some 13) _=_
             simp only [Act.put,List.setIfInBounds_toArray,List.set_cons_zero,List.set_cons_succ,i64_w,i32_w]
             rfl
            exact norm_ (by first|(simp only [putAll,Act.put,List.setIfInBounds_toArray,List.set_cons_zero,List.set_cons_succ];done)|(simp only [putAll,Act.put,List.setIfInBounds_toArray,List.set_cons_zero,List.set_cons_succ];rfl)) (hJ0_4_6 (v109,v115,gb117) _ ⟨(by (with_reducible repeat (first|apply zrA|apply zrN|apply zrD));exact HO110.out),(by (with_reducible repeat (first|apply zrA|apply zrN|apply zrD));exact HO116.out),(by (with_reducible repeat (first|refine zbN ?_ _|refine zbD ?_|refine zbA ?_ _));exact BK106.out),(by (with_reducible repeat (first|refine zbN ?_ _|refine zbD ?_|refine zbA ?_ _));exact BK117.out),GW117.out,GE117.out,NB106_117.out,NB117_106.out,(by repeat (first|(with_reducible first|exact HB.out|apply zlA|apply zlN|apply zlD|refine zlS ?_ GE106.out|refine zlS ?_ GE117.out)|exact HB.out))⟩)
          ·skip
           rintro ⟨v109,gb117⟩ w13 ⟨h0_,h1_,h2_,h3_,h4_,h5_,h6_,h7_⟩
           have n0_:Aside0 (Kd.R (Kd.int .i64) 3 w13 w.heap.size (fun _=>True) v109 y108):=⟨h0_⟩
           have n1_:Aside0 (w13.heap[gb106]?=some (.cells #[.slice none 0 0,.slice none 0 0] 25 (0,0))):=⟨h1_⟩
           have n2_:Aside0 (w13.heap[gb117]?=some (.cells #[.slice none 0 0,.slice none 0 0] 25 (0,0))):=⟨h2_⟩
           have n3_:Aside0 (w.heap.size≤gb117):=⟨h3_⟩
           have n4_:Aside0 (w.heap.size≤gb117):=⟨h4_⟩
           have n5_:Aside0 (gb106≠gb117):=⟨h5_⟩
           have n6_:Aside0 (gb117≠gb106):=⟨h6_⟩
           have n7_:Aside0 (Below w.heap.size w w13):=⟨h7_⟩
           clear BK106 HB h0_ h1_ h2_ h3_ h4_ h5_ h6_ h7_
           have HO110:=n0_
           have BK106:=n1_
           have BK117:=n2_
           have GW117:=n3_
           have GE117:=n4_
           have NB106_117:=n5_
           have NB117_106:=n6_
           have HB:=n7_
           clear n0_ n1_ n2_ n3_ n4_ n5_ n6_ n7_
           have hHeld:=trivial
           obtain ⟨Ao14,co14,eo14⟩:=Kd.R_slice HO110.out
           (first|subst eo14|(injection eo14 with f1_ f2_ f3_;have f4_:=f1_.symm;have f5_:=f3_.symm;clear f1_ f2_ f3_;subst f4_;subst f5_))
           refine norm_ (a':=?_) ?_ ?_
           rotate_left
           ·simp only [putAll,Act.put,List.setIfInBounds_toArray,List.set_cons_zero,List.set_cons_succ]
            rfl
           refine two_ (i:=2) (j:=4) (Ni:=some 15) (Nj:=some 17) #[true,true,true,true,false,false,true,false] #[true,true,false,true,true,false,true,false] rfl rfl rfl rfl (two_of HT_.out (by kernel_rfl)) (by decide) (by decide) (fun K hK=>?_) (fun K hK=>?_)
           ·skip
            refine goes_ Try.func36 (by kernel_rfl) rfl #[.slice Ao14 y108.length co14,.int .i64 a0] (by rfl) rfl rfl (by (try simp only [List.map_toArray,List.map_cons,List.map_nil]);first|done|rfl|(simp only [List.length_drop,List.length_take];rfl)) ?_
            with_reducible refine (slices_Repeat_int_int.calls _ _ y108 a0 t111 _ ?side1 ?side2 A5.out).mono ?_
            (case side1=>repeat (first|exact (Kd.R_reads' HO110.out).2.2|(with_reducible refine Kd.C_alloc ?_ _)|(with_reducible refine Kd.C_drewN ?_ _)|(with_reducible refine Kd.C_drew ?_)))
            (case side2=>exact (Kd.R_reads' HO110.out).2.1)
            rintro e w15 ⟨v112,rfl,ho0,hb⟩
            refine ⟨_,rfl,?_⟩
            have n0_:=zm (Kd.R_elder' (by (with_reducible repeat (first|apply zrA|apply zrN|apply zrD));exact HO110.out) (Kd.R_base ho0) hb)
            have n1_:=zm (Kd.R_lower (Kd.R_new' ho0 (Kd.R_lt (by (with_reducible repeat (first|apply zrA|apply zrN|apply zrD));exact HO110.out))) (below_size (by repeat (first|(with_reducible first|exact HB.out|apply zlA|apply zlN|apply zlD|refine zlS ?_ GE106.out|refine zlS ?_ GE117.out)|exact HB.out))))
            have n2_:=zm (zbB (g:=gb106) (o:=.cells #[.slice none 0 0,.slice none 0 0] 25 (0,0)) (by (with_reducible repeat (first|refine zbN ?_ _|refine zbD ?_|refine zbA ?_ _));exact BK106.out) hb)
            have n3_:=zm (zbB (g:=gb117) (o:=.cells #[.slice none 0 0,.slice none 0 0] 25 (0,0)) (by (with_reducible repeat (first|refine zbN ?_ _|refine zbD ?_|refine zbA ?_ _));exact BK117.out) hb)
            have n4_:=zm (below_step (by repeat (first|(with_reducible first|exact HB.out|apply zlA|apply zlN|apply zlD|refine zlS ?_ GE106.out|refine zlS ?_ GE117.out)|exact HB.out)) hb)
            clear HO110 BK106 BK117 HB
            have HO110:=n0_
            have HO113:=n1_
            have BK106:=n2_
            have BK117:=n3_
            have HB:=n4_
            clear n0_ n1_ n2_ n3_ n4_
            (try clear hb)
            (try clear hb2)
            (try clear hk)
            (try clear hi)
            (try clear ho0)
            refine hK.out _ _ trivial (fun hHeld=>?_)
            clear hK K
            refine norm_ (a':=?_) ?_ ?_
            rotate_left
            ·show Act.put _ (some 15) _=_
             simp only [Act.put,List.setIfInBounds_toArray,List.set_cons_zero,List.set_cons_succ,i64_w,i32_w]
             rfl
            exact norm_ (by first|(simp only [putAll,Act.put,List.setIfInBounds_toArray,List.set_cons_zero,List.set_cons_succ];done)|(simp only [putAll,Act.put,List.setIfInBounds_toArray,List.set_cons_zero,List.set_cons_succ];rfl)) (hJ0_2_6 (.slice Ao14 y108.length co14,v112,gb117) _ ⟨(by (with_reducible repeat (first|apply zrA|apply zrN|apply zrD));exact Kd.R_mono HO110.out (fun _ hk=>hk.2)),(by (with_reducible repeat (first|apply zrA|apply zrN|apply zrD));exact Kd.R_mono HO113.out (fun _ hk=>hk.2)),(by (with_reducible repeat (first|refine zbN ?_ _|refine zbD ?_|refine zbA ?_ _));exact BK106.out),(by (with_reducible repeat (first|refine zbN ?_ _|refine zbD ?_|refine zbA ?_ _));exact BK117.out),GW117.out,GE117.out,NB106_117.out,NB117_106.out,(by repeat (first|(with_reducible first|exact HB.out|apply zlA|apply zlN|apply zlD|refine zlS ?_ GE106.out|refine zlS ?_ GE117.out)|exact HB.out))⟩)
           ·skip
            refine Kd.R_make_step (Kd.int .i64) _ 2 (by rfl) (N:=17) rfl 23 _ _ rfl a0 rfl rfl Try.underlying23 (.int .i64 0) 8 info2 rfl (by decide) (by omega) 0 (ok:=fun _=>True) (okp:=fun _=>True) rfl (fun _ hk=>hk) trivial (of_decide_eq_true (by first|(with_reducible assumption)|assumption)) (Nat.le_trans (Nat.mul_le_mul_right _ (of_decide_eq_true (by first|(with_reducible assumption)|assumption):a0.toNat≤35184372088832)) (by omega)) (Below.refl _ _) (Nat.le_refl _) ?_
            intro v115 w14 ho15 hb hg_ hnew_
            clear hg_ hnew_
            (first|rw [← Ny114.out] at ho15|(simp only [Int.reduceToNat] at ho15;rw [← Ny114.out] at ho15))
            have n0_:=zm (Kd.R_below (by (with_reducible repeat (first|apply zrA|apply zrN|apply zrD));exact HO110.out) hb)
            have n1_:=zm (Kd.R_lower ho15 (below_size (by repeat (first|(with_reducible first|exact HB.out|apply zlA|apply zlN|apply zlD|refine zlS ?_ GE106.out|refine zlS ?_ GE117.out)|exact HB.out))))
            have n2_:=zm (zbB (g:=gb106) (o:=.cells #[.slice none 0 0,.slice none 0 0] 25 (0,0)) (by (with_reducible repeat (first|refine zbN ?_ _|refine zbD ?_|refine zbA ?_ _));exact BK106.out) hb)
            have n3_:=zm (zbB (g:=gb117) (o:=.cells #[.slice none 0 0,.slice none 0 0] 25 (0,0)) (by (with_reducible repeat (first|refine zbN ?_ _|refine zbD ?_|refine zbA ?_ _));exact BK117.out) hb)
            have n4_:=zm (below_step (by repeat (first|(with_reducible first|exact HB.out|apply zlA|apply zlN|apply zlD|refine zlS ?_ GE106.out|refine zlS ?_ GE117.out)|exact HB.out)) hb)
            clear HO110 BK106 BK117 HB
            have HO110:=n0_
            have HO116:=n1_
            have BK106:=n2_
            have BK117:=n3_
            have HB:=n4_
            clear n0_ n1_ n2_ n3_ n4_ hb ho15
            refine hK.out _ _ trivial (fun hHeld=>?_)
            clear hK K
            refine norm_ (a':=?_) ?_ ?_
            rotate_left
            ·show Act.put _ (some 17) _=_
             simp only [Act.put,List.setIfInBounds_toArray,List.set_cons_zero,List.set_cons_succ,i64_w,i32_w]
             rfl
            exact norm_ (by first|(simp only [putAll,Act.put,List.setIfInBounds_toArray,List.set_cons_zero,List.set_cons_succ];done)|(simp only [putAll,Act.put,List.setIfInBounds_toArray,List.set_cons_zero,List.set_cons_succ];rfl)) (hJ0_4_6 ((.slice Ao14 y108.length co14),v115,gb117) _ ⟨(by (with_reducible repeat (first|apply zrA|apply zrN|apply zrD));exact HO110.out),(by (with_reducible repeat (first|apply zrA|apply zrN|apply zrD));exact HO116.out),(by (with_reducible repeat (first|refine zbN ?_ _|refine zbD ?_|refine zbA ?_ _));exact BK106.out),(by (with_reducible repeat (first|refine zbN ?_ _|refine zbD ?_|refine zbA ?_ _));exact BK117.out),GW117.out,GE117.out,NB106_117.out,NB117_106.out,(by repeat (first|(with_reducible first|exact HB.out|apply zlA|apply zlN|apply zlD|refine zlS ?_ GE106.out|refine zlS ?_ GE117.out)|exact HB.out))⟩)
         ·skip
          rintro ⟨v109,v115⟩ w14 ⟨h0_,h1_,h2_,h3_⟩
          have n0_:Aside0 (Kd.R (Kd.int .i64) 3 w14 w.heap.size (fun _=>True) v109 y108):=⟨h0_⟩
          have n1_:Aside0 (Kd.R (Kd.int .i64) 2 w14 w.heap.size (fun _=>True) v115 y114):=⟨h1_⟩
          have n2_:Aside0 (w14.heap[gb106]?=some (.cells #[.slice none 0 0,.slice none 0 0] 25 (0,0))):=⟨h2_⟩
          have n3_:Aside0 (Below w.heap.size w w14):=⟨h3_⟩
          clear BK106 HB h0_ h1_ h2_ h3_
          have HO110:=n0_
          have HO116:=n1_
          have BK106:=n2_
          have HB:=n3_
          clear n0_ n1_ n2_ n3_
          have hHeld:=trivial
          obtain ⟨Ao15,co15,eo15⟩:=Kd.R_slice HO110.out
          (first|subst eo15|(injection eo15 with f1_ f2_ f3_;have f4_:=f1_.symm;have f5_:=f3_.symm;clear f1_ f2_ f3_;subst f4_;subst f5_))
          refine norm_ (a':=?_) ?_ ?_
          rotate_left
          ·simp only [putAll,Act.put,List.setIfInBounds_toArray,List.set_cons_zero,List.set_cons_succ]
           rfl
          refine two_ (i:=2) (j:=6) (Ni:=some 15) (Nj:=some 6) #[true,true,true,true,true,false,false,false] #[true,true,false,true,true,false,true,false] rfl rfl rfl rfl (two_of HT_.out (by kernel_rfl)) (by decide) (by decide) (fun K hK=>?_) (fun K hK=>?_)
          ·skip
           refine goes_ Try.func36 (by kernel_rfl) rfl #[.slice Ao15 y108.length co15,.int .i64 a0] (by rfl) rfl rfl (by (try simp only [List.map_toArray,List.map_cons,List.map_nil]);first|done|rfl|(simp only [List.length_drop,List.length_take];rfl)) ?_
           with_reducible refine (slices_Repeat_int_int.calls _ _ y108 a0 t111 _ ?side1 ?side2 A5.out).mono ?_
           (case side1=>repeat (first|exact (Kd.R_reads' HO110.out).2.2|(with_reducible refine Kd.C_alloc ?_ _)|(with_reducible refine Kd.C_drewN ?_ _)|(with_reducible refine Kd.C_drew ?_)))
           (case side2=>exact (Kd.R_reads' HO110.out).2.1)
           rintro e w16 ⟨v112,rfl,ho0,hb⟩
           refine ⟨_,rfl,?_⟩
           have n0_:=zm (Kd.R_elder' (by (with_reducible repeat (first|apply zrA|apply zrN|apply zrD));exact HO110.out) (Kd.R_base ho0) hb)
           have n1_:=zm (Kd.R_below (by (with_reducible repeat (first|apply zrA|apply zrN|apply zrD));exact HO116.out) hb)
           have n2_:=zm (Kd.R_lower (Kd.R_new' ho0 (Kd.R_lt (by (with_reducible repeat (first|apply zrA|apply zrN|apply zrD));exact HO110.out))) (below_size (by repeat (first|(with_reducible first|exact HB.out|apply zlA|apply zlN|apply zlD|refine zlS ?_ GE106.out)|exact HB.out))))
           have n3_:=zm (zbB (g:=gb106) (o:=.cells #[.slice none 0 0,.slice none 0 0] 25 (0,0)) (by (with_reducible repeat (first|refine zbN ?_ _|refine zbD ?_|refine zbA ?_ _));exact BK106.out) hb)
           have n4_:=zm (below_step (by repeat (first|(with_reducible first|exact HB.out|apply zlA|apply zlN|apply zlD|refine zlS ?_ GE106.out)|exact HB.out)) hb)
           clear HO110 HO116 BK106 HB
           have HO110:=n0_
           have HO116:=n1_
           have HO113:=n2_
           have BK106:=n3_
           have HB:=n4_
           clear n0_ n1_ n2_ n3_ n4_
           (try clear hb)
           (try clear hb2)
           (try clear hk)
           (try clear hi)
           (try clear ho0)
           obtain ⟨Ao17,co17,eo17⟩:=Kd.R_slice HO116.out
           (first|subst eo17|(injection eo17 with f1_ f2_ f3_;have f4_:=f1_.symm;have f5_:=f3_.symm;clear f1_ f2_ f3_;subst f4_;subst f5_))
           obtain ⟨Ao18,co18,eo18⟩:=Kd.R_slice HO113.out
           (first|subst eo18|(injection eo18 with f1_ f2_ f3_;have f4_:=f1_.symm;have f5_:=f3_.symm;clear f1_ f2_ f3_;subst f4_;subst f5_))
           refine hK.out _ _ trivial (fun hHeld=>?_)
           clear hK K
           refine norm_ (a':=?_) ?_ ?_
           rotate_left
           ·show Act.put _ (some 15) _=_
            simp only [Act.put,List.setIfInBounds_toArray,List.set_cons_zero,List.set_cons_succ,i64_w,i32_w]
            rfl
           refine pure_ (i:=5) (N:=some 18) (v:=?_) (a':=?_) #[true,true,true,true,true,true,false,false] rfl rfl (any_of HT_.out (by kernel_rfl)) (fun _ _ _ h=>h) (Or.inl ⟨by rfl,?_⟩) ?_ ?_
           rotate_left
           ·intro w'
            go_simp
            with_reducible rfl
           rotate_left
           ·simp only [Act.put,List.setIfInBounds_toArray,List.set_cons_zero,List.set_cons_succ,i64_w,i32_w]
            rfl
           exact norm_ (by first|(simp only [putAll,Act.put,List.setIfInBounds_toArray,List.set_cons_zero,List.set_cons_succ];done)|(simp only [putAll,Act.put,List.setIfInBounds_toArray,List.set_cons_zero,List.set_cons_succ];rfl)) (hJ0_2_4 (.slice Ao15 y108.length co15,.slice Ao18 t111.length co18,.slice Ao17 y114.length co17) _ ⟨(by (with_reducible repeat (first|apply zrA|apply zrN|apply zrD));exact Kd.R_mono HO110.out (fun _ hk=>hk.2)),(by (with_reducible repeat (first|apply zrA|apply zrN|apply zrD));exact Kd.R_mono HO113.out (fun _ hk=>hk.2)),(by (with_reducible repeat (first|apply zrA|apply zrN|apply zrD));exact HO116.out),(by (with_reducible repeat (first|refine zbN ?_ _|refine zbD ?_|refine zbA ?_ _));exact BK106.out),(by repeat (first|(with_reducible first|exact HB.out|apply zlA|apply zlN|apply zlD|refine zlS ?_ GE106.out)|exact HB.out))⟩)
          ·skip
           refine box_step ?hg (N:=6) ?hd (cs:=#[.slice none 0 0,.slice none 0 0]) (t:=25) ?hr ?_;(case hd=>rfl);(case hg=>rfl);(case hr=>first|(go_simp;done)|(go_simp;rfl))
           intro gb117 hg w15 hbox hb
           have n0_:=zm (Kd.R_below (by (with_reducible repeat (first|apply zrA|apply zrN|apply zrD));exact HO110.out) hb)
           have n1_:=zm (Kd.R_below (by (with_reducible repeat (first|apply zrA|apply zrN|apply zrD));exact HO116.out) hb)
           have n2_:=zm (zbB (g:=gb106) (o:=.cells #[.slice none 0 0,.slice none 0 0] 25 (0,0)) (by (with_reducible repeat (first|refine zbN ?_ _|refine zbD ?_|refine zbA ?_ _));exact BK106.out) hb)
           have n3_:=zm (below_step (by repeat (first|(with_reducible first|exact HB.out|apply zlA|apply zlN|apply zlD|refine zlS ?_ GE106.out)|exact HB.out)) hb)
           have n4_:=zm (hbox)
           have n5_:=zm ((by rw [hg];exact (below_size (by repeat (first|(with_reducible first|exact HB.out|apply zlA|apply zlN|apply zlD|refine zlS ?_ GE106.out)|exact HB.out))):w.heap.size≤gb117))
           have n6_:=zm ((by rw [hg];exact (below_size (by repeat (first|(with_reducible first|exact HB.out|apply zlA|apply zlN|apply zlD|refine zlS ?_ GE106.out)|exact HB.out))):w.heap.size≤gb117))
           have n7_:=zm ((by rw [hg];exact Nat.ne_of_lt (blk_lt (g:=gb106) (o:=.cells #[.slice none 0 0,.slice none 0 0] 25 (0,0)) (by (with_reducible repeat (first|refine zbN ?_ _|refine zbD ?_|refine zbA ?_ _));exact BK106.out)):gb106≠gb117))
           have n8_:=zm ((by rw [hg];exact Nat.ne_of_gt (blk_lt (g:=gb106) (o:=.cells #[.slice none 0 0,.slice none 0 0] 25 (0,0)) (by (with_reducible repeat (first|refine zbN ?_ _|refine zbD ?_|refine zbA ?_ _));exact BK106.out)):gb117≠gb106))
           clear HO110 HO116 BK106 HB
           have HO110:=n0_
           have HO116:=n1_
           have BK106:=n2_
           have HB:=n3_
           have BK117:=n4_
           have GW117:=n5_
           have GE117:=n6_
           have NB106_117:=n7_
           have NB117_106:=n8_
           clear n0_ n1_ n2_ n3_ n4_ n5_ n6_ n7_ n8_ hb hbox hg
           refine hK.out _ _ trivial (fun hHeld=>?_)
           clear hK K
           refine norm_ (a':=?_) ?_ ?_
           rotate_left
           ·show Act.put _ (some 6) _=_
            simp only [Act.put,List.setIfInBounds_toArray,List.set_cons_zero,List.set_cons_succ,i64_w,i32_w]
            rfl
           exact norm_ (by first|(simp only [putAll,Act.put,List.setIfInBounds_toArray,List.set_cons_zero,List.set_cons_succ];done)|(simp only [putAll,Act.put,List.setIfInBounds_toArray,List.set_cons_zero,List.set_cons_succ];rfl)) (hJ0_4_6 ((.slice Ao15 y108.length co15),v115,gb117) _ ⟨(by (with_reducible repeat (first|apply zrA|apply zrN|apply zrD));exact HO110.out),(by (with_reducible repeat (first|apply zrA|apply zrN|apply zrD));exact HO116.out),(by (with_reducible repeat (first|refine zbN ?_ _|refine zbD ?_|refine zbA ?_ _));exact BK106.out),(by (with_reducible repeat (first|refine zbN ?_ _|refine zbD ?_|refine zbA ?_ _));exact BK117.out),GW117.out,GE117.out,NB106_117.out,NB117_106.out,(by repeat (first|(with_reducible first|exact HB.out|apply zlA|apply zlN|apply zlD|refine zlS ?_ GE106.out|refine zlS ?_ GE117.out)|exact HB.out))⟩)
        ·skip
         rintro ⟨v109,v112⟩ w14 ⟨h0_,h1_,h2_,h3_⟩
         have n0_:Aside0 (Kd.R (Kd.int .i64) 3 w14 w.heap.size (fun k_=>some k_≠(v112:Value).ownBlock) v109 y108):=⟨h0_⟩
         have n1_:Aside0 (Kd.R (Kd.int .i64) 3 w14 w.heap.size (fun k_=>some k_≠(v109:Value).ownBlock) v112 t111):=⟨h1_⟩
         have n2_:Aside0 (w14.heap[gb106]?=some (.cells #[.slice none 0 0,.slice none 0 0] 25 (0,0))):=⟨h2_⟩
         have n3_:Aside0 (Below w.heap.size w w14):=⟨h3_⟩
         clear BK106 HB h0_ h1_ h2_ h3_
         have HO110:=n0_
         have HO113:=n1_
         have BK106:=n2_
         have HB:=n3_
         clear n0_ n1_ n2_ n3_
         have hHeld:=trivial
         refine norm_ (a':=?_) ?_ ?_
         rotate_left
         ·simp only [putAll,Act.put,List.setIfInBounds_toArray,List.set_cons_zero,List.set_cons_succ]
          rfl
         refine two_ (i:=4) (j:=6) (Ni:=some 17) (Nj:=some 6) #[true,true,true,true,true,false,false,false] #[true,true,true,true,false,false,true,false] rfl rfl rfl rfl (two_of HT_.out (by kernel_rfl)) (by decide) (by decide) (fun K hK=>?_) (fun K hK=>?_)
         ·skip
          refine Kd.R_make_step (Kd.int .i64) _ 2 (by rfl) (N:=17) rfl 23 _ _ rfl a0 rfl rfl Try.underlying23 (.int .i64 0) 8 info2 rfl (by decide) (by omega) 0 (ok:=fun _=>True) (okp:=fun _=>True) rfl (fun _ hk=>hk) trivial (of_decide_eq_true (by first|(with_reducible assumption)|assumption)) (Nat.le_trans (Nat.mul_le_mul_right _ (of_decide_eq_true (by first|(with_reducible assumption)|assumption):a0.toNat≤35184372088832)) (by omega)) (Below.refl _ _) (Nat.le_refl _) ?_
          intro v115 w15 ho16 hb hg_ hnew_
          clear hg_ hnew_
          (first|rw [← Ny114.out] at ho16|(simp only [Int.reduceToNat] at ho16;rw [← Ny114.out] at ho16))
          have n0_:=zm (Kd.R_below (by (with_reducible repeat (first|apply zrA|apply zrN|apply zrD));exact HO110.out) hb)
          have n1_:=zm (Kd.R_below (by (with_reducible repeat (first|apply zrA|apply zrN|apply zrD));exact HO113.out) hb)
          have n2_:=zm (Kd.R_lower ho16 (below_size (by repeat (first|(with_reducible first|exact HB.out|apply zlA|apply zlN|apply zlD|refine zlS ?_ GE106.out)|exact HB.out))))
          have n3_:=zm (zbB (g:=gb106) (o:=.cells #[.slice none 0 0,.slice none 0 0] 25 (0,0)) (by (with_reducible repeat (first|refine zbN ?_ _|refine zbD ?_|refine zbA ?_ _));exact BK106.out) hb)
          have n4_:=zm (below_step (by repeat (first|(with_reducible first|exact HB.out|apply zlA|apply zlN|apply zlD|refine zlS ?_ GE106.out)|exact HB.out)) hb)
          clear HO110 HO113 BK106 HB
          have HO110:=n0_
          have HO113:=n1_
          have HO116:=n2_
          have BK106:=n3_
          have HB:=n4_
          clear n0_ n1_ n2_ n3_ n4_ hb ho16
          obtain ⟨Ao17,co17,eo17⟩:=Kd.R_slice HO116.out
          (first|subst eo17|(injection eo17 with f1_ f2_ f3_;have f4_:=f1_.symm;have f5_:=f3_.symm;clear f1_ f2_ f3_;subst f4_;subst f5_))
          obtain ⟨Ao18,co18,eo18⟩:=Kd.R_slice HO113.out
          (first|subst eo18|(injection eo18 with f1_ f2_ f3_;have f4_:=f1_.symm;have f5_:=f3_.symm;clear f1_ f2_ f3_;subst f4_;subst f5_))
          refine hK.out _ _ trivial (fun hHeld=>?_)
          clear hK K
          refine norm_ (a':=?_) ?_ ?_
          rotate_left
          ·show Act.put _ (some 17) _=_
           simp only [Act.put,List.setIfInBounds_toArray,List.set_cons_zero,List.set_cons_succ,i64_w,i32_w]
           rfl
          refine pure_ (i:=5) (N:=some 18) (v:=?_) (a':=?_) #[true,true,true,true,true,true,false,false] rfl rfl (any_of HT_.out (by kernel_rfl)) (fun _ _ _ h=>h) (Or.inl ⟨by rfl,?_⟩) ?_ ?_
          rotate_left
          ·intro w'
           go_simp
           with_reducible rfl
          rotate_left
          ·simp only [Act.put,List.setIfInBounds_toArray,List.set_cons_zero,List.set_cons_succ,i64_w,i32_w]
           rfl
          exact norm_ (by first|(simp only [putAll,Act.put,List.setIfInBounds_toArray,List.set_cons_zero,List.set_cons_succ];done)|(simp only [putAll,Act.put,List.setIfInBounds_toArray,List.set_cons_zero,List.set_cons_succ];rfl)) (hJ0_2_4 (v109,.slice Ao18 t111.length co18,.slice Ao17 y114.length co17) _ ⟨(by (with_reducible repeat (first|apply zrA|apply zrN|apply zrD));exact HO110.out),(by (with_reducible repeat (first|apply zrA|apply zrN|apply zrD));exact HO113.out),(by (with_reducible repeat (first|apply zrA|apply zrN|apply zrD));exact HO116.out),(by (with_reducible repeat (first|refine zbN ?_ _|refine zbD ?_|refine zbA ?_ _));exact BK106.out),(by repeat (first|(with_reducible first|exact HB.out|apply zlA|apply zlN|apply zlD|refine zlS ?_ GE106.out)|exact HB.out))⟩)
         ·skip
          refine box_step ?hg (N:=6) ?hd (cs:=#[.slice none 0 0,.slice none 0 0]) (t:=25) ?hr ?_;(case hd=>rfl);(case hg=>rfl);(case hr=>first|(go_simp;done)|(go_simp;rfl))
          intro gb117 hg w15 hbox hb
          have n0_:=zm (Kd.R_below (by (with_reducible repeat (first|apply zrA|apply zrN|apply zrD));exact HO110.out) hb)
          have n1_:=zm (Kd.R_below (by (with_reducible repeat (first|apply zrA|apply zrN|apply zrD));exact HO113.out) hb)
          have n2_:=zm (zbB (g:=gb106) (o:=.cells #[.slice none 0 0,.slice none 0 0] 25 (0,0)) (by (with_reducible repeat (first|refine zbN ?_ _|refine zbD ?_|refine zbA ?_ _));exact BK106.out) hb)
          have n3_:=zm (below_step (by repeat (first|(with_reducible first|exact HB.out|apply zlA|apply zlN|apply zlD|refine zlS ?_ GE106.out)|exact HB.out)) hb)
          have n4_:=zm (hbox)
          have n5_:=zm ((by rw [hg];exact (below_size (by repeat (first|(with_reducible first|exact HB.out|apply zlA|apply zlN|apply zlD|refine zlS ?_ GE106.out)|exact HB.out))):w.heap.size≤gb117))
          have n6_:=zm ((by rw [hg];exact (below_size (by repeat (first|(with_reducible first|exact HB.out|apply zlA|apply zlN|apply zlD|refine zlS ?_ GE106.out)|exact HB.out))):w.heap.size≤gb117))
          have n7_:=zm ((by rw [hg];exact Nat.ne_of_lt (blk_lt (g:=gb106) (o:=.cells #[.slice none 0 0,.slice none 0 0] 25 (0,0)) (by (with_reducible repeat (first|refine zbN ?_ _|refine zbD ?_|refine zbA ?_ _));exact BK106.out)):gb106≠gb117))
          have n8_:=zm ((by rw [hg];exact Nat.ne_of_gt (blk_lt (g:=gb106) (o:=.cells #[.slice none 0 0,.slice none 0 0] 25 (0,0)) (by (with_reducible repeat (first|refine zbN ?_ _|refine zbD ?_|refine zbA ?_ _));exact BK106.out)):gb117≠gb106))
          clear HO110 HO113 BK106 HB
          have HO110:=n0_
          have HO113:=n1_
          have BK106:=n2_
          have HB:=n3_
          have BK117:=n4_
          have GW117:=n5_
          have GE117:=n6_
          have NB106_117:=n7_
          have NB117_106:=n8_
          clear n0_ n1_ n2_ n3_ n4_ n5_ n6_ n7_ n8_ hb hbox hg
          refine hK.out _ _ trivial (fun hHeld=>?_)
          clear hK K
          refine norm_ (a':=?_) ?_ ?_
          rotate_left
          ·show Act.put _ (some 6) _=_
           simp only [Act.put,List.setIfInBounds_toArray,List.set_cons_zero,List.set_cons_succ,i64_w,i32_w]
           rfl
          exact norm_ (by first|(simp only [putAll,Act.put,List.setIfInBounds_toArray,List.set_cons_zero,List.set_cons_succ];done)|(simp only [putAll,Act.put,List.setIfInBounds_toArray,List.set_cons_zero,List.set_cons_succ];rfl)) (hJ0_2_6 (v109,v112,gb117) _ ⟨(by (with_reducible repeat (first|apply zrA|apply zrN|apply zrD));exact HO110.out),(by (with_reducible repeat (first|apply zrA|apply zrN|apply zrD));exact HO113.out),(by (with_reducible repeat (first|refine zbN ?_ _|refine zbD ?_|refine zbA ?_ _));exact BK106.out),(by (with_reducible repeat (first|refine zbN ?_ _|refine zbD ?_|refine zbA ?_ _));exact BK117.out),GW117.out,GE117.out,NB106_117.out,NB117_106.out,(by repeat (first|(with_reducible first|exact HB.out|apply zlA|apply zlN|apply zlD|refine zlS ?_ GE106.out|refine zlS ?_ GE117.out)|exact HB.out))⟩)
       ·skip
        rintro ⟨v109,v115,gb117⟩ w15 ⟨h0_,h1_,h2_,h3_,h4_,h5_,h6_,h7_,h8_⟩
        have n0_:Aside0 (Kd.R (Kd.int .i64) 3 w15 w.heap.size (fun _=>True) v109 y108):=⟨h0_⟩
        have n1_:Aside0 (Kd.R (Kd.int .i64) 2 w15 w.heap.size (fun _=>True) v115 y114):=⟨h1_⟩
        have n2_:Aside0 (w15.heap[gb106]?=some (.cells #[.slice none 0 0,.slice none 0 0] 25 (0,0))):=⟨h2_⟩
        have n3_:Aside0 (w15.heap[gb117]?=some (.cells #[.slice none 0 0,.slice none 0 0] 25 (0,0))):=⟨h3_⟩
        have n4_:Aside0 (w.heap.size≤gb117):=⟨h4_⟩
        have n5_:Aside0 (w.heap.size≤gb117):=⟨h5_⟩
        have n6_:Aside0 (gb106≠gb117):=⟨h6_⟩
        have n7_:Aside0 (gb117≠gb106):=⟨h7_⟩
        have n8_:Aside0 (Below w.heap.size w w15):=⟨h8_⟩
        clear BK106 HB h0_ h1_ h2_ h3_ h4_ h5_ h6_ h7_ h8_
        have HO110:=n0_
        have HO116:=n1_
        have BK106:=n2_
        have BK117:=n3_
        have GW117:=n4_
        have GE117:=n5_
        have NB106_117:=n6_
        have NB117_106:=n7_
        have HB:=n8_
        clear n0_ n1_ n2_ n3_ n4_ n5_ n6_ n7_ n8_
        have hHeld:=trivial
        obtain ⟨Ao16,co16,eo16⟩:=Kd.R_slice HO110.out
        (first|subst eo16|(injection eo16 with f1_ f2_ f3_;have f4_:=f1_.symm;have f5_:=f3_.symm;clear f1_ f2_ f3_;subst f4_;subst f5_))
        refine norm_ (a':=?_) ?_ ?_
        rotate_left
        ·simp only [putAll,Act.put,List.setIfInBounds_toArray,List.set_cons_zero,List.set_cons_succ]
         rfl
        refine one_ (i:=2) (N:=some 15) #[true,true,true,true,true,false,true,false] rfl rfl (one_of HT_.out (by kernel_rfl)) (by decide) (fun K hK=>?_)
        refine goes_ Try.func36 (by kernel_rfl) rfl #[.slice Ao16 y108.length co16,.int .i64 a0] (by rfl) rfl rfl (by (try simp only [List.map_toArray,List.map_cons,List.map_nil]);first|done|rfl|(simp only [List.length_drop,List.length_take];rfl)) ?_
        with_reducible refine (slices_Repeat_int_int.calls _ _ y108 a0 t111 _ ?side1 ?side2 A5.out).mono ?_
        (case side1=>repeat (first|exact (Kd.R_reads' HO110.out).2.2|(with_reducible refine Kd.C_alloc ?_ _)|(with_reducible refine Kd.C_drewN ?_ _)|(with_reducible refine Kd.C_drew ?_)))
        (case side2=>exact (Kd.R_reads' HO110.out).2.1)
        rintro e w17 ⟨v112,rfl,ho0,hb⟩
        refine ⟨_,rfl,?_⟩
        have n0_:=zm (Kd.R_elder' (by (with_reducible repeat (first|apply zrA|apply zrN|apply zrD));exact HO110.out) (Kd.R_base ho0) hb)
        have n1_:=zm (Kd.R_below (by (with_reducible repeat (first|apply zrA|apply zrN|apply zrD));exact HO116.out) hb)
        have n2_:=zm (Kd.R_lower (Kd.R_new' ho0 (Kd.R_lt (by (with_reducible repeat (first|apply zrA|apply zrN|apply zrD));exact HO110.out))) (below_size (by repeat (first|(with_reducible first|exact HB.out|apply zlA|apply zlN|apply zlD|refine zlS ?_ GE106.out|refine zlS ?_ GE117.out)|exact HB.out))))
        have n3_:=zm (zbB (g:=gb106) (o:=.cells #[.slice none 0 0,.slice none 0 0] 25 (0,0)) (by (with_reducible repeat (first|refine zbN ?_ _|refine zbD ?_|refine zbA ?_ _));exact BK106.out) hb)
        have n4_:=zm (zbB (g:=gb117) (o:=.cells #[.slice none 0 0,.slice none 0 0] 25 (0,0)) (by (with_reducible repeat (first|refine zbN ?_ _|refine zbD ?_|refine zbA ?_ _));exact BK117.out) hb)
        have n5_:=zm (below_step (by repeat (first|(with_reducible first|exact HB.out|apply zlA|apply zlN|apply zlD|refine zlS ?_ GE106.out|refine zlS ?_ GE117.out)|exact HB.out)) hb)
        clear HO110 HO116 BK106 BK117 HB
        have HO110:=n0_
        have HO116:=n1_
        have HO113:=n2_
        have BK106:=n3_
        have BK117:=n4_
        have HB:=n5_
        clear n0_ n1_ n2_ n3_ n4_ n5_
        (try clear hb)
        (try clear hb2)
        (try clear hk)
        (try clear hi)
        (try clear ho0)
        obtain ⟨Ao18,co18,eo18⟩:=Kd.R_slice HO116.out
        (first|subst eo18|(injection eo18 with f1_ f2_ f3_;have f4_:=f1_.symm;have f5_:=f3_.symm;clear f1_ f2_ f3_;subst f4_;subst f5_))
        obtain ⟨Ao19,co19,eo19⟩:=Kd.R_slice HO113.out
        (first|subst eo19|(injection eo19 with f1_ f2_ f3_;have f4_:=f1_.symm;have f5_:=f3_.symm;clear f1_ f2_ f3_;subst f4_;subst f5_))
        refine hK.out _ _ trivial (fun hHeld=>?_)
        clear hK K
        refine norm_ (a':=?_) ?_ ?_
        rotate_left
        ·show Act.put _ (some 15) _=_
         simp only [Act.put,List.setIfInBounds_toArray,List.set_cons_zero,List.set_cons_succ,i64_w,i32_w]
         rfl
        refine pure_ (i:=5) (N:=some 18) (v:=?_) (a':=?_) #[true,true,true,true,true,true,true,false] rfl rfl (any_of HT_.out (by kernel_rfl)) (fun _ _ _ h=>h) (Or.inl ⟨by rfl,?_⟩) ?_ ?_
        rotate_left
        ·intro w'
         go_simp
         with_reducible rfl
        rotate_left
        ·simp only [Act.put,List.setIfInBounds_toArray,List.set_cons_zero,List.set_cons_succ,i64_w,i32_w]
         rfl
        exact norm_ (by first|(simp only [putAll,Act.put,List.setIfInBounds_toArray,List.set_cons_zero,List.set_cons_succ];done)|(simp only [putAll,Act.put,List.setIfInBounds_toArray,List.set_cons_zero,List.set_cons_succ];rfl)) (hJ0_2_4_6 (.slice Ao16 y108.length co16,.slice Ao19 t111.length co19,.slice Ao18 y114.length co18,gb117) _ ⟨(by (with_reducible repeat (first|apply zrA|apply zrN|apply zrD));exact Kd.R_mono HO110.out (fun _ hk=>hk.2)),(by (with_reducible repeat (first|apply zrA|apply zrN|apply zrD));exact Kd.R_mono HO113.out (fun _ hk=>hk.2)),(by (with_reducible repeat (first|apply zrA|apply zrN|apply zrD));exact HO116.out),(by (with_reducible repeat (first|refine zbN ?_ _|refine zbD ?_|refine zbA ?_ _));exact BK106.out),(by (with_reducible repeat (first|refine zbN ?_ _|refine zbD ?_|refine zbA ?_ _));exact BK117.out),GW117.out,GE117.out,NB106_117.out,NB117_106.out,(by repeat (first|(with_reducible first|exact HB.out|apply zlA|apply zlN|apply zlD|refine zlS ?_ GE106.out|refine zlS ?_ GE117.out)|exact HB.out))⟩)
      ·skip
       rintro ⟨v109,v112,gb117⟩ w15 ⟨h0_,h1_,h2_,h3_,h4_,h5_,h6_,h7_,h8_⟩
       have n0_:Aside0 (Kd.R (Kd.int .i64) 3 w15 w.heap.size (fun k_=>some k_≠(v112:Value).ownBlock) v109 y108):=⟨h0_⟩
       have n1_:Aside0 (Kd.R (Kd.int .i64) 3 w15 w.heap.size (fun k_=>some k_≠(v109:Value).ownBlock) v112 t111):=⟨h1_⟩
       have n2_:Aside0 (w15.heap[gb106]?=some (.cells #[.slice none 0 0,.slice none 0 0] 25 (0,0))):=⟨h2_⟩
       have n3_:Aside0 (w15.heap[gb117]?=some (.cells #[.slice none 0 0,.slice none 0 0] 25 (0,0))):=⟨h3_⟩
       have n4_:Aside0 (w.heap.size≤gb117):=⟨h4_⟩
       have n5_:Aside0 (w.heap.size≤gb117):=⟨h5_⟩
       have n6_:Aside0 (gb106≠gb117):=⟨h6_⟩
       have n7_:Aside0 (gb117≠gb106):=⟨h7_⟩
       have n8_:Aside0 (Below w.heap.size w w15):=⟨h8_⟩
       clear BK106 HB h0_ h1_ h2_ h3_ h4_ h5_ h6_ h7_ h8_
       have HO110:=n0_
       have HO113:=n1_
       have BK106:=n2_
       have BK117:=n3_
       have GW117:=n4_
       have GE117:=n5_
       have NB106_117:=n6_
       have NB117_106:=n7_
       have HB:=n8_
       clear n0_ n1_ n2_ n3_ n4_ n5_ n6_ n7_ n8_
       have hHeld:=trivial
       refine norm_ (a':=?_) ?_ ?_
       rotate_left
       ·simp only [putAll,Act.put,List.setIfInBounds_toArray,List.set_cons_zero,List.set_cons_succ]
        rfl
       refine one_ (i:=4) (N:=some 17) #[true,true,true,true,true,false,true,false] rfl rfl (one_of HT_.out (by kernel_rfl)) (by decide) (fun K hK=>?_)
       refine Kd.R_make_step (Kd.int .i64) _ 2 (by rfl) (N:=17) rfl 23 _ _ rfl a0 rfl rfl Try.underlying23 (.int .i64 0) 8 info2 rfl (by decide) (by omega) 0 (ok:=fun _=>True) (okp:=fun _=>True) rfl (fun _ hk=>hk) trivial (of_decide_eq_true (by first|(with_reducible assumption)|assumption)) (Nat.le_trans (Nat.mul_le_mul_right _ (of_decide_eq_true (by first|(with_reducible assumption)|assumption):a0.toNat≤35184372088832)) (by omega)) (Below.refl _ _) (Nat.le_refl _) ?_
       intro v115 w16 ho17 hb hg_ hnew_
       clear hg_ hnew_
       (first|rw [← Ny114.out] at ho17|(simp only [Int.reduceToNat] at ho17;rw [← Ny114.out] at ho17))
       have n0_:=zm (Kd.R_below (by (with_reducible repeat (first|apply zrA|apply zrN|apply zrD));exact HO110.out) hb)
       have n1_:=zm (Kd.R_below (by (with_reducible repeat (first|apply zrA|apply zrN|apply zrD));exact HO113.out) hb)
       have n2_:=zm (Kd.R_lower ho17 (below_size (by repeat (first|(with_reducible first|exact HB.out|apply zlA|apply zlN|apply zlD|refine zlS ?_ GE106.out|refine zlS ?_ GE117.out)|exact HB.out))))
       have n3_:=zm (zbB (g:=gb106) (o:=.cells #[.slice none 0 0,.slice none 0 0] 25 (0,0)) (by (with_reducible repeat (first|refine zbN ?_ _|refine zbD ?_|refine zbA ?_ _));exact BK106.out) hb)
       have n4_:=zm (zbB (g:=gb117) (o:=.cells #[.slice none 0 0,.slice none 0 0] 25 (0,0)) (by (with_reducible repeat (first|refine zbN ?_ _|refine zbD ?_|refine zbA ?_ _));exact BK117.out) hb)
       have n5_:=zm (below_step (by repeat (first|(with_reducible first|exact HB.out|apply zlA|apply zlN|apply zlD|refine zlS ?_ GE106.out|refine zlS ?_ GE117.out)|exact HB.out)) hb)
       clear HO110 HO113 BK106 BK117 HB
       have HO110:=n0_
       have HO113:=n1_
       have HO116:=n2_
       have BK106:=n3_
       have BK117:=n4_
       have HB:=n5_
       clear n0_ n1_ n2_ n3_ n4_ n5_ hb ho17
       obtain ⟨Ao18,co18,eo18⟩:=Kd.R_slice HO116.out
       (first|subst eo18|(injection eo18 with f1_ f2_ f3_;have f4_:=f1_.symm;have f5_:=f3_.symm;clear f1_ f2_ f3_;subst f4_;subst f5_))
       obtain ⟨Ao19,co19,eo19⟩:=Kd.R_slice HO113.out
       (first|subst eo19|(injection eo19 with f1_ f2_ f3_;have f4_:=f1_.symm;have f5_:=f3_.symm;clear f1_ f2_ f3_;subst f4_;subst f5_))
       refine hK.out _ _ trivial (fun hHeld=>?_)
       clear hK K
       refine norm_ (a':=?_) ?_ ?_
       rotate_left
       ·show Act.put _ (some 17) _=_
        simp only [Act.put,List.setIfInBounds_toArray,List.set_cons_zero,List.set_cons_succ,i64_w,i32_w]
        rfl
       refine pure_ (i:=5) (N:=some 18) (v:=?_) (a':=?_) #[true,true,true,true,true,true,true,false] rfl rfl (any_of HT_.out (by kernel_rfl)) (fun _ _ _ h=>h) (Or.inl ⟨by rfl,?_⟩) ?_ ?_
       rotate_left
       ·intro w'
        go_simp
        with_reducible rfl
       rotate_left
       ·simp only [Act.put,List.setIfInBounds_toArray,List.set_cons_zero,List.set_cons_succ,i64_w,i32_w]
        rfl
       exact norm_ (by first|(simp only [putAll,Act.put,List.setIfInBounds_toArray,List.set_cons_zero,List.set_cons_succ];done)|(simp only [putAll,Act.put,List.setIfInBounds_toArray,List.set_cons_zero,List.set_cons_succ];rfl)) (hJ0_2_4_6 (v109,.slice Ao19 t111.length co19,.slice Ao18 y114.length co18,gb117) _ ⟨(by (with_reducible repeat (first|apply zrA|apply zrN|apply zrD));exact HO110.out),(by (with_reducible repeat (first|apply zrA|apply zrN|apply zrD));exact HO113.out),(by (with_reducible repeat (first|apply zrA|apply zrN|apply zrD));exact HO116.out),(by (with_reducible repeat (first|refine zbN ?_ _|refine zbD ?_|refine zbA ?_ _));exact BK106.out),(by (with_reducible repeat (first|refine zbN ?_ _|refine zbD ?_|refine zbA ?_ _));exact BK117.out),GW117.out,GE117.out,NB106_117.out,NB117_106.out,(by repeat (first|(with_reducible first|exact HB.out|apply zlA|apply zlN|apply zlD|refine zlS ?_ GE106.out|refine zlS ?_ GE117.out)|exact HB.out))⟩)
     ·skip
      rintro ⟨v109,v112,v115⟩ w18 ⟨h0_,h1_,h2_,h3_,h4_⟩
      have n0_:Aside0 (Kd.R (Kd.int .i64) 3 w18 w.heap.size (fun k_=>some k_≠(v112:Value).ownBlock) v109 y108):=⟨h0_⟩
      have n1_:Aside0 (Kd.R (Kd.int .i64) 3 w18 w.heap.size (fun k_=>some k_≠(v109:Value).ownBlock) v112 t111):=⟨h1_⟩
      have n2_:Aside0 (Kd.R (Kd.int .i64) 2 w18 w.heap.size (fun _=>True) v115 y114):=⟨h2_⟩
      have n3_:Aside0 (w18.heap[gb106]?=some (.cells #[.slice none 0 0,.slice none 0 0] 25 (0,0))):=⟨h3_⟩
      have n4_:Aside0 (Below w.heap.size w w18):=⟨h4_⟩
      clear BK106 HB h0_ h1_ h2_ h3_ h4_
      have HO110:=n0_
      have HO113:=n1_
      have HO116:=n2_
      have BK106:=n3_
      have HB:=n4_
      clear n0_ n1_ n2_ n3_ n4_
      have hHeld:=trivial
      obtain ⟨Ao19,co19,eo19⟩:=Kd.R_slice HO116.out
      (first|subst eo19|(injection eo19 with f1_ f2_ f3_;have f4_:=f1_.symm;have f5_:=f3_.symm;clear f1_ f2_ f3_;subst f4_;subst f5_))
      obtain ⟨Ao20,co20,eo20⟩:=Kd.R_slice HO113.out
      (first|subst eo20|(injection eo20 with f1_ f2_ f3_;have f4_:=f1_.symm;have f5_:=f3_.symm;clear f1_ f2_ f3_;subst f4_;subst f5_))
      refine norm_ (a':=?_) ?_ ?_
      rotate_left
      ·simp only [putAll,Act.put,List.setIfInBounds_toArray,List.set_cons_zero,List.set_cons_succ]
       rfl
      refine one_ (i:=6) (N:=some 6) #[true,true,true,true,true,true,true,false] rfl rfl (one_of HT_.out (by kernel_rfl)) (by decide) (fun K hK=>?_)
      refine box_step ?hg (N:=6) ?hd (cs:=#[.slice none 0 0,.slice none 0 0]) (t:=25) ?hr ?_;(case hd=>rfl);(case hg=>rfl);(case hr=>first|(go_simp;done)|(go_simp;rfl))
      intro gb117 hg w21 hbox hb
      have n0_:=zm (Kd.R_below (by (with_reducible repeat (first|apply zrA|apply zrN|apply zrD));exact HO110.out) hb)
      have n1_:=zm (Kd.R_below (by (with_reducible repeat (first|apply zrA|apply zrN|apply zrD));exact HO113.out) hb)
      have n2_:=zm (Kd.R_below (by (with_reducible repeat (first|apply zrA|apply zrN|apply zrD));exact HO116.out) hb)
      have n3_:=zm (zbB (g:=gb106) (o:=.cells #[.slice none 0 0,.slice none 0 0] 25 (0,0)) (by (with_reducible repeat (first|refine zbN ?_ _|refine zbD ?_|refine zbA ?_ _));exact BK106.out) hb)
      have n4_:=zm (below_step (by repeat (first|(with_reducible first|exact HB.out|apply zlA|apply zlN|apply zlD|refine zlS ?_ GE106.out)|exact HB.out)) hb)
      have n5_:=zm (hbox)
      have n6_:=zm ((by rw [hg];exact (below_size (by repeat (first|(with_reducible first|exact HB.out|apply zlA|apply zlN|apply zlD|refine zlS ?_ GE106.out)|exact HB.out))):w.heap.size≤gb117))
      have n7_:=zm ((by rw [hg];exact (below_size (by repeat (first|(with_reducible first|exact HB.out|apply zlA|apply zlN|apply zlD|refine zlS ?_ GE106.out)|exact HB.out))):w.heap.size≤gb117))
      have n8_:=zm ((by rw [hg];exact Nat.ne_of_lt (blk_lt (g:=gb106) (o:=.cells #[.slice none 0 0,.slice none 0 0] 25 (0,0)) (by (with_reducible repeat (first|refine zbN ?_ _|refine zbD ?_|refine zbA ?_ _));exact BK106.out)):gb106≠gb117))
      have n9_:=zm ((by rw [hg];exact Nat.ne_of_gt (blk_lt (g:=gb106) (o:=.cells #[.slice none 0 0,.slice none 0 0] 25 (0,0)) (by (with_reducible repeat (first|refine zbN ?_ _|refine zbD ?_|refine zbA ?_ _));exact BK106.out)):gb117≠gb106))
      clear HO110 HO113 HO116 BK106 HB
      have HO110:=n0_
      have HO113:=n1_
      have HO116:=n2_
      have BK106:=n3_
      have HB:=n4_
      have BK117:=n5_
      have GW117:=n6_
      have GE117:=n7_
      have NB106_117:=n8_
      have NB117_106:=n9_
      clear n0_ n1_ n2_ n3_ n4_ n5_ n6_ n7_ n8_ n9_ hb hbox hg
      refine hK.out _ _ trivial (fun hHeld=>?_)
      clear hK K
      refine norm_ (a':=?_) ?_ ?_
      rotate_left
      ·show Act.put _ (some 6) _=_
       simp only [Act.put,List.setIfInBounds_toArray,List.set_cons_zero,List.set_cons_succ,i64_w,i32_w]
       rfl
      exact norm_ (by first|(simp only [putAll,Act.put,List.setIfInBounds_toArray,List.set_cons_zero,List.set_cons_succ];done)|(simp only [putAll,Act.put,List.setIfInBounds_toArray,List.set_cons_zero,List.set_cons_succ];rfl)) (hJ0_2_4_6 (v109,.slice Ao20 t111.length co20,.slice Ao19 y114.length co19,gb117) _ ⟨(by (with_reducible repeat (first|apply zrA|apply zrN|apply zrD));exact HO110.out),(by (with_reducible repeat (first|apply zrA|apply zrN|apply zrD));exact HO113.out),(by (with_reducible repeat (first|apply zrA|apply zrN|apply zrD));exact HO116.out),(by (with_reducible repeat (first|refine zbN ?_ _|refine zbD ?_|refine zbA ?_ _));exact BK106.out),(by (with_reducible repeat (first|refine zbN ?_ _|refine zbD ?_|refine zbA ?_ _));exact BK117.out),GW117.out,GE117.out,NB106_117.out,NB117_106.out,(by repeat (first|(with_reducible first|exact HB.out|apply zlA|apply zlN|apply zlD|refine zlS ?_ GE106.out|refine zlS ?_ GE117.out)|exact HB.out))⟩)
    rintro ⟨v109,v112,v115,gb117⟩ w19 ⟨h0_,h1_,h2_,h3_,h4_,h5_,h6_,h7_,h8_,h9_⟩
    have n0_:Aside0 (Kd.R (Kd.int .i64) 3 w19 w.heap.size (fun k_=>some k_≠(v112:Value).ownBlock) v109 y108):=⟨h0_⟩
    have n1_:Aside0 (Kd.R (Kd.int .i64) 3 w19 w.heap.size (fun k_=>some k_≠(v109:Value).ownBlock) v112 t111):=⟨h1_⟩
    have n2_:Aside0 (Kd.R (Kd.int .i64) 2 w19 w.heap.size (fun _=>True) v115 y114):=⟨h2_⟩
    have n3_:Aside0 (w19.heap[gb106]?=some (.cells #[.slice none 0 0,.slice none 0 0] 25 (0,0))):=⟨h3_⟩
    have n4_:Aside0 (w19.heap[gb117]?=some (.cells #[.slice none 0 0,.slice none 0 0] 25 (0,0))):=⟨h4_⟩
    have n5_:Aside0 (w.heap.size≤gb117):=⟨h5_⟩
    have n6_:Aside0 (w.heap.size≤gb117):=⟨h6_⟩
    have n7_:Aside0 (gb106≠gb117):=⟨h7_⟩
    have n8_:Aside0 (gb117≠gb106):=⟨h8_⟩
    have n9_:Aside0 (Below w.heap.size w w19):=⟨h9_⟩
    clear BK106 HB h0_ h1_ h2_ h3_ h4_ h5_ h6_ h7_ h8_ h9_
    have HO110:=n0_
    have HO113:=n1_
    have HO116:=n2_
    have BK106:=n3_
    have BK117:=n4_
    have GW117:=n5_
    have GE117:=n6_
    have NB106_117:=n7_
    have NB117_106:=n8_
    have HB:=n9_
    clear n0_ n1_ n2_ n3_ n4_ n5_ n6_ n7_ n8_ n9_
    have hHeld:=trivial
    obtain ⟨Ao20,co20,eo20⟩:=Kd.R_slice HO116.out
    (first|subst eo20|(injection eo20 with f1_ f2_ f3_;have f4_:=f1_.symm;have f5_:=f3_.symm;clear f1_ f2_ f3_;subst f4_;subst f5_))
    obtain ⟨Ao21,co21,eo21⟩:=Kd.R_slice HO113.out
    (first|subst eo21|(injection eo21 with f1_ f2_ f3_;have f4_:=f1_.symm;have f5_:=f3_.symm;clear f1_ f2_ f3_;subst f4_;subst f5_))
    refine norm_ (a':=?_) ?_ ?_
    rotate_left
    ·simp only [putAll,Act.put,List.setIfInBounds_toArray,List.set_cons_zero,List.set_cons_succ]
     rfl
    refine one_ (i:=7) (N:=none) #[true,true,true,true,true,true,true,true] rfl rfl (one_of HT_.out (by kernel_rfl)) (by decide) (fun K hK=>?_)
    have hs22:w19.cell? ⟨gb117,0,none⟩=some (.slice none 0 0):=(blk_cell BK117.out 0).trans rfl
    have hfs22:=blk_frozen BK117.out 0
    have hns22_0:=NB106_117.out
    have hms22_0:=NB117_106.out
    have hs23:w19.cell? ⟨gb117,1,none⟩=some (.slice none 0 0):=(blk_cell BK117.out 1).trans rfl
    have hfs23:=blk_frozen BK117.out 1
    have hns23_0:=NB106_117.out
    have hms23_0:=NB117_106.out
    refine skip_ (w1:=?_) (by rfl) rfl ?_ ?_
    rotate_left
    ·go_simp
     rfl
    refine hK.out _ _ trivial (fun hHeld=>?_)
    clear hK K
    refine done_ (done_of HT_.out (by kernel_rfl)) ?_
    try go_wp2
    go_loopg [21] k (fun kq v21 w'=>∃ (x21_1:Int) (x118000_1:List Int) (u118000:Value),v21=.int .i64 x21_1∧Aside0 (pool_New.l0 kq a0 l1 (l1.length:Int) x21_1 x118000_1 y114=some (r1,r2,r3))∧Aside0 (kq≤k)∧Aside0 (Kd.R (Kd.int .i64) 3 w' w.heap.size (fun _=>True) u118000 x118000_1)∧Aside0 (Kd.R (Kd.int .i64) 2 w' w.heap.size (fun _=>True) (.slice Ao20 y114.length co20) y114)∧Aside0 (w'.heap[gb106]?=some (.cells #[(.slice none 0 0),(.slice none 0 0)] 25 (0,0)))∧Aside0 (w'.heap[gb117]?=some (.cells #[u118000,(.slice Ao20 y114.length co20)] 25 (0,0)))∧Aside0 (Below w.heap.size w w'))
    case atStart=>exact ⟨(0),(t111),(.slice Ao21 t111.length co21),(by first|rfl|(simp;done)|(simp [*];done)),H',⟨Nat.le_refl _⟩,⟨by (with_reducible repeat (first|apply zrA|apply zrN|apply zrD));exact Kd.R_mono (Kd.R_far (p:=⟨gb117,1,none⟩) (Kd.R_far (p:=⟨gb117,0,none⟩) (Kd.R_types HO113.out BK117.out (by decide)) (fun _ hk=>hk.2) (.slice Ao21 t111.length co21)) (fun _ hk=>hk.2) (.slice Ao20 y114.length co20)) (fun _ hk=>trivial)⟩,⟨by (with_reducible repeat (first|apply zrA|apply zrN|apply zrD));exact Kd.R_mono (Kd.R_far (p:=⟨gb117,1,none⟩) (Kd.R_far (p:=⟨gb117,0,none⟩) (Kd.R_types HO116.out BK117.out (by decide)) (fun _ hk=>hk.2) (.slice Ao21 t111.length co21)) (fun _ hk=>hk.2) (.slice Ao20 y114.length co20)) (fun _ hk=>trivial)⟩,⟨by (with_reducible repeat (first|refine zbN ?_ _|refine zbD ?_|refine zbA ?_ _));refine blk_far ?_ NB106_117.out _;(with_reducible repeat (first|refine zbN ?_ _|refine zbD ?_|refine zbA ?_ _));refine blk_far ?_ NB106_117.out _;(with_reducible repeat (first|refine zbN ?_ _|refine zbD ?_|refine zbA ?_ _));exact BK106.out⟩,⟨by (with_reducible repeat (first|refine zbN ?_ _|refine zbD ?_|refine zbA ?_ _));refine blk_put (cs:=#[.slice Ao21 t111.length co21,.slice none 0 0]) ?_ 1 _ rfl;(with_reducible repeat (first|refine zbN ?_ _|refine zbD ?_|refine zbA ?_ _));refine blk_put (cs:=#[.slice none 0 0,.slice none 0 0]) ?_ 0 _ rfl;(with_reducible repeat (first|refine zbN ?_ _|refine zbD ?_|refine zbA ?_ _));exact BK117.out⟩,⟨by repeat (first|(with_reducible first|exact HB.out|apply zlA|apply zlN|apply zlD|refine zlS ?_ GE106.out|refine zlS ?_ GE117.out)|exact HB.out)⟩⟩
    case round =>
     clear H'
     try clear p2
     try clear c3
     obtain ⟨x21_1,x118000_1,u118000,rfl,HA,HK1,HO_118000,HO_118001,BK106,BK117,HB⟩:=hrel
     cases gk with
     | zero=>exact absurd HA.out (by simp [pool_New.l0])
     | succ k1 =>
      have H:=HA.out
      clear HA
      simp only [pool_New.l0] at H
      by_cases c24:x21_1 < (l1.length:Int)
      ·rw [if_pos c24] at H
       have c24b0:decide (x21_1 < (l1.length:Int))=true:=decide_eq_true c24
       clear c24
       by_cases c25:0≤x21_1
       ·rw [if_pos c25] at H
        have c25b0:decide (0≤x21_1)=true:=decide_eq_true c25
        clear c25
        by_cases c26:x21_1 < (l1.length:Int)
        ·rw [if_pos c26] at H
         have c26b0:decide (x21_1 < (l1.length:Int))=true:=decide_eq_true c26
         clear c26
         by_cases c27:(rd l1 x21_1) < 0
         ·rw [if_pos c27] at H
          have c27b0:decide ((rd l1 x21_1) < 0)=true:=decide_eq_true c27
          clear c27
          simp only [Option.some.injEq,Prod.mk.injEq] at H
          obtain ⟨rfl,rfl,rfl⟩:=H
          have p118:0≤(x21_1:Int):=of_decide_eq_true (by first|(with_reducible assumption)|assumption)
          have q118:x21_1 < (l1.length:Int):=of_decide_eq_true (by first|(with_reducible assumption)|assumption)
          obtain ⟨ad118,e118,hx118_0⟩:=Kd.at_int HR1.out x21_1 p118 q118
          cases e118
          replace hx118_0:=(HB.out.cell (World.block_lt_of_cell? w _ hx118_0)).trans hx118_0
          replace p118:=eq_true p118
          replace q118:=eq_true q118
          have hnb28:=NB106_117.out
          have hnc28:=NB117_106.out
          have hcz29_0:wr.cell? ⟨gb106,0,none⟩=some (.slice none 0 0):=(blk_cell BK106.out 0).trans rfl
          have hcz29_1:wr.cell? ⟨gb106,1,none⟩=some (.slice none 0 0):=(blk_cell BK106.out 1).trans rfl
          have hfz29_0:=blk_frozen BK106.out 0
          have hfz29_1:=blk_frozen BK106.out 1
          go_wp2
          refine bodyPost_ret (results_ct rfl _ _ gb106 25 #[.slice none 0 0,.slice none 0 0] (0,0) _ rfl (by (with_reducible repeat (first|refine zbN ?_ _|refine zbD ?_|refine zbA ?_ _));refine blk_put (cs:=#[.slice none 0 0,.slice none 0 0]) ?_ 1 _ rfl;(with_reducible repeat (first|refine zbN ?_ _|refine zbD ?_|refine zbA ?_ _));refine blk_put (cs:=#[.slice none 0 0,.slice none 0 0]) ?_ 0 _ rfl;(with_reducible repeat (first|refine zbN ?_ _|refine zbD ?_|refine zbA ?_ _));exact BK106.out) Try.underlying25 rfl (by kernel_rfl)) rfl ?_
          exact ⟨_,_,by first|rfl|(simp [errW_none,errW_some] <;> rfl)|(simp [*,errW_none,errW_some] <;> rfl),by first|exact Kd.R_nil _ _ _ _ _|exact Kd.N_nil _ _ _ _ _|exact Kd.V_nil _ _ _ _ _|exact Kd.Q_nil _ _ _ _ _|exact Kd.S_nil _ _ _ _ _,by first|exact Kd.R_nil _ _ _ _ _|exact Kd.N_nil _ _ _ _ _|exact Kd.V_nil _ _ _ _ _|exact Kd.Q_nil _ _ _ _ _|exact Kd.S_nil _ _ _ _ _,by repeat (first|(with_reducible first|exact HB.out|apply zlA|apply zlN|apply zlD|refine zlS ?_ GE106.out|refine zlS ?_ GE117.out)|exact HB.out)⟩
         ·rw [if_neg c27] at H
          have c27b0:decide ((rd l1 x21_1) < 0)=false:=decide_eq_false c27
          clear c27
          by_cases c30:(rd l1 x21_1) ≥ a0
          ·rw [if_pos c30] at H
           have c30b0:decide (a0≤(rd l1 x21_1))=true:=decide_eq_true c30
           clear c30
           simp only [Option.some.injEq,Prod.mk.injEq] at H
           obtain ⟨rfl,rfl,rfl⟩:=H
           have p118:0≤(x21_1:Int):=of_decide_eq_true (by first|(with_reducible assumption)|assumption)
           have q118:x21_1 < (l1.length:Int):=of_decide_eq_true (by first|(with_reducible assumption)|assumption)
           obtain ⟨ad118,e118,hx118_0⟩:=Kd.at_int HR1.out x21_1 p118 q118
           cases e118
           replace hx118_0:=(HB.out.cell (World.block_lt_of_cell? w _ hx118_0)).trans hx118_0
           replace p118:=eq_true p118
           replace q118:=eq_true q118
           have hnb31:=NB106_117.out
           have hnc31:=NB117_106.out
           have hcz32_0:wr.cell? ⟨gb106,0,none⟩=some (.slice none 0 0):=(blk_cell BK106.out 0).trans rfl
           have hcz32_1:wr.cell? ⟨gb106,1,none⟩=some (.slice none 0 0):=(blk_cell BK106.out 1).trans rfl
           have hfz32_0:=blk_frozen BK106.out 0
           have hfz32_1:=blk_frozen BK106.out 1
           go_wp2
           refine bodyPost_ret (results_ct rfl _ _ gb106 25 #[.slice none 0 0,.slice none 0 0] (0,0) _ rfl (by (with_reducible repeat (first|refine zbN ?_ _|refine zbD ?_|refine zbA ?_ _));refine blk_put (cs:=#[.slice none 0 0,.slice none 0 0]) ?_ 1 _ rfl;(with_reducible repeat (first|refine zbN ?_ _|refine zbD ?_|refine zbA ?_ _));refine blk_put (cs:=#[.slice none 0 0,.slice none 0 0]) ?_ 0 _ rfl;(with_reducible repeat (first|refine zbN ?_ _|refine zbD ?_|refine zbA ?_ _));exact BK106.out) Try.underlying25 rfl (by kernel_rfl)) rfl ?_
           exact ⟨_,_,by first|rfl|(simp [errW_none,errW_some] <;> rfl)|(simp [*,errW_none,errW_some] <;> rfl),by first|exact Kd.R_nil _ _ _ _ _|exact Kd.N_nil _ _ _ _ _|exact Kd.V_nil _ _ _ _ _|exact Kd.Q_nil _ _ _ _ _|exact Kd.S_nil _ _ _ _ _,by first|exact Kd.R_nil _ _ _ _ _|exact Kd.N_nil _ _ _ _ _|exact Kd.V_nil _ _ _ _ _|exact Kd.Q_nil _ _ _ _ _|exact Kd.S_nil _ _ _ _ _,by repeat (first|(with_reducible first|exact HB.out|apply zlA|apply zlN|apply zlD|refine zlS ?_ GE106.out|refine zlS ?_ GE117.out)|exact HB.out)⟩
          ·rw [if_neg c30] at H
           have c30b0:decide (a0≤(rd l1 x21_1))=false:=decide_eq_false c30
           clear c30
           by_cases c33:0≤(rd l1 x21_1)
           ·rw [if_pos c33] at H
            have c33b0:decide (0≤(rd l1 x21_1))=true:=decide_eq_true c33
            clear c33
            by_cases c34:(rd l1 x21_1) < (x118000_1.length:Int)
            ·rw [if_pos c34] at H
             have c34b0:decide ((rd l1 x21_1) < (x118000_1.length:Int))=true:=decide_eq_true c34
             clear c34
             by_cases c35:(rd x118000_1 (rd l1 x21_1))=6
             ·rw [if_pos c35] at H
              have c35b0:((rd x118000_1 (rd l1 x21_1)) == 6)=true:=beq_iff_eq.mpr c35
              have c35b1:((rd x118000_1 (rd l1 x21_1)) != 6)=false:=bne_eq_false_iff_eq.mpr c35
              clear c35
              simp only [Option.some.injEq,Prod.mk.injEq] at H
              obtain ⟨rfl,rfl,rfl⟩:=H
              have p118:0≤(x21_1:Int):=of_decide_eq_true (by first|(with_reducible assumption)|assumption)
              have q118:x21_1 < (l1.length:Int):=of_decide_eq_true (by first|(with_reducible assumption)|assumption)
              obtain ⟨ad118,e118,hx118_0⟩:=Kd.at_int HR1.out x21_1 p118 q118
              cases e118
              replace hx118_0:=(HB.out.cell (World.block_lt_of_cell? w _ hx118_0)).trans hx118_0
              replace p118:=eq_true p118
              replace q118:=eq_true q118
              have hnb36:=NB117_106.out
              have hnc36:=NB106_117.out
              have hcz37_0:wr.cell? ⟨gb117,0,none⟩=some (u118000):=(blk_cell BK117.out 0).trans rfl
              have hcz37_1:wr.cell? ⟨gb117,1,none⟩=some (.slice Ao20 y114.length co20):=(blk_cell BK117.out 1).trans rfl
              have hfz37_0:=blk_frozen BK117.out 0
              have hfz37_1:=blk_frozen BK117.out 1
              obtain ⟨Ao38,co38,eo38⟩:=Kd.R_slice HO_118000.out
              subst eo38
              have p119:0≤((rd l1 x21_1):Int):=of_decide_eq_true (by first|(with_reducible assumption)|assumption)
              have q119:(rd l1 x21_1) < (x118000_1.length:Int):=of_decide_eq_true (by first|(with_reducible assumption)|assumption)
              obtain ⟨ad119,e119,hx119_0⟩:=Kd.at_int (Kd.R_reads' HO_118000.out).2.2 (rd l1 x21_1) p119 q119
              cases e119
              replace p119:=eq_true p119
              replace q119:=eq_true q119
              have hcz39_0:wr.cell? ⟨gb106,0,none⟩=some (.slice none 0 0):=(blk_cell BK106.out 0).trans rfl
              have hcz39_1:wr.cell? ⟨gb106,1,none⟩=some (.slice none 0 0):=(blk_cell BK106.out 1).trans rfl
              have hfz39_0:=blk_frozen BK106.out 0
              have hfz39_1:=blk_frozen BK106.out 1
              go_wp2
              refine bodyPost_ret (results_ct rfl _ _ gb106 25 #[.slice none 0 0,.slice none 0 0] (0,0) _ rfl (by (with_reducible repeat (first|refine zbN ?_ _|refine zbD ?_|refine zbA ?_ _));refine blk_put (cs:=#[.slice none 0 0,.slice none 0 0]) ?_ 1 _ rfl;(with_reducible repeat (first|refine zbN ?_ _|refine zbD ?_|refine zbA ?_ _));refine blk_put (cs:=#[.slice none 0 0,.slice none 0 0]) ?_ 0 _ rfl;(with_reducible repeat (first|refine zbN ?_ _|refine zbD ?_|refine zbA ?_ _));exact BK106.out) Try.underlying25 rfl (by kernel_rfl)) rfl ?_
              exact ⟨_,_,by first|rfl|(simp [errW_none,errW_some] <;> rfl)|(simp [*,errW_none,errW_some] <;> rfl),by first|exact Kd.R_nil _ _ _ _ _|exact Kd.N_nil _ _ _ _ _|exact Kd.V_nil _ _ _ _ _|exact Kd.Q_nil _ _ _ _ _|exact Kd.S_nil _ _ _ _ _,by first|exact Kd.R_nil _ _ _ _ _|exact Kd.N_nil _ _ _ _ _|exact Kd.V_nil _ _ _ _ _|exact Kd.Q_nil _ _ _ _ _|exact Kd.S_nil _ _ _ _ _,by repeat (first|(with_reducible first|exact HB.out|apply zlA|apply zlN|apply zlD|refine zlS ?_ GE106.out|refine zlS ?_ GE117.out)|exact HB.out)⟩
             ·rw [if_neg c35] at H
              have c35b0:((rd x118000_1 (rd l1 x21_1)) == 6)=false:=beq_eq_false_iff_ne.mpr c35
              have c35b1:((rd x118000_1 (rd l1 x21_1)) != 6)=true:=bne_iff_ne.mpr c35
              obtain ⟨y120,hy120⟩:∃ y_:List Int,y_=(x118000_1.set ((rd l1 x21_1):Int).toNat 6):=⟨_,rfl⟩
              replace H:(pool_New.l0 k1 a0 l1 (l1.length:Int) (wrap64 (x21_1 + 1)) y120 y114)=some (r1,r2,r3):=by first|(rw [hy120];with_reducible exact H)|(have H2_:=(Option.bind_some _ _).symm.trans H;rw [hy120];with_reducible exact H2_)|(have H2_:=(Option.bind_some _ _).symm.trans H;with_reducible exact H2_)|with_reducible exact H|(rw [hy120];exact H)|exact H
              have Ny120:=zm hy120
              clear hy120
              have H':=zm H
              clear H
              have p118:0≤(x21_1:Int):=of_decide_eq_true (by first|(with_reducible assumption)|assumption)
              have q118:x21_1 < (l1.length:Int):=of_decide_eq_true (by first|(with_reducible assumption)|assumption)
              obtain ⟨ad118,e118,hx118_0⟩:=Kd.at_int HR1.out x21_1 p118 q118
              cases e118
              replace hx118_0:=(HB.out.cell (World.block_lt_of_cell? w _ hx118_0)).trans hx118_0
              replace p118:=eq_true p118
              replace q118:=eq_true q118
              have hnb41:=NB117_106.out
              have hnc41:=NB106_117.out
              have hcz42_0:wr.cell? ⟨gb117,0,none⟩=some (u118000):=(blk_cell BK117.out 0).trans rfl
              have hcz42_1:wr.cell? ⟨gb117,1,none⟩=some (.slice Ao20 y114.length co20):=(blk_cell BK117.out 1).trans rfl
              have hfz42_0:=blk_frozen BK117.out 0
              have hfz42_1:=blk_frozen BK117.out 1
              obtain ⟨Ao43,co43,eo43⟩:=Kd.R_slice HO_118000.out
              subst eo43
              have p119:0≤((rd l1 x21_1):Int):=of_decide_eq_true (by first|(with_reducible assumption)|assumption)
              have q119:(rd l1 x21_1) < (x118000_1.length:Int):=of_decide_eq_true (by first|(with_reducible assumption)|assumption)
              obtain ⟨ad119,e119,hx119_0⟩:=Kd.at_int (Kd.R_reads' HO_118000.out).2.2 (rd l1 x21_1) p119 q119
              cases e119
              replace p119:=eq_true p119
              replace q119:=eq_true q119
              have p40:0≤((rd l1 x21_1):Int):=of_decide_eq_true (by first|(with_reducible assumption)|assumption)
              have q40:((rd l1 x21_1):Int) < ((x118000_1.length:Int):Int):=of_decide_eq_true (by first|(with_reducible assumption)|assumption)
              obtain ⟨go40,co40,eo40,gb40,gl40,cl40,HG40⟩:=Kd.R_form HO_118000.out (by omega)
              (first|cases eo40|(injection eo40 with ea_ en_ ec_;(first|subst ea_|(injection ea_ with ea_;subst ea_));subst ec_;clear en_))
              have GB40:=zm gb40
              have GG40:=zm HG40
              clear gb40 gl40 HG40
              (first|simp only [add_plain] at hx119_0|skip)
              obtain ⟨hx40_0,hf40_0⟩:=Kd.R_celln 0 HO_118000.out ((rd l1 x21_1):Int) p40 q40
              replace p40:=eq_true p40
              replace q40:=eq_true q40
              have HP44:=Kd.R_putg HO_118000.out ((rd l1 x21_1):Int) 6
              go_wp2_with (first|((with_reducible refine gate_store (t:=3) (p:=44) rfl ?_);refine store_event (t:=3) (p:=44) (v:=?vo_w45) (w1:=(wr.setCell ⟨go40,((rd l1 x21_1):Int).toNat,none⟩ (.int .i64 6))) ?hg ?ho ?hn ?hr ?_;(case ho=>rfl);(case hg=>rfl);(case hn=>rfl);(case hr=>first|(go_simp;done)|(go_simp;rfl));intro w45 hw;have hg:wr.grownBy w45 (some go40):=(by rw [hw];exact HP44.2);have hp_:Kd.R (Kd.int .i64) 3 w45 w.heap.size (fun _=>True) (.slice (some ⟨go40,0,none⟩) x118000_1.length co43) y120:=(by rw [hw,Ny120.out];exact HP44.1);clear HP44;have n0_:=zm (hp_);have n1_:=zm (Kd.R_over' (v:=(.slice (some ⟨go40,0,none⟩) x118000_1.length co43)) (by (with_reducible repeat (first|apply zrA|apply zrN|apply zrD));exact HO_118001.out) (Kd.R_typed HO_118000.out) (by decide) hg);have n2_:=zm (blk_grown (g:=gb106) (o:=.cells #[.slice none 0 0,.slice none 0 0] 25 (0,0)) (by (with_reducible repeat (first|refine zbN ?_ _|refine zbD ?_|refine zbA ?_ _));exact BK106.out) hg (Kd.R_ne HO_118000.out BK106.out (by decide)));have n3_:=zm (blk_grown (g:=gb117) (o:=.cells #[.slice (some ⟨go40,0,none⟩) x118000_1.length co43,.slice Ao20 y114.length co20] 25 (0,0)) (by (with_reducible repeat (first|refine zbN ?_ _|refine zbD ?_|refine zbA ?_ _));exact BK117.out) hg (Kd.R_ne HO_118000.out BK117.out (by decide)));have n4_:=zm ((by rw [hw];exact zlS (HB.out) GB40.out:Below w.heap.size w w45));clear HO_118000 HO_118001 BK106 BK117 HB;have HO_118000:=n0_;have HO_118001:=n1_;have BK106:=n2_;have BK117:=n3_;have HB:=n4_;clear n0_ n1_ n2_ n3_ n4_;clear hg hw hp_))
              go_roundg k1
              case measure=>have:=HK1.out;omega
              case rel=>exact ⟨(wrap64 (x21_1 + 1)),(y120),(.slice (some ⟨go40,0,none⟩) x118000_1.length co43),(by first|rfl|(simp;done)|(simp [*];done)),H',⟨by have:=HK1.out;omega⟩,⟨by (with_reducible repeat (first|apply zrA|apply zrN|apply zrD));exact HO_118000.out⟩,⟨by (with_reducible repeat (first|apply zrA|apply zrN|apply zrD));exact HO_118001.out⟩,⟨by (with_reducible repeat (first|refine zbN ?_ _|refine zbD ?_|refine zbA ?_ _));exact BK106.out⟩,⟨by (with_reducible repeat (first|refine zbN ?_ _|refine zbD ?_|refine zbA ?_ _));exact BK117.out⟩,⟨by repeat (first|(with_reducible first|exact HB.out|apply zlA|apply zlN|apply zlD|refine zlS ?_ GE106.out|refine zlS ?_ GE117.out)|exact HB.out)⟩⟩
            ·rw [if_neg c34] at H
             exact absurd H (by simp)
           ·rw [if_neg c33] at H
            exact absurd H (by simp)
        ·rw [if_neg c26] at H
         exact absurd H (by simp)
       ·rw [if_neg c25] at H
        exact absurd H (by simp)
      ·rw [if_neg c24] at H
       have c24b0:decide (x21_1 < (l1.length:Int))=false:=decide_eq_false c24
       clear c24
       simp only [Option.some.injEq,Prod.mk.injEq] at H
       obtain ⟨rfl,rfl,rfl⟩:=H
       have hnb46:=NB117_106.out
       have hnc46:=NB106_117.out
       have hcz47_0:wr.cell? ⟨gb117,0,none⟩=some (u118000):=(blk_cell BK117.out 0).trans rfl
       have hcz47_1:wr.cell? ⟨gb117,1,none⟩=some (.slice Ao20 y114.length co20):=(blk_cell BK117.out 1).trans rfl
       have hfz47_0:=blk_frozen BK117.out 0
       have hfz47_1:=blk_frozen BK117.out 1
       obtain ⟨Ao48,co48,eo48⟩:=Kd.R_slice HO_118000.out
       subst eo48
       have hcz49_0:wr.cell? ⟨gb106,0,none⟩=some (.slice none 0 0):=(blk_cell BK106.out 0).trans rfl
       have hcz49_1:wr.cell? ⟨gb106,1,none⟩=some (.slice none 0 0):=(blk_cell BK106.out 1).trans rfl
       have hfz49_0:=blk_frozen BK106.out 0
       have hfz49_1:=blk_frozen BK106.out 1
       go_wp2
       refine bodyPost_ret (results_ct rfl _ _ gb106 25 #[.slice Ao48 x118000_1.length co48,.slice Ao20 y114.length co20] (0,0) _ rfl (by (with_reducible repeat (first|refine zbN ?_ _|refine zbD ?_|refine zbA ?_ _));refine blk_put (cs:=#[.slice Ao48 x118000_1.length co48,.slice none 0 0]) ?_ 1 _ rfl;(with_reducible repeat (first|refine zbN ?_ _|refine zbD ?_|refine zbA ?_ _));refine blk_put (cs:=#[.slice none 0 0,.slice none 0 0]) ?_ 0 _ rfl;(with_reducible repeat (first|refine zbN ?_ _|refine zbD ?_|refine zbA ?_ _));exact BK106.out) Try.underlying25 rfl (by kernel_rfl)) rfl ?_
       exact ⟨_,_,by first|rfl|(simp [errW_none,errW_some] <;> rfl)|(simp [*,errW_none,errW_some] <;> rfl),by (with_reducible repeat (first|apply zrA|apply zrN|apply zrD));exact Kd.R_mono (Kd.R_far (p:=⟨gb106,1,none⟩) (Kd.R_far (p:=⟨gb106,0,none⟩) (Kd.R_types HO_118000.out BK106.out (by decide)) (fun _ hk=>hk.2) (.slice Ao48 x118000_1.length co48)) (fun _ hk=>hk.2) (.slice Ao20 y114.length co20)) (fun _ hk=>trivial),by (with_reducible repeat (first|apply zrA|apply zrN|apply zrD));exact Kd.R_mono (Kd.R_far (p:=⟨gb106,1,none⟩) (Kd.R_far (p:=⟨gb106,0,none⟩) (Kd.R_types HO_118001.out BK106.out (by decide)) (fun _ hk=>hk.2) (.slice Ao48 x118000_1.length co48)) (fun _ hk=>hk.2) (.slice Ao20 y114.length co20)) (fun _ hk=>trivial),by repeat (first|(with_reducible first|exact HB.out|apply zlA|apply zlN|apply zlD|refine zlS ?_ GE106.out|refine zlS ?_ GE117.out)|exact HB.out)⟩
   ·rw [if_neg c7] at H
    exact absurd H (by simp)
  ·rw [if_neg c6] at H
   exact absurd H (by simp)
 ·replace c4:=Bool.eq_false_iff.mpr c4
  subst c4
  have H1:(some (([]:List Int),([]:List Int),20))=some (r1,r2,r3):=by rw [if_neg (show ¬ (false=true) by decide)] at H;exact H
  clear H
  have H:=H1
  clear H1
  simp only [Option.some.injEq,Prod.mk.injEq] at H
  obtain ⟨rfl,rfl,rfl⟩:=H
  go_enter Try.func8,Try.ntmps8
  go_wp2_with (first|((with_reducible refine gate_dst (N:=4) rfl ?_);refine box_event ?hg (N:=4) ?hd (cs:=#[.slice none 0 0,.slice none 0 0]) (t:=25) ?hr ?_;(case hd=>rfl);(case hg=>rfl);(case hr=>first|(go_simp;done)|(go_simp;rfl));intro gb106 hg w50 hbox hb;have n0_:=zm (below_step (by repeat (first|(with_reducible first|exact HB.out|apply zlA|apply zlN|apply zlD)|exact HB.out)) hb);have n1_:=zm (hbox);have n2_:=zm ((by rw [hg];exact (below_size (by repeat (first|(with_reducible first|exact HB.out|apply zlA|apply zlN|apply zlD)|exact HB.out))):w.heap.size≤gb106));have n3_:=zm ((by rw [hg];exact (below_size (by repeat (first|(with_reducible first|exact HB.out|apply zlA|apply zlN|apply zlD)|exact HB.out))):w.heap.size≤gb106));clear HB;have HB:=n0_;have BK106:=n1_;have GW106:=n2_;have GE106:=n3_;clear n0_ n1_ n2_ n3_;clear hb hbox hg)|((with_reducible refine gate_callee (f:=35) rfl ?_);refine goesL_ (some 10) rfl rfl Try.func35 (by kernel_rfl) rfl #[.int .i64 a0] rfl (by (try simp only [List.map_toArray,List.map_cons,List.map_nil]);first|done|rfl|(simp only [List.length_drop,List.length_take];rfl)) ?_;(with_reducible refine (pool_blocks.calls a0 false _ A3.out).mono ?_);rintro e w' ⟨rfl,⟨nd,rfl⟩⟩;refine ⟨_,rfl,?_⟩;(try (rw [drewN_self w50];generalize hq_:World.drewN w50 _=w50;have n0_:Aside0 (w50.heap[gb106]?=some (.cells #[.slice none 0 0,.slice none 0 0] 25 (0,0))):=⟨by rw [← hq_];exact (by (with_reducible repeat (first|refine zbN ?_ _|refine zbD ?_|refine zbA ?_ _));exact BK106.out)⟩;have n1_:Aside0 (Below w.heap.size w w50):=⟨by rw [← hq_];exact (by repeat (first|(with_reducible first|exact HB.out|apply zlA|apply zlN|apply zlD|refine zlS ?_ GE106.out)|exact HB.out))⟩;clear BK106 HB hq_;have BK106:=n0_;have HB:=n1_;clear n0_ n1_));have hcz51_0:w50.cell? ⟨gb106,0,none⟩=some (.slice none 0 0):=(blk_cell BK106.out 0).trans rfl;have hcz51_1:w50.cell? ⟨gb106,1,none⟩=some (.slice none 0 0):=(blk_cell BK106.out 1).trans rfl;have hfz51_0:=blk_frozen BK106.out 0;have hfz51_1:=blk_frozen BK106.out 1))
  refine bodyPost_ret (results_ct rfl _ _ gb106 25 #[.slice none 0 0,.slice none 0 0] (0,0) _ rfl (by (with_reducible repeat (first|refine zbN ?_ _|refine zbD ?_|refine zbA ?_ _));refine blk_put (cs:=#[.slice none 0 0,.slice none 0 0]) ?_ 1 _ rfl;(with_reducible repeat (first|refine zbN ?_ _|refine zbD ?_|refine zbA ?_ _));refine blk_put (cs:=#[.slice none 0 0,.slice none 0 0]) ?_ 0 _ rfl;(with_reducible repeat (first|refine zbN ?_ _|refine zbD ?_|refine zbA ?_ _));exact BK106.out) Try.underlying25 rfl (by kernel_rfl)) rfl ?_
  exact ⟨_,_,by first|rfl|(simp [errW_none,errW_some] <;> rfl)|(simp [*,errW_none,errW_some] <;> rfl),by first|exact Kd.R_nil _ _ _ _ _|exact Kd.N_nil _ _ _ _ _|exact Kd.V_nil _ _ _ _ _|exact Kd.Q_nil _ _ _ _ _|exact Kd.S_nil _ _ _ _ _,by first|exact Kd.R_nil _ _ _ _ _|exact Kd.N_nil _ _ _ _ _|exact Kd.V_nil _ _ _ _ _|exact Kd.Q_nil _ _ _ _ _|exact Kd.S_nil _ _ _ _ _,by repeat (first|(with_reducible first|exact HB.out|apply zlA|apply zlN|apply zlD|refine zlS ?_ GE106.out)|exact HB.out)⟩
end Go.Proofs.Ytlegmnpngcadhaa.Print
end
section
namespace Go.Proofs.Ytlegmnpngcadhaa.Print
open Go.RowKit Go.Proofs.YtlegmnpngcadhaaW.PrintWords Go.Proofs.YtlegmnpngcadhaaW.PrintLast Go.Proofs.YtlegmnpngcadhaaW.PrintMore
attribute [local go_sem] max2_int min2_int max_two min_two max_three min_three max_four min_four   -- for this text's walks alone
attribute [local go_sem ↓] Go.Proofs.Ytlegmnpngcadhaa.Sem.isSome_setCell
attribute [local go_sem] Go.Instr.field Go.asAgg
set_option linter.unusedVariables false
set_option linter.unusedSimpArgs false
mutual
def slipwayref04_New.j0:Nat → Int → List Int → Bool → Option (List Int × List Int × Int)
 | 0,_,_,_=>none
 | k + 1,x0,x1,x14=>if x14=true then (some (([]:List Int),([]:List Int),20)) else (slipwayref04_New.l0 k x0 x1 0 ([]:List Int) ([]:List Int))
def slipwayref04_New.l0:Nat → Int → List Int → Int → List Int → List Int → Option (List Int × List Int × Int)
 | 0,_,_,_,_,_=>none
 | k + 1,x0,x1,x7,x123000,x123001=>if x7 < x0 then (if x123000.length < 17592186044416 then (if x123001.length < 17592186044416 then (slipwayref04_New.l0 k x0 x1 (wrap64 (x7 + 1)) (x123000 ++ [1]) (x123001 ++ [0])) else (none)) else (none)) else (slipwayref04_New.l1 k x0 x1 0 x123000 x123001)
def slipwayref04_New.l1:Nat → Int → List Int → Int → List Int → List Int → Option (List Int × List Int × Int)
 | 0,_,_,_,_,_=>none
 | k + 1,x0,x1,x8,x123000,x123001=>if x8 < (x1.length:Int) then (if 0≤x8 then (if (rd x1 x8) < 0 then (some (([]:List Int),([]:List Int),22)) else (if (rd x1 x8) ≥ x0 then (some (([]:List Int),([]:List Int),22)) else (if 0≤(rd x1 x8) then (if (rd x1 x8) < (x123000.length:Int) then (if (rd x123000 (rd x1 x8))=6 then (some (([]:List Int),([]:List Int),22)) else (slipwayref04_New.l1 k x0 x1 (wrap64 (x8 + 1)) (x123000.set ((rd x1 x8):Int).toNat 6) x123001)) else (none)) else (none)))) else (none)) else (some (x123000,x123001,0))
end
def slipwayref04_New.f (k:Nat) (a0:Int) (l1:List Int):Option (List Int × List Int × Int):=if a0 < 16 then (slipwayref04_New.j0 k a0 l1 true) else (slipwayref04_New.j0 k a0 l1 (decide (a0 > 256)))
def slipwayref04_New.T12:Bool × List (List Nat × List Nat):=(true,[([],[]),([],[]),([0,1],[0,1]),([2],[2]),([3],[3]),([4],[4]),([5],[5]),([5],[5]),([6,7,5],[5,6,7]),([8,5],[5,8]),([5],[5]),([9,10,5],[5,9,10]),([5,11],[5,11]),([12,5],[12]),([13],[13]),([14,13],[13,14]),([13],[13]),([13],[13]),([16,17,13],[13,16,17]),([18,13],[13,18]),([15,19,13],[13,15,19]),([20,13],[13,20]),([21,13],[13,21]),([13,22],[13,22])])
def slipwayref04_New.B12:List Nat:=[0,0,3,7,15,31,63,63,255,511,63,2047,4095,8191,16383,32767,16383,16383,212991,475135,1048575,2097151,4194303,8388607]
theorem slipwayref04_New.tab12:rtab .any (opsOf Try.f9 12)=slipwayref04_New.T12:=by kernel_rfl
theorem slipwayref04_New.bits12:waitsOk slipwayref04_New.T12.2 slipwayref04_New.B12=true:=by kernel_rfl
def slipwayref04_New.T14:Bool × List (List Nat × List Nat):=(true,[([],[]),([0],[0]),([],[]),([],[]),([2,3],[2,3]),([4],[4]),([1,5,0,1,2,3,4,5],[1,5]),([6,0,1,2,3,4,5],[6])])
def slipwayref04_New.B14:List Nat:=[0,1,0,0,12,28,63,127]
theorem slipwayref04_New.tab14:rtab .any (opsOf Try.f9 14)=slipwayref04_New.T14:=by kernel_rfl
theorem slipwayref04_New.bits14:waitsOk slipwayref04_New.T14.2 slipwayref04_New.B14=true:=by kernel_rfl
set_option maxHeartbeats 8000000 in
set_option maxRecDepth 100000 in
theorem slipwayref04_New.calls (k:Nat) (a0:Int) (A1:Option Addr) (c1:Nat) (l1:List Int) (r1:List Int) (r2:List Int) (r3:Int) (w:World) (hr1:Kd.C (Kd.int .i64) w A1 l1.length l1) (hc1:l1.length≤c1) (h:slipwayref04_New.f k a0 l1=some (r1,r2,r3)) :
  Calls Try.prog 9 #[.int .i64 a0,.slice A1 l1.length c1] w fun e w'=>∃ v0_ v1_:Value,e=.returned (.tuple #[.agg #[v0_,v1_],.int .i64 r3])∧Kd.R (Kd.int .i64) 3 w' w.heap.size (fun _=>True) v0_ r1∧Kd.R (Kd.int .i64) 2 w' w.heap.size (fun _=>True) v1_ r2∧Below w.heap.size w w':=by
 have hu25:=Try.underlying25
 have HR1:=zm hr1
 have HC1:=zm hc1
 clear hr1 hc1
 have HB:=zm (Below.refl w.heap.size w)
 have H:(if a0 < 16 then (slipwayref04_New.j0 k a0 l1 true) else (slipwayref04_New.j0 k a0 l1 (decide (a0 > 256))))=some (r1,r2,r3):=h
 clear h
 have HC3:=zm H
 clear H
 go_enter Try.func9,Try.ntmps9
 go_upto_region 1 with (first|((with_reducible refine gate_dst (N:=4) rfl ?_);refine box_event ?hg (N:=4) ?hd (cs:=#[.slice none 0 0,.slice none 0 0]) (t:=25) ?hr ?_;(case hd=>rfl);(case hg=>rfl);(case hr=>first|(go_simp;done)|(go_simp;rfl));intro gb121 hg w4 hbox hb;have n0_:=zm (below_step (by repeat (first|(with_reducible first|exact HB.out|apply zlA|apply zlN|apply zlD)|exact HB.out)) hb);have n1_:=zm (hbox);have n2_:=zm ((by rw [hg];exact (below_size (by repeat (first|(with_reducible first|exact HB.out|apply zlA|apply zlN|apply zlD)|exact HB.out))):w.heap.size≤gb121));have n3_:=zm ((by rw [hg];exact (below_size (by repeat (first|(with_reducible first|exact HB.out|apply zlA|apply zlN|apply zlD)|exact HB.out))):w.heap.size≤gb121));clear HB;have HB:=n0_;have BK121:=n1_;have GW121:=n2_;have GE121:=n3_;clear n0_ n1_ n2_ n3_;clear hb hbox hg))
 (try simp only [Act.put,List.setIfInBounds_toArray,List.set_cons_zero,List.set_cons_succ])
 go_cut [14] (fun v14 wc=>∃ (kq:Nat) (x14_2:Bool),v14=.bool x14_2∧Aside0 (slipwayref04_New.j0 kq a0 l1 x14_2=some (r1,r2,r3))∧Aside0 (kq≤k)∧Aside0 (wc.heap[gb121]?=some (.cells #[(.slice none 0 0),(.slice none 0 0)] 25 (0,0)))∧Aside0 (Below w.heap.size w wc))
 case first =>
  have H:=HC3.out
  clear HC3
  by_cases c5:a0 < 16
  ·rw [if_pos c5] at H
   have c5b0:decide (a0 < 16)=true:=decide_eq_true c5
   clear c5
   (first|rw [c5b0]|(simp only [i64_w,i32_w];rw [c5b0])|skip)
   have H':=zm H
   clear H
   go_wp2
   go_meet
   case rel=>exact ⟨_,(true),(by first|rfl|(simp;done)|(simp [*];done)),H',⟨by first|omega|exact Nat.le_refl _⟩,⟨by (with_reducible repeat (first|refine zbN ?_ _|refine zbD ?_|refine zbA ?_ _));exact BK121.out⟩,⟨by repeat (first|(with_reducible first|exact HB.out|apply zlA|apply zlN|apply zlD|refine zlS ?_ GE121.out)|exact HB.out)⟩⟩
  ·rw [if_neg c5] at H
   have c5b0:decide (a0 < 16)=false:=decide_eq_false c5
   clear c5
   (first|rw [c5b0]|(simp only [i64_w,i32_w];rw [c5b0])|skip)
   have H':=zm H
   clear H
   go_wp2
   go_meet
   case rel=>exact ⟨_,(decide (a0 > 256)),(by first|rfl|(simp;done)|(simp [*];done)),H',⟨by first|omega|exact Nat.le_refl _⟩,⟨by (with_reducible repeat (first|refine zbN ?_ _|refine zbD ?_|refine zbA ?_ _));exact BK121.out⟩,⟨by repeat (first|(with_reducible first|exact HB.out|apply zlA|apply zlN|apply zlD|refine zlS ?_ GE121.out)|exact HB.out)⟩⟩
 case rest =>
  clear HC3
  try clear c1
  try clear p2
  try clear c5
  try clear c5b0
  obtain ⟨kq,x14_2,rfl,HA,HJ2,BK121,HB⟩:=hcut
  cases kq with
  | zero=>exact absurd HA.out (by simp [slipwayref04_New.j0])
  | succ kj2 =>
   have H:=HA.out
   clear HA
   simp only [slipwayref04_New.j0] at H
   by_cases c6:x14_2=true
   ·subst c6
    have H1:(some (([]:List Int),([]:List Int),20))=some (r1,r2,r3):=by rw [if_pos rfl] at H;exact H
    clear H
    have H:=H1
    clear H1
    simp only [Option.some.injEq,Prod.mk.injEq] at H
    obtain ⟨rfl,rfl,rfl⟩:=H
    have hcz7_0:wc.cell? ⟨gb121,0,none⟩=some (.slice none 0 0):=(blk_cell BK121.out 0).trans rfl
    have hcz7_1:wc.cell? ⟨gb121,1,none⟩=some (.slice none 0 0):=(blk_cell BK121.out 1).trans rfl
    have hfz7_0:=blk_frozen BK121.out 0
    have hfz7_1:=blk_frozen BK121.out 1
    go_wp2
    refine bodyPost_ret (results_ct rfl _ _ gb121 25 #[.slice none 0 0,.slice none 0 0] (0,0) _ rfl (by (with_reducible repeat (first|refine zbN ?_ _|refine zbD ?_|refine zbA ?_ _));refine blk_put (cs:=#[.slice none 0 0,.slice none 0 0]) ?_ 1 _ rfl;(with_reducible repeat (first|refine zbN ?_ _|refine zbD ?_|refine zbA ?_ _));refine blk_put (cs:=#[.slice none 0 0,.slice none 0 0]) ?_ 0 _ rfl;(with_reducible repeat (first|refine zbN ?_ _|refine zbD ?_|refine zbA ?_ _));exact BK121.out) Try.underlying25 rfl (by kernel_rfl)) rfl ?_
    exact ⟨_,_,by first|rfl|(simp [errW_none,errW_some] <;> rfl)|(simp [*,errW_none,errW_some] <;> rfl),by first|exact Kd.R_nil _ _ _ _ _|exact Kd.N_nil _ _ _ _ _|exact Kd.V_nil _ _ _ _ _|exact Kd.Q_nil _ _ _ _ _|exact Kd.S_nil _ _ _ _ _,by first|exact Kd.R_nil _ _ _ _ _|exact Kd.N_nil _ _ _ _ _|exact Kd.V_nil _ _ _ _ _|exact Kd.Q_nil _ _ _ _ _|exact Kd.S_nil _ _ _ _ _,by repeat (first|(with_reducible first|exact HB.out|apply zlA|apply zlN|apply zlD|refine zlS ?_ GE121.out)|exact HB.out)⟩
   ·replace c6:=Bool.eq_false_iff.mpr c6
    subst c6
    have H1:(slipwayref04_New.l0 kj2 a0 l1 0 ([]:List Int) ([]:List Int))=some (r1,r2,r3):=by rw [if_neg (show ¬ (false=true) by decide)] at H;exact H
    clear H
    have H:=H1
    clear H1
    have H':=zm H
    clear H
    go_wp2_with (first|((with_reducible refine gate_dst (N:=6) rfl ?_);refine box_event ?hg (N:=6) ?hd (cs:=#[.slice none 0 0,.slice none 0 0]) (t:=25) ?hr ?_;(case hd=>rfl);(case hg=>rfl);(case hr=>first|(go_simp;done)|(go_simp;rfl));intro gb122 hg w8 hbox hb;have n0_:=zm (zbB (g:=gb121) (o:=.cells #[.slice none 0 0,.slice none 0 0] 25 (0,0)) (by (with_reducible repeat (first|refine zbN ?_ _|refine zbD ?_|refine zbA ?_ _));exact BK121.out) hb);have n1_:=zm (below_step (by repeat (first|(with_reducible first|exact HB.out|apply zlA|apply zlN|apply zlD|refine zlS ?_ GE121.out)|exact HB.out)) hb);have n2_:=zm (hbox);have n3_:=zm ((by rw [hg];exact (below_size (by repeat (first|(with_reducible first|exact HB.out|apply zlA|apply zlN|apply zlD|refine zlS ?_ GE121.out)|exact HB.out))):w.heap.size≤gb122));have n4_:=zm ((by rw [hg];exact (below_size (by repeat (first|(with_reducible first|exact HB.out|apply zlA|apply zlN|apply zlD|refine zlS ?_ GE121.out)|exact HB.out))):w.heap.size≤gb122));have n5_:=zm ((by rw [hg];exact Nat.ne_of_lt (blk_lt (g:=gb121) (o:=.cells #[.slice none 0 0,.slice none 0 0] 25 (0,0)) (by (with_reducible repeat (first|refine zbN ?_ _|refine zbD ?_|refine zbA ?_ _));exact BK121.out)):gb121≠gb122));have n6_:=zm ((by rw [hg];exact Nat.ne_of_gt (blk_lt (g:=gb121) (o:=.cells #[.slice none 0 0,.slice none 0 0] 25 (0,0)) (by (with_reducible repeat (first|refine zbN ?_ _|refine zbD ?_|refine zbA ?_ _));exact BK121.out)):gb122≠gb121));clear BK121 HB;have BK121:=n0_;have HB:=n1_;have BK122:=n2_;have GW122:=n3_;have GE122:=n4_;have NB121_122:=n5_;have NB122_121:=n6_;clear n0_ n1_ n2_ n3_ n4_ n5_ n6_;clear hb hbox hg;have hnb9:=NB122_121.out;have hnc9:=NB121_122.out;have hcz10_0:w8.cell? ⟨gb122,0,none⟩=some (.slice none 0 0):=(blk_cell BK122.out 0).trans rfl;have hcz10_1:w8.cell? ⟨gb122,1,none⟩=some (.slice none 0 0):=(blk_cell BK122.out 1).trans rfl;have hfz10_0:=blk_frozen BK122.out 0;have hfz10_1:=blk_frozen BK122.out 1))
    go_loopg [7] kj2 (fun kq v7 w'=>∃ (x7_2:Int) (x123000_2:List Int) (x123001_2:List Int) (u123000:Value) (u123001:Value),v7=.int .i64 x7_2∧Aside0 (slipwayref04_New.l0 kq a0 l1 x7_2 x123000_2 x123001_2=some (r1,r2,r3))∧Aside0 (kq≤kj2)∧Aside0 (Kd.R (Kd.int .i64) 3 w' w.heap.size (fun _=>True) u123000 x123000_2)∧Aside0 (Kd.R (Kd.int .i64) 2 w' w.heap.size (fun _=>True) u123001 x123001_2)∧Aside0 (w'.heap[gb121]?=some (.cells #[(.slice none 0 0),(.slice none 0 0)] 25 (0,0)))∧Aside0 (w'.heap[gb122]?=some (.cells #[u123000,u123001] 25 (0,0)))∧Aside0 (Below w.heap.size w w'))
    case atStart=>exact ⟨(0),(([]:List Int)),(([]:List Int)),(.slice none 0 0),(.slice none 0 0),(by first|rfl|(simp;done)|(simp [*];done)),H',⟨Nat.le_refl _⟩,⟨by first|exact Kd.R_nil _ _ _ _ _|exact Kd.N_nil _ _ _ _ _|exact Kd.V_nil _ _ _ _ _|exact Kd.Q_nil _ _ _ _ _|exact Kd.S_nil _ _ _ _ _⟩,⟨by first|exact Kd.R_nil _ _ _ _ _|exact Kd.N_nil _ _ _ _ _|exact Kd.V_nil _ _ _ _ _|exact Kd.Q_nil _ _ _ _ _|exact Kd.S_nil _ _ _ _ _⟩,⟨by (with_reducible repeat (first|refine zbN ?_ _|refine zbD ?_|refine zbA ?_ _));refine blk_far ?_ NB121_122.out _;(with_reducible repeat (first|refine zbN ?_ _|refine zbD ?_|refine zbA ?_ _));refine blk_far ?_ NB121_122.out _;(with_reducible repeat (first|refine zbN ?_ _|refine zbD ?_|refine zbA ?_ _));exact BK121.out⟩,⟨by (with_reducible repeat (first|refine zbN ?_ _|refine zbD ?_|refine zbA ?_ _));refine blk_put (cs:=#[.slice none 0 0,.slice none 0 0]) ?_ 1 _ rfl;(with_reducible repeat (first|refine zbN ?_ _|refine zbD ?_|refine zbA ?_ _));refine blk_put (cs:=#[.slice none 0 0,.slice none 0 0]) ?_ 0 _ rfl;(with_reducible repeat (first|refine zbN ?_ _|refine zbD ?_|refine zbA ?_ _));exact BK122.out⟩,⟨by repeat (first|(with_reducible first|exact HB.out|apply zlA|apply zlN|apply zlD|refine zlS ?_ GE121.out|refine zlS ?_ GE122.out)|exact HB.out)⟩⟩
    case round =>
     clear H'
     try clear c1
     try clear p2
     try clear c5
     try clear c5b0
     try clear c6
     try clear c9
     try clear hcz10_0
     try clear hcz10_1
     try clear hcz7_0
     try clear hcz7_1
     try clear hfz10_0
     try clear hfz10_1
     try clear hfz7_0
     try clear hfz7_1
     try clear p2
     obtain ⟨x7_2,x123000_2,x123001_2,u123000,u123001,rfl,HA,HK2,HO_123000,HO_123001,BK121,BK122,HB⟩:=hrel
     cases gk with
     | zero=>exact absurd HA.out (by simp [slipwayref04_New.l0])
     | succ k2 =>
      have H:=HA.out
      clear HA
      simp only [slipwayref04_New.l0] at H
      by_cases c11:x7_2 < a0
      ·rw [if_pos c11] at H
       have c11b0:decide (x7_2 < a0)=true:=decide_eq_true c11
       clear c11
       by_cases c12:x123000_2.length < 17592186044416
       ·rw [if_pos c12] at H
        have LMc12:=zm c12
        clear c12
        obtain ⟨y123,hy123⟩:∃ y_:List Int,y_=(x123000_2 ++ [1]):=⟨_,rfl⟩
        replace H:(if x123001_2.length < 17592186044416 then (slipwayref04_New.l0 k2 a0 l1 (wrap64 (x7_2 + 1)) y123 (x123001_2 ++ [0])) else (none))=some (r1,r2,r3):=by first|(rw [hy123];with_reducible exact H)|(have H2_:=(Option.bind_some _ _).symm.trans H;rw [hy123];with_reducible exact H2_)|(have H2_:=(Option.bind_some _ _).symm.trans H;with_reducible exact H2_)|with_reducible exact H|(rw [hy123];exact H)|exact H
        have Ny123:=zm hy123
        clear hy123
        by_cases c13:x123001_2.length < 17592186044416
        ·rw [if_pos c13] at H
         have LMc13:=zm c13
         clear c13
         obtain ⟨y126,hy126⟩:∃ y_:List Int,y_=(x123001_2 ++ [0]):=⟨_,rfl⟩
         replace H:(slipwayref04_New.l0 k2 a0 l1 (wrap64 (x7_2 + 1)) y123 y126)=some (r1,r2,r3):=by first|(rw [hy126];with_reducible exact H)|(have H2_:=(Option.bind_some _ _).symm.trans H;rw [hy126];with_reducible exact H2_)|(have H2_:=(Option.bind_some _ _).symm.trans H;with_reducible exact H2_)|with_reducible exact H|(rw [hy126];exact H)|exact H
         have Ny126:=zm hy126
         clear hy126
         have H':=zm H
         clear H
         have hnb14:=NB122_121.out
         have hnc14:=NB121_122.out
         have hcz15_0:wr.cell? ⟨gb122,0,none⟩=some (u123000):=(blk_cell BK122.out 0).trans rfl
         have hcz15_1:wr.cell? ⟨gb122,1,none⟩=some (u123001):=(blk_cell BK122.out 1).trans rfl
         have hfz15_0:=blk_frozen BK122.out 0
         have hfz15_1:=blk_frozen BK122.out 1
         go_wp2_with (first|((with_reducible refine gate_builtin (b:=.append) (xs:=#[.tmp 23,.tmp 24]) rfl ?_);at_builtin;refine Kd.R_append (Kd.int .i64) (w0:=w) w.heap.size rfl (.tmp 23) (.tmp 24) 22 3 (.int .i64 0) 8 rfl Try.underlying22 info3 rfl (by decide) (by omega) u123000 x123000_2 1 [.int .i64 1] (fun _=>True) (fun _=>False) rfl rfl ?aP (fun _ hk=>hk.elim) ?aF ?aO ?aB ?aS ?aL ?_;(case aP=>exact rfl);(case aB=>exact (by repeat (first|(with_reducible first|exact HB.out|apply zlA|apply zlN|apply zlD|refine zlS ?_ GE121.out|refine zlS ?_ GE122.out)|exact HB.out)));(case aF=>exact (fun _ _=>trivial));(case aO=>exact (by (with_reducible repeat (first|apply zrA|apply zrN|apply zrD));exact HO_123000.out));(case aS=>exact (below_size (by repeat (first|(with_reducible first|exact HB.out|apply zlA|apply zlN|apply zlD|refine zlS ?_ GE121.out|refine zlS ?_ GE122.out)|exact HB.out))));(case aL=>have:=LMc12.out;omega);intro v124 w16 ho hb hg hat;rw [← Ny123.out] at ho;have n0_:=zm (Kd.R_over' (by (with_reducible repeat (first|apply zrA|apply zrN|apply zrD));exact HO_123001.out) (Kd.R_typed (by (with_reducible repeat (first|apply zrA|apply zrN|apply zrD));exact HO_123000.out)) (by decide) hg);have n1_:=zm (blk_grown (g:=gb121) (o:=.cells #[.slice none 0 0,.slice none 0 0] 25 (0,0)) (by (with_reducible repeat (first|refine zbN ?_ _|refine zbD ?_|refine zbA ?_ _));exact BK121.out) hg (Kd.R_ne HO_123000.out BK121.out (by decide)));have n2_:=zm (blk_grown (g:=gb122) (o:=.cells #[u123000,u123001] 25 (0,0)) (by (with_reducible repeat (first|refine zbN ?_ _|refine zbD ?_|refine zbA ?_ _));exact BK122.out) hg (Kd.R_ne HO_123000.out BK122.out (by decide)));have n3_:=zm (hb);have n4_:=zm (ho);clear HO_123001 BK121 BK122 HB HO_123000;have HO_123001:=n0_;have BK121:=n1_;have BK122:=n2_;have HB:=n3_;have HO125:=n4_;clear n0_ n1_ n2_ n3_ n4_;clear ho hb hg hat;obtain ⟨Ao17,co17,eo17⟩:=Kd.R_slice HO125.out;subst eo17;have hcz18_0:w16.cell? ⟨gb122,0,none⟩=some (u123000):=(blk_cell BK122.out 0).trans rfl;have hcz18_1:w16.cell? ⟨gb122,1,none⟩=some (u123001):=(blk_cell BK122.out 1).trans rfl;have hfz18_0:=blk_frozen BK122.out 0;have hfz18_1:=blk_frozen BK122.out 1)|((with_reducible refine gate_builtin (b:=.append) (xs:=#[.tmp 28,.tmp 29]) rfl ?_);at_builtin;refine Kd.R_append (Kd.int .i64) (w0:=w) w.heap.size rfl (.tmp 28) (.tmp 29) 23 2 (.int .i64 0) 8 rfl Try.underlying23 info2 rfl (by decide) (by omega) u123001 x123001_2 0 [.int .i64 0] (fun _=>True) (fun _=>False) rfl (by first|(go_simp;done)|(go_simp;rfl)) ?aP (fun _ hk=>hk.elim) ?aF ?aO ?aB ?aS ?aL ?_;(case aP=>exact rfl);(case aB=>exact (by repeat (first|(with_reducible first|exact HB.out|apply zlA|apply zlN|apply zlD|refine zlS ?_ GE121.out|refine zlS ?_ GE122.out)|exact HB.out)));(case aF=>exact (fun _ _=>trivial));(case aO=>exact (by (with_reducible repeat (first|apply zrA|apply zrN|apply zrD));exact Kd.R_mono (Kd.R_far (p:=⟨gb122,0,none⟩) (Kd.R_types HO_123001.out BK122.out (by decide)) (fun _ hk=>hk.2) (.slice Ao17 y123.length co17)) (fun _ hk=>trivial)));(case aS=>exact (below_size (by repeat (first|(with_reducible first|exact HB.out|apply zlA|apply zlN|apply zlD|refine zlS ?_ GE121.out|refine zlS ?_ GE122.out)|exact HB.out))));(case aL=>have:=LMc13.out;omega);intro v127 w19 ho hb hg hat;rw [← Ny126.out] at ho;have n0_:=zm (blk_grown (g:=gb121) (o:=.cells #[.slice none 0 0,.slice none 0 0] 25 (0,0)) (by (with_reducible repeat (first|refine zbN ?_ _|refine zbD ?_|refine zbA ?_ _));refine blk_far ?_ NB121_122.out _;(with_reducible repeat (first|refine zbN ?_ _|refine zbD ?_|refine zbA ?_ _));exact BK121.out) hg (Kd.R_ne HO_123001.out BK121.out (by decide)));have n1_:=zm (blk_grown (g:=gb122) (o:=.cells #[.slice Ao17 y123.length co17,u123001] 25 (0,0)) (by (with_reducible repeat (first|refine zbN ?_ _|refine zbD ?_|refine zbA ?_ _));refine blk_put (cs:=#[u123000,u123001]) ?_ 0 _ rfl;(with_reducible repeat (first|refine zbN ?_ _|refine zbD ?_|refine zbA ?_ _));exact BK122.out) hg (Kd.R_ne HO_123001.out BK122.out (by decide)));have n2_:=zm (Kd.R_over' (by (with_reducible repeat (first|apply zrA|apply zrN|apply zrD));exact (Kd.R_mono (Kd.R_far (p:=⟨gb122,0,none⟩) (Kd.R_types HO125.out BK122.out (by decide)) (fun _ hk=>hk.2) (.slice Ao17 y123.length co17)) (fun _ h_=>h_.1))) (Kd.R_typed (by (with_reducible repeat (first|apply zrA|apply zrN|apply zrD));exact (Kd.R_mono (Kd.R_far (p:=⟨gb122,0,none⟩) (Kd.R_types HO_123001.out BK122.out (by decide)) (fun _ hk=>hk.2) (.slice Ao17 y123.length co17)) (fun _ h_=>h_.1)))) (by decide) hg);have n3_:=zm (hb);have n4_:=zm (ho);clear BK121 BK122 HO125 HB HO_123001;have BK121:=n0_;have BK122:=n1_;have HO125:=n2_;have HB:=n3_;have HO128:=n4_;clear n0_ n1_ n2_ n3_ n4_;clear ho hb hg hat;obtain ⟨Ao20,co20,eo20⟩:=Kd.R_slice HO128.out;subst eo20;have hcz21_0:w19.cell? ⟨gb122,0,none⟩=some (.slice Ao17 y123.length co17):=(blk_cell BK122.out 0).trans rfl;have hcz21_1:w19.cell? ⟨gb122,1,none⟩=some (u123001):=(blk_cell BK122.out 1).trans rfl;have hfz21_0:=blk_frozen BK122.out 0;have hfz21_1:=blk_frozen BK122.out 1))
         go_roundg k2
         case measure=>have:=HJ2.out;have:=HK2.out;omega
         case rel=>exact ⟨(wrap64 (x7_2 + 1)),(y123),(y126),(.slice Ao17 y123.length co17),(.slice Ao20 y126.length co20),(by first|rfl|(simp;done)|(simp [*];done)),H',⟨by have:=HJ2.out;have:=HK2.out;omega⟩,⟨by (with_reducible repeat (first|apply zrA|apply zrN|apply zrD));exact Kd.R_mono (Kd.R_far (p:=⟨gb122,1,none⟩) (Kd.R_types HO125.out BK122.out (by decide)) (fun _ hk=>hk.2) (.slice Ao20 y126.length co20)) (fun _ hk=>trivial)⟩,⟨by (with_reducible repeat (first|apply zrA|apply zrN|apply zrD));exact Kd.R_mono (Kd.R_far (p:=⟨gb122,1,none⟩) (Kd.R_types HO128.out BK122.out (by decide)) (fun _ hk=>hk.2) (.slice Ao20 y126.length co20)) (fun _ hk=>trivial)⟩,⟨by (with_reducible repeat (first|refine zbN ?_ _|refine zbD ?_|refine zbA ?_ _));refine blk_far ?_ NB121_122.out _;(with_reducible repeat (first|refine zbN ?_ _|refine zbD ?_|refine zbA ?_ _));exact BK121.out⟩,⟨by (with_reducible repeat (first|refine zbN ?_ _|refine zbD ?_|refine zbA ?_ _));refine blk_put (cs:=#[.slice Ao17 y123.length co17,u123001]) ?_ 1 _ rfl;(with_reducible repeat (first|refine zbN ?_ _|refine zbD ?_|refine zbA ?_ _));exact BK122.out⟩,⟨by repeat (first|(with_reducible first|exact HB.out|apply zlA|apply zlN|apply zlD|refine zlS ?_ GE121.out|refine zlS ?_ GE122.out)|exact HB.out)⟩⟩
        ·rw [if_neg c13] at H
         exact absurd H (by simp)
       ·rw [if_neg c12] at H
        exact absurd H (by simp)
      ·rw [if_neg c11] at H
       have c11b0:decide (x7_2 < a0)=false:=decide_eq_false c11
       clear c11
       have H':=zm H
       clear H
       go_wp2
       go_loopg [8] k2 (fun kq v8 w'=>∃ (x8_3:Int) (x123000_3:List Int) (u123000:Value),v8=.int .i64 x8_3∧Aside0 (slipwayref04_New.l1 kq a0 l1 x8_3 x123000_3 x123001_2=some (r1,r2,r3))∧Aside0 (kq≤k2)∧Aside0 (Kd.R (Kd.int .i64) 3 w' w.heap.size (fun _=>True) u123000 x123000_3)∧Aside0 (Kd.R (Kd.int .i64) 2 w' w.heap.size (fun _=>True) u123001 x123001_2)∧Aside0 (w'.heap[gb121]?=some (.cells #[(.slice none 0 0),(.slice none 0 0)] 25 (0,0)))∧Aside0 (w'.heap[gb122]?=some (.cells #[u123000,u123001] 25 (0,0)))∧Aside0 (Below w.heap.size w w'))
       case atStart=>exact ⟨(0),(x123000_2),(u123000),(by first|rfl|(simp;done)|(simp [*];done)),H',⟨Nat.le_refl _⟩,⟨by (with_reducible repeat (first|apply zrA|apply zrN|apply zrD));exact HO_123000.out⟩,⟨by (with_reducible repeat (first|apply zrA|apply zrN|apply zrD));exact HO_123001.out⟩,⟨by (with_reducible repeat (first|refine zbN ?_ _|refine zbD ?_|refine zbA ?_ _));exact BK121.out⟩,⟨by (with_reducible repeat (first|refine zbN ?_ _|refine zbD ?_|refine zbA ?_ _));exact BK122.out⟩,⟨by repeat (first|(with_reducible first|exact HB.out|apply zlA|apply zlN|apply zlD|refine zlS ?_ GE121.out|refine zlS ?_ GE122.out)|exact HB.out)⟩⟩
       case round =>
        clear H'
        try clear c1
        try clear p2
        try clear c5
        try clear c5b0
        try clear c6
        try clear p6
        try clear c9
        try clear c11
        try clear c11b0
        try clear c12
        try clear c13
        try clear c14
        try clear hcz10_0
        try clear hcz10_1
        try clear hcz15_0
        try clear hcz15_1
        try clear hcz18_0
        try clear hcz18_1
        try clear hcz21_0
        try clear hcz21_1
        try clear hcz7_0
        try clear hcz7_1
        try clear hfz10_0
        try clear hfz10_1
        try clear hfz15_0
        try clear hfz15_1
        try clear hfz18_0
        try clear hfz18_1
        try clear hfz21_0
        try clear hfz21_1
        try clear hfz7_0
        try clear hfz7_1
        try clear p2
        obtain ⟨x8_3,x123000_3,u123000,rfl,HA,HK3,HO_123000,HO_123001,BK121,BK122,HB⟩:=hrel
        cases gk with
        | zero=>exact absurd HA.out (by simp [slipwayref04_New.l1])
        | succ k3 =>
         have H:=HA.out
         clear HA
         simp only [slipwayref04_New.l1] at H
         by_cases c22:x8_3 < (l1.length:Int)
         ·rw [if_pos c22] at H
          have c22b0:decide (x8_3 < (l1.length:Int))=true:=decide_eq_true c22
          clear c22
          by_cases c23:0≤x8_3
          ·rw [if_pos c23] at H
           have c23b0:decide (0≤x8_3)=true:=decide_eq_true c23
           clear c23
           by_cases c24:(rd l1 x8_3) < 0
           ·rw [if_pos c24] at H
            have c24b0:decide ((rd l1 x8_3) < 0)=true:=decide_eq_true c24
            clear c24
            simp only [Option.some.injEq,Prod.mk.injEq] at H
            obtain ⟨rfl,rfl,rfl⟩:=H
            try go_wp2
            have n0_:=zm (zrD HO_123000.out)
            have n1_:=zm (zrD HO_123001.out)
            have n2_:=zm (zbD BK121.out)
            have n3_:=zm (zbD BK122.out)
            have n4_:=zm (zlD HB.out)
            clear HO_123000 HO_123001 BK121 BK122 HB
            have HO_123000:=n0_
            have HO_123001:=n1_
            have BK121:=n2_
            have BK122:=n3_
            have HB:=n4_
            clear n0_ n1_ n2_ n3_ n4_
            have p129:0≤(x8_3:Int):=of_decide_eq_true (by first|(with_reducible assumption)|assumption)
            have q129:x8_3 < (l1.length:Int):=of_decide_eq_true (by first|(with_reducible assumption)|assumption)
            obtain ⟨ad129,e129,hx129_0⟩:=Kd.at_int HR1.out x8_3 p129 q129
            have hw129_0:=hx129_0
            cases e129
            replace hx129_0:=(HB.out.cell (World.block_lt_of_cell? w _ hx129_0)).trans hx129_0
            replace p129:=eq_true p129
            replace q129:=eq_true q129
            refine start_ (n:=24) (S:=fun w'=>w'.cell? (ad129.add (x8_3).toNat)=some (.int .i64 (rd l1 x8_3))) (ds:=[]) #[false,false,false,false,false,false,false,false,false,false,false,false,false,false,false,false,false,false,false,false,false,false,false,false] (by kernel_rfl) rfl rfl (((HB.out.cell (World.block_lt_of_cell? w _ hw129_0)).trans hw129_0)) (fun hHeld=>?_);refine with_tabW slipwayref04_New.tab12 slipwayref04_New.bits12 (fun HT_ HW_=>?_)
            generalize wr.drew=w25 at HO_123000 HO_123001 BK121 BK122 HB hx129_0 hHeld ⊢
            refine pure_ (i:=0) (N:=some 38) (v:=?_) (a':=?_) #[true,false,false,false,false,false,false,false,false,false,false,false,false,false,false,false,false,false,false,false,false,false,false,false] rfl rfl (any_of HT_.out (by kernel_rfl)) (fun _ _ _ h=>h) (Or.inl ⟨by rfl,?_⟩) ?_ ?_
            rotate_left
            ·intro w'
             go_simp
             with_reducible rfl
            rotate_left
            ·simp only [Act.put,List.setIfInBounds_toArray,List.set_cons_zero,List.set_cons_succ,i64_w,i32_w]
             rfl
            refine pure_ (i:=1) (N:=some 39) (v:=?_) (a':=?_) #[true,true,false,false,false,false,false,false,false,false,false,false,false,false,false,false,false,false,false,false,false,false,false,false] rfl rfl (any_of HT_.out (by kernel_rfl)) (fun _ _ _ h=>h) (Or.inl ⟨by rfl,?_⟩) ?_ ?_
            rotate_left
            ·intro w'
             go_simp
             with_reducible rfl
            rotate_left
            ·simp only [Act.put,List.setIfInBounds_toArray,List.set_cons_zero,List.set_cons_succ,i64_w,i32_w]
             rfl
            refine pure_ (i:=2) (N:=some 40) (v:=?_) (a':=?_) #[true,true,true,false,false,false,false,false,false,false,false,false,false,false,false,false,false,false,false,false,false,false,false,false] rfl rfl (any_of HT_.out (by kernel_rfl)) (fun _ _ _ h=>h) (Or.inl ⟨by rfl,?_⟩) ?_ ?_
            rotate_left
            ·intro w'
             go_simp
             with_reducible rfl
            rotate_left
            ·simp only [Act.put,List.setIfInBounds_toArray,List.set_cons_zero,List.set_cons_succ,i64_w,i32_w]
             rfl
            refine take_ (i:=3) (N:=some 41) (v:=?_) (a':=?_) #[true,true,true,true,false,false,false,false,false,false,false,false,false,false,false,false,false,false,false,false,false,false,false,false] rfl rfl (take_ofW HT_.out HW_.out (by kernel_rfl)) (fun _ _ _ h=>h) (Or.inl ⟨by rfl,?_⟩) hHeld ?_ ?_
            rotate_left
            ·intro w' s0
             go_simp
             with_reducible rfl
            rotate_left
            ·simp only [Act.put,List.setIfInBounds_toArray,List.set_cons_zero,List.set_cons_succ,i64_w,i32_w]
             rfl
            refine pure_ (i:=4) (N:=some 42) (v:=?_) (a':=?_) #[true,true,true,true,true,false,false,false,false,false,false,false,false,false,false,false,false,false,false,false,false,false,false,false] rfl rfl (any_of HT_.out (by kernel_rfl)) (fun _ _ _ h=>h) (Or.inl ⟨by rfl,?_⟩) ?_ ?_
            rotate_left
            ·intro w'
             go_simp
             with_reducible rfl
            rotate_left
            ·simp only [Act.put,List.setIfInBounds_toArray,List.set_cons_zero,List.set_cons_succ,i64_w,i32_w]
             rfl
            refine pure_ (i:=5) (N:=some 43) (v:=?_) (a':=?_) #[true,true,true,true,true,true,false,false,false,false,false,false,false,false,false,false,false,false,false,false,false,false,false,false] rfl rfl (any_of HT_.out (by kernel_rfl)) (fun _ _ _ h=>h) (Or.inl ⟨by rfl,?_⟩) ?_ ?_
            rotate_left
            ·intro w'
             go_simp
             with_reducible rfl
            rotate_left
            ·simp only [Act.put,List.setIfInBounds_toArray,List.set_cons_zero,List.set_cons_succ,i64_w,i32_w]
             rfl
            refine pure_ (i:=6) (N:=some 44) (v:=undef) (a':=?_) #[true,true,true,true,true,true,true,false,false,false,false,false,false,false,false,false,false,false,false,false,false,false,false,false] rfl rfl (any_of HT_.out (by kernel_rfl)) (fun _ _ _ h=>h) (Or.inr ⟨by rfl,rfl⟩) ?_ ?_
            rotate_left
            ·simp only [Act.put,List.setIfInBounds_toArray,List.set_cons_zero,List.set_cons_succ,i64_w,i32_w]
             rfl
            refine pure_ (i:=7) (N:=some 45) (v:=undef) (a':=?_) #[true,true,true,true,true,true,true,true,false,false,false,false,false,false,false,false,false,false,false,false,false,false,false,false] rfl rfl (any_of HT_.out (by kernel_rfl)) (fun _ _ _ h=>h) (Or.inr ⟨by rfl,rfl⟩) ?_ ?_
            rotate_left
            ·simp only [Act.put,List.setIfInBounds_toArray,List.set_cons_zero,List.set_cons_succ,i64_w,i32_w]
             rfl
            refine pure_ (i:=8) (N:=some 46) (v:=undef) (a':=?_) #[true,true,true,true,true,true,true,true,true,false,false,false,false,false,false,false,false,false,false,false,false,false,false,false] rfl rfl (any_of HT_.out (by kernel_rfl)) (fun _ _ _ h=>h) (Or.inr ⟨by rfl,rfl⟩) ?_ ?_
            rotate_left
            ·simp only [Act.put,List.setIfInBounds_toArray,List.set_cons_zero,List.set_cons_succ,i64_w,i32_w]
             rfl
            refine pure_ (i:=9) (N:=some 47) (v:=undef) (a':=?_) #[true,true,true,true,true,true,true,true,true,true,false,false,false,false,false,false,false,false,false,false,false,false,false,false] rfl rfl (any_of HT_.out (by kernel_rfl)) (fun _ _ _ h=>h) (Or.inr ⟨by rfl,rfl⟩) ?_ ?_
            rotate_left
            ·simp only [Act.put,List.setIfInBounds_toArray,List.set_cons_zero,List.set_cons_succ,i64_w,i32_w]
             rfl
            refine pure_ (i:=10) (N:=some 48) (v:=undef) (a':=?_) #[true,true,true,true,true,true,true,true,true,true,true,false,false,false,false,false,false,false,false,false,false,false,false,false] rfl rfl (any_of HT_.out (by kernel_rfl)) (fun _ _ _ h=>h) (Or.inr ⟨by rfl,rfl⟩) ?_ ?_
            rotate_left
            ·simp only [Act.put,List.setIfInBounds_toArray,List.set_cons_zero,List.set_cons_succ,i64_w,i32_w]
             rfl
            refine pure_ (i:=11) (N:=some 49) (v:=undef) (a':=?_) #[true,true,true,true,true,true,true,true,true,true,true,true,false,false,false,false,false,false,false,false,false,false,false,false] rfl rfl (any_of HT_.out (by kernel_rfl)) (fun _ _ _ h=>h) (Or.inr ⟨by rfl,rfl⟩) ?_ ?_
            rotate_left
            ·simp only [Act.put,List.setIfInBounds_toArray,List.set_cons_zero,List.set_cons_succ,i64_w,i32_w]
             rfl
            refine pure_ (i:=12) (N:=some 50) (v:=?_) (a':=?_) #[true,true,true,true,true,true,true,true,true,true,true,true,true,false,false,false,false,false,false,false,false,false,false,false] rfl rfl (any_of HT_.out (by kernel_rfl)) (fun _ _ _ h=>h) (Or.inl ⟨by rfl,?_⟩) ?_ ?_
            rotate_left
            ·intro w'
             go_simp
             with_reducible rfl
            rotate_left
            ·simp only [Act.put,List.setIfInBounds_toArray,List.set_cons_zero,List.set_cons_succ,i64_w,i32_w]
             rfl
            refine pure_ (i:=13) (N:=some 51) (v:=?_) (a':=?_) #[true,true,true,true,true,true,true,true,true,true,true,true,true,true,false,false,false,false,false,false,false,false,false,false] rfl rfl (any_of HT_.out (by kernel_rfl)) (fun _ _ _ h=>h) (Or.inl ⟨by rfl,?_⟩) ?_ ?_
            rotate_left
            ·intro w'
             go_simp
             with_reducible rfl
            rotate_left
            ·simp only [Act.put,List.setIfInBounds_toArray,List.set_cons_zero,List.set_cons_succ,i64_w,i32_w]
             rfl
            refine pure_ (i:=14) (N:=some 52) (v:=undef) (a':=?_) #[true,true,true,true,true,true,true,true,true,true,true,true,true,true,true,false,false,false,false,false,false,false,false,false] rfl rfl (any_of HT_.out (by kernel_rfl)) (fun _ _ _ h=>h) (Or.inr ⟨by rfl,rfl⟩) ?_ ?_
            rotate_left
            ·simp only [Act.put,List.setIfInBounds_toArray,List.set_cons_zero,List.set_cons_succ,i64_w,i32_w]
             rfl
            refine pure_ (i:=15) (N:=some 53) (v:=undef) (a':=?_) #[true,true,true,true,true,true,true,true,true,true,true,true,true,true,true,true,false,false,false,false,false,false,false,false] rfl rfl (any_of HT_.out (by kernel_rfl)) (fun _ _ _ h=>h) (Or.inr ⟨by rfl,rfl⟩) ?_ ?_
            rotate_left
            ·simp only [Act.put,List.setIfInBounds_toArray,List.set_cons_zero,List.set_cons_succ,i64_w,i32_w]
             rfl
            refine pure_ (i:=16) (N:=some 54) (v:=undef) (a':=?_) #[true,true,true,true,true,true,true,true,true,true,true,true,true,true,true,true,true,false,false,false,false,false,false,false] rfl rfl (any_of HT_.out (by kernel_rfl)) (fun _ _ _ h=>h) (Or.inr ⟨by rfl,rfl⟩) ?_ ?_
            rotate_left
            ·simp only [Act.put,List.setIfInBounds_toArray,List.set_cons_zero,List.set_cons_succ,i64_w,i32_w]
             rfl
            refine pure_ (i:=17) (N:=some 55) (v:=undef) (a':=?_) #[true,true,true,true,true,true,true,true,true,true,true,true,true,true,true,true,true,true,false,false,false,false,false,false] rfl rfl (any_of HT_.out (by kernel_rfl)) (fun _ _ _ h=>h) (Or.inr ⟨by rfl,rfl⟩) ?_ ?_
            rotate_left
            ·simp only [Act.put,List.setIfInBounds_toArray,List.set_cons_zero,List.set_cons_succ,i64_w,i32_w]
             rfl
            refine pure_ (i:=18) (N:=some 56) (v:=undef) (a':=?_) #[true,true,true,true,true,true,true,true,true,true,true,true,true,true,true,true,true,true,true,false,false,false,false,false] rfl rfl (any_of HT_.out (by kernel_rfl)) (fun _ _ _ h=>h) (Or.inr ⟨by rfl,rfl⟩) ?_ ?_
            rotate_left
            ·simp only [Act.put,List.setIfInBounds_toArray,List.set_cons_zero,List.set_cons_succ,i64_w,i32_w]
             rfl
            refine pure_ (i:=19) (N:=some 57) (v:=undef) (a':=?_) #[true,true,true,true,true,true,true,true,true,true,true,true,true,true,true,true,true,true,true,true,false,false,false,false] rfl rfl (any_of HT_.out (by kernel_rfl)) (fun _ _ _ h=>h) (Or.inr ⟨by rfl,rfl⟩) ?_ ?_
            rotate_left
            ·simp only [Act.put,List.setIfInBounds_toArray,List.set_cons_zero,List.set_cons_succ,i64_w,i32_w]
             rfl
            refine pure_ (i:=20) (N:=some 58) (v:=undef) (a':=?_) #[true,true,true,true,true,true,true,true,true,true,true,true,true,true,true,true,true,true,true,true,true,false,false,false] rfl rfl (any_of HT_.out (by kernel_rfl)) (fun _ _ _ h=>h) (Or.inr ⟨by rfl,rfl⟩) ?_ ?_
            rotate_left
            ·simp only [Act.put,List.setIfInBounds_toArray,List.set_cons_zero,List.set_cons_succ,i64_w,i32_w]
             rfl
            refine pure_ (i:=21) (N:=some 59) (v:=undef) (a':=?_) #[true,true,true,true,true,true,true,true,true,true,true,true,true,true,true,true,true,true,true,true,true,true,false,false] rfl rfl (any_of HT_.out (by kernel_rfl)) (fun _ _ _ h=>h) (Or.inr ⟨by rfl,rfl⟩) ?_ ?_
            rotate_left
            ·simp only [Act.put,List.setIfInBounds_toArray,List.set_cons_zero,List.set_cons_succ,i64_w,i32_w]
             rfl
            refine pure_ (i:=22) (N:=some 60) (v:=undef) (a':=?_) #[true,true,true,true,true,true,true,true,true,true,true,true,true,true,true,true,true,true,true,true,true,true,true,false] rfl rfl (any_of HT_.out (by kernel_rfl)) (fun _ _ _ h=>h) (Or.inr ⟨by rfl,rfl⟩) ?_ ?_
            rotate_left
            ·simp only [Act.put,List.setIfInBounds_toArray,List.set_cons_zero,List.set_cons_succ,i64_w,i32_w]
             rfl
            refine pure_ (i:=23) (N:=some 61) (v:=?_) (a':=?_) #[true,true,true,true,true,true,true,true,true,true,true,true,true,true,true,true,true,true,true,true,true,true,true,true] rfl rfl (any_of HT_.out (by kernel_rfl)) (fun _ _ _ h=>h) (Or.inl ⟨by rfl,?_⟩) ?_ ?_
            rotate_left
            ·intro w'
             go_simp
             with_reducible rfl
            rotate_left
            ·simp only [Act.put,List.setIfInBounds_toArray,List.set_cons_zero,List.set_cons_succ,i64_w,i32_w]
             rfl
            refine done_ (done_of HT_.out (by kernel_rfl)) ?_
            have hnb26:=NB121_122.out
            have hnc26:=NB122_121.out
            have hcz27_0:w25.cell? ⟨gb121,0,none⟩=some (.slice none 0 0):=(blk_cell BK121.out 0).trans rfl
            have hcz27_1:w25.cell? ⟨gb121,1,none⟩=some (.slice none 0 0):=(blk_cell BK121.out 1).trans rfl
            have hfz27_0:=blk_frozen BK121.out 0
            have hfz27_1:=blk_frozen BK121.out 1
            try go_wp2
            refine bodyPost_ret (results_ct rfl _ _ gb121 25 #[.slice none 0 0,.slice none 0 0] (0,0) _ rfl (by (with_reducible repeat (first|refine zbN ?_ _|refine zbD ?_|refine zbA ?_ _));refine blk_put (cs:=#[.slice none 0 0,.slice none 0 0]) ?_ 1 _ rfl;(with_reducible repeat (first|refine zbN ?_ _|refine zbD ?_|refine zbA ?_ _));refine blk_put (cs:=#[.slice none 0 0,.slice none 0 0]) ?_ 0 _ rfl;(with_reducible repeat (first|refine zbN ?_ _|refine zbD ?_|refine zbA ?_ _));exact BK121.out) Try.underlying25 rfl (by kernel_rfl)) rfl ?_
            exact ⟨_,_,by first|rfl|(simp [errW_none,errW_some] <;> rfl)|(simp [*,errW_none,errW_some] <;> rfl),by first|exact Kd.R_nil _ _ _ _ _|exact Kd.N_nil _ _ _ _ _|exact Kd.V_nil _ _ _ _ _|exact Kd.Q_nil _ _ _ _ _|exact Kd.S_nil _ _ _ _ _,by first|exact Kd.R_nil _ _ _ _ _|exact Kd.N_nil _ _ _ _ _|exact Kd.V_nil _ _ _ _ _|exact Kd.Q_nil _ _ _ _ _|exact Kd.S_nil _ _ _ _ _,by repeat (first|(with_reducible first|exact HB.out|apply zlA|apply zlN|apply zlD|refine zlS ?_ GE121.out|refine zlS ?_ GE122.out)|exact HB.out)⟩
           ·rw [if_neg c24] at H
            have c24b0:decide ((rd l1 x8_3) < 0)=false:=decide_eq_false c24
            clear c24
            by_cases c28:(rd l1 x8_3) ≥ a0
            ·rw [if_pos c28] at H
             have c28b0:decide (a0≤(rd l1 x8_3))=true:=decide_eq_true c28
             clear c28
             simp only [Option.some.injEq,Prod.mk.injEq] at H
             obtain ⟨rfl,rfl,rfl⟩:=H
             try go_wp2
             have n0_:=zm (zrD HO_123000.out)
             have n1_:=zm (zrD HO_123001.out)
             have n2_:=zm (zbD BK121.out)
             have n3_:=zm (zbD BK122.out)
             have n4_:=zm (zlD HB.out)
             clear HO_123000 HO_123001 BK121 BK122 HB
             have HO_123000:=n0_
             have HO_123001:=n1_
             have BK121:=n2_
             have BK122:=n3_
             have HB:=n4_
             clear n0_ n1_ n2_ n3_ n4_
             have p129:0≤(x8_3:Int):=of_decide_eq_true (by first|(with_reducible assumption)|assumption)
             have q129:x8_3 < (l1.length:Int):=of_decide_eq_true (by first|(with_reducible assumption)|assumption)
             obtain ⟨ad129,e129,hx129_0⟩:=Kd.at_int HR1.out x8_3 p129 q129
             have hw129_0:=hx129_0
             cases e129
             replace hx129_0:=(HB.out.cell (World.block_lt_of_cell? w _ hx129_0)).trans hx129_0
             replace p129:=eq_true p129
             replace q129:=eq_true q129
             have p130:0≤(x8_3:Int):=of_decide_eq_true (by first|(with_reducible assumption)|assumption)
             have q130:x8_3 < (l1.length:Int):=of_decide_eq_true (by first|(with_reducible assumption)|assumption)
             obtain ⟨ad130,e130,hx130_0⟩:=Kd.at_int HR1.out x8_3 p130 q130
             have hw130_0:=hx130_0
             obtain rfl:ad129=ad130:=(by injection e130)
             replace hx130_0:=(HB.out.cell (World.block_lt_of_cell? w _ hx130_0)).trans hx130_0
             replace p130:=eq_true p130
             replace q130:=eq_true q130
             refine start_ (n:=24) (S:=fun w'=>w'.cell? (ad129.add (x8_3).toNat)=some (.int .i64 (rd l1 x8_3))∧w'.cell? (ad129.add (x8_3).toNat)=some (.int .i64 (rd l1 x8_3))) (ds:=[]) #[false,false,false,false,false,false,false,false,false,false,false,false,false,false,false,false,false,false,false,false,false,false,false,false] (by kernel_rfl) rfl rfl ⟨((HB.out.cell (World.block_lt_of_cell? w _ hw129_0)).trans hw129_0),((HB.out.cell (World.block_lt_of_cell? w _ hw130_0)).trans hw130_0)⟩ (fun hHeld=>?_);refine with_tabW slipwayref04_New.tab12 slipwayref04_New.bits12 (fun HT_ HW_=>?_)
             generalize wr.drew=w29 at HO_123000 HO_123001 BK121 BK122 HB hx129_0 hx130_0 hHeld ⊢
             refine pure_ (i:=0) (N:=some 38) (v:=?_) (a':=?_) #[true,false,false,false,false,false,false,false,false,false,false,false,false,false,false,false,false,false,false,false,false,false,false,false] rfl rfl (any_of HT_.out (by kernel_rfl)) (fun _ _ _ h=>h) (Or.inl ⟨by rfl,?_⟩) ?_ ?_
             rotate_left
             ·intro w'
              go_simp
              with_reducible rfl
             rotate_left
             ·simp only [Act.put,List.setIfInBounds_toArray,List.set_cons_zero,List.set_cons_succ,i64_w,i32_w]
              rfl
             refine pure_ (i:=1) (N:=some 39) (v:=?_) (a':=?_) #[true,true,false,false,false,false,false,false,false,false,false,false,false,false,false,false,false,false,false,false,false,false,false,false] rfl rfl (any_of HT_.out (by kernel_rfl)) (fun _ _ _ h=>h) (Or.inl ⟨by rfl,?_⟩) ?_ ?_
             rotate_left
             ·intro w'
              go_simp
              with_reducible rfl
             rotate_left
             ·simp only [Act.put,List.setIfInBounds_toArray,List.set_cons_zero,List.set_cons_succ,i64_w,i32_w]
              rfl
             refine pure_ (i:=2) (N:=some 40) (v:=?_) (a':=?_) #[true,true,true,false,false,false,false,false,false,false,false,false,false,false,false,false,false,false,false,false,false,false,false,false] rfl rfl (any_of HT_.out (by kernel_rfl)) (fun _ _ _ h=>h) (Or.inl ⟨by rfl,?_⟩) ?_ ?_
             rotate_left
             ·intro w'
              go_simp
              with_reducible rfl
             rotate_left
             ·simp only [Act.put,List.setIfInBounds_toArray,List.set_cons_zero,List.set_cons_succ,i64_w,i32_w]
              rfl
             refine take_ (i:=3) (N:=some 41) (v:=?_) (a':=?_) #[true,true,true,true,false,false,false,false,false,false,false,false,false,false,false,false,false,false,false,false,false,false,false,false] rfl rfl (take_ofW HT_.out HW_.out (by kernel_rfl)) (fun _ _ _ h=>h) (Or.inl ⟨by rfl,?_⟩) hHeld ?_ ?_
             rotate_left
             ·rintro w' ⟨s0,s1⟩
              go_simp
              with_reducible rfl
             rotate_left
             ·simp only [Act.put,List.setIfInBounds_toArray,List.set_cons_zero,List.set_cons_succ,i64_w,i32_w]
              rfl
             refine pure_ (i:=4) (N:=some 42) (v:=?_) (a':=?_) #[true,true,true,true,true,false,false,false,false,false,false,false,false,false,false,false,false,false,false,false,false,false,false,false] rfl rfl (any_of HT_.out (by kernel_rfl)) (fun _ _ _ h=>h) (Or.inl ⟨by rfl,?_⟩) ?_ ?_
             rotate_left
             ·intro w'
              go_simp
              with_reducible rfl
             rotate_left
             ·simp only [Act.put,List.setIfInBounds_toArray,List.set_cons_zero,List.set_cons_succ,i64_w,i32_w]
              rfl
             refine pure_ (i:=5) (N:=some 43) (v:=?_) (a':=?_) #[true,true,true,true,true,true,false,false,false,false,false,false,false,false,false,false,false,false,false,false,false,false,false,false] rfl rfl (any_of HT_.out (by kernel_rfl)) (fun _ _ _ h=>h) (Or.inl ⟨by rfl,?_⟩) ?_ ?_
             rotate_left
             ·intro w'
              go_simp
              with_reducible rfl
             rotate_left
             ·simp only [Act.put,List.setIfInBounds_toArray,List.set_cons_zero,List.set_cons_succ,i64_w,i32_w]
              rfl
             refine pure_ (i:=6) (N:=some 44) (v:=?_) (a':=?_) #[true,true,true,true,true,true,true,false,false,false,false,false,false,false,false,false,false,false,false,false,false,false,false,false] rfl rfl (any_of HT_.out (by kernel_rfl)) (fun _ _ _ h=>h) (Or.inl ⟨by rfl,?_⟩) ?_ ?_
             rotate_left
             ·intro w'
              go_simp
              with_reducible rfl
             rotate_left
             ·simp only [Act.put,List.setIfInBounds_toArray,List.set_cons_zero,List.set_cons_succ,i64_w,i32_w]
              rfl
             refine pure_ (i:=7) (N:=some 45) (v:=?_) (a':=?_) #[true,true,true,true,true,true,true,true,false,false,false,false,false,false,false,false,false,false,false,false,false,false,false,false] rfl rfl (any_of HT_.out (by kernel_rfl)) (fun _ _ _ h=>h) (Or.inl ⟨by rfl,?_⟩) ?_ ?_
             rotate_left
             ·intro w'
              go_simp
              with_reducible rfl
             rotate_left
             ·simp only [Act.put,List.setIfInBounds_toArray,List.set_cons_zero,List.set_cons_succ,i64_w,i32_w]
              rfl
             refine pure_ (i:=8) (N:=some 46) (v:=?_) (a':=?_) #[true,true,true,true,true,true,true,true,true,false,false,false,false,false,false,false,false,false,false,false,false,false,false,false] rfl rfl (any_of HT_.out (by kernel_rfl)) (fun _ _ _ h=>h) (Or.inl ⟨by rfl,?_⟩) ?_ ?_
             rotate_left
             ·intro w'
              go_simp
              with_reducible rfl
             rotate_left
             ·simp only [Act.put,List.setIfInBounds_toArray,List.set_cons_zero,List.set_cons_succ,i64_w,i32_w]
              rfl
             refine pure_ (i:=10) (N:=some 48) (v:=?_) (a':=?_) #[true,true,true,true,true,true,true,true,true,false,true,false,false,false,false,false,false,false,false,false,false,false,false,false] rfl rfl (any_of HT_.out (by kernel_rfl)) (fun _ _ _ h=>h) (Or.inl ⟨by rfl,?_⟩) ?_ ?_
             rotate_left
             ·intro w'
              go_simp
              with_reducible rfl
             rotate_left
             ·simp only [Act.put,List.setIfInBounds_toArray,List.set_cons_zero,List.set_cons_succ,i64_w,i32_w]
              rfl
             refine take_ (i:=9) (N:=some 47) (v:=?_) (a':=?_) #[true,true,true,true,true,true,true,true,true,true,true,false,false,false,false,false,false,false,false,false,false,false,false,false] rfl rfl (take_ofW HT_.out HW_.out (by kernel_rfl)) (fun _ _ _ h=>h) (Or.inl ⟨by rfl,?_⟩) hHeld ?_ ?_
             rotate_left
             ·rintro w' ⟨s0,s1⟩
              go_simp
              with_reducible rfl
             rotate_left
             ·simp only [Act.put,List.setIfInBounds_toArray,List.set_cons_zero,List.set_cons_succ,i64_w,i32_w]
              rfl
             refine pure_ (i:=11) (N:=some 49) (v:=?_) (a':=?_) #[true,true,true,true,true,true,true,true,true,true,true,true,false,false,false,false,false,false,false,false,false,false,false,false] rfl rfl (any_of HT_.out (by kernel_rfl)) (fun _ _ _ h=>h) (Or.inl ⟨by rfl,?_⟩) ?_ ?_
             rotate_left
             ·intro w'
              go_simp
              with_reducible rfl
             rotate_left
             ·simp only [Act.put,List.setIfInBounds_toArray,List.set_cons_zero,List.set_cons_succ,i64_w,i32_w]
              rfl
             refine pure_ (i:=12) (N:=some 50) (v:=?_) (a':=?_) #[true,true,true,true,true,true,true,true,true,true,true,true,true,false,false,false,false,false,false,false,false,false,false,false] rfl rfl (any_of HT_.out (by kernel_rfl)) (fun _ _ _ h=>h) (Or.inl ⟨by rfl,?_⟩) ?_ ?_
             rotate_left
             ·intro w'
              go_simp
              with_reducible rfl
             rotate_left
             ·simp only [Act.put,List.setIfInBounds_toArray,List.set_cons_zero,List.set_cons_succ,i64_w,i32_w]
              rfl
             refine pure_ (i:=13) (N:=some 51) (v:=?_) (a':=?_) #[true,true,true,true,true,true,true,true,true,true,true,true,true,true,false,false,false,false,false,false,false,false,false,false] rfl rfl (any_of HT_.out (by kernel_rfl)) (fun _ _ _ h=>h) (Or.inl ⟨by rfl,?_⟩) ?_ ?_
             rotate_left
             ·intro w'
              go_simp
              with_reducible rfl
             rotate_left
             ·simp only [Act.put,List.setIfInBounds_toArray,List.set_cons_zero,List.set_cons_succ,i64_w,i32_w]
              rfl
             refine pure_ (i:=14) (N:=some 52) (v:=undef) (a':=?_) #[true,true,true,true,true,true,true,true,true,true,true,true,true,true,true,false,false,false,false,false,false,false,false,false] rfl rfl (any_of HT_.out (by kernel_rfl)) (fun _ _ _ h=>h) (Or.inr ⟨by rfl,rfl⟩) ?_ ?_
             rotate_left
             ·simp only [Act.put,List.setIfInBounds_toArray,List.set_cons_zero,List.set_cons_succ,i64_w,i32_w]
              rfl
             refine pure_ (i:=15) (N:=some 53) (v:=undef) (a':=?_) #[true,true,true,true,true,true,true,true,true,true,true,true,true,true,true,true,false,false,false,false,false,false,false,false] rfl rfl (any_of HT_.out (by kernel_rfl)) (fun _ _ _ h=>h) (Or.inr ⟨by rfl,rfl⟩) ?_ ?_
             rotate_left
             ·simp only [Act.put,List.setIfInBounds_toArray,List.set_cons_zero,List.set_cons_succ,i64_w,i32_w]
              rfl
             refine pure_ (i:=16) (N:=some 54) (v:=undef) (a':=?_) #[true,true,true,true,true,true,true,true,true,true,true,true,true,true,true,true,true,false,false,false,false,false,false,false] rfl rfl (any_of HT_.out (by kernel_rfl)) (fun _ _ _ h=>h) (Or.inr ⟨by rfl,rfl⟩) ?_ ?_
             rotate_left
             ·simp only [Act.put,List.setIfInBounds_toArray,List.set_cons_zero,List.set_cons_succ,i64_w,i32_w]
              rfl
             refine pure_ (i:=17) (N:=some 55) (v:=undef) (a':=?_) #[true,true,true,true,true,true,true,true,true,true,true,true,true,true,true,true,true,true,false,false,false,false,false,false] rfl rfl (any_of HT_.out (by kernel_rfl)) (fun _ _ _ h=>h) (Or.inr ⟨by rfl,rfl⟩) ?_ ?_
             rotate_left
             ·simp only [Act.put,List.setIfInBounds_toArray,List.set_cons_zero,List.set_cons_succ,i64_w,i32_w]
              rfl
             refine pure_ (i:=18) (N:=some 56) (v:=undef) (a':=?_) #[true,true,true,true,true,true,true,true,true,true,true,true,true,true,true,true,true,true,true,false,false,false,false,false] rfl rfl (any_of HT_.out (by kernel_rfl)) (fun _ _ _ h=>h) (Or.inr ⟨by rfl,rfl⟩) ?_ ?_
             rotate_left
             ·simp only [Act.put,List.setIfInBounds_toArray,List.set_cons_zero,List.set_cons_succ,i64_w,i32_w]
              rfl
             refine pure_ (i:=19) (N:=some 57) (v:=undef) (a':=?_) #[true,true,true,true,true,true,true,true,true,true,true,true,true,true,true,true,true,true,true,true,false,false,false,false] rfl rfl (any_of HT_.out (by kernel_rfl)) (fun _ _ _ h=>h) (Or.inr ⟨by rfl,rfl⟩) ?_ ?_
             rotate_left
             ·simp only [Act.put,List.setIfInBounds_toArray,List.set_cons_zero,List.set_cons_succ,i64_w,i32_w]
              rfl
             refine pure_ (i:=20) (N:=some 58) (v:=undef) (a':=?_) #[true,true,true,true,true,true,true,true,true,true,true,true,true,true,true,true,true,true,true,true,true,false,false,false] rfl rfl (any_of HT_.out (by kernel_rfl)) (fun _ _ _ h=>h) (Or.inr ⟨by rfl,rfl⟩) ?_ ?_
             rotate_left
             ·simp only [Act.put,List.setIfInBounds_toArray,List.set_cons_zero,List.set_cons_succ,i64_w,i32_w]
              rfl
             refine pure_ (i:=21) (N:=some 59) (v:=undef) (a':=?_) #[true,true,true,true,true,true,true,true,true,true,true,true,true,true,true,true,true,true,true,true,true,true,false,false] rfl rfl (any_of HT_.out (by kernel_rfl)) (fun _ _ _ h=>h) (Or.inr ⟨by rfl,rfl⟩) ?_ ?_
             rotate_left
             ·simp only [Act.put,List.setIfInBounds_toArray,List.set_cons_zero,List.set_cons_succ,i64_w,i32_w]
              rfl
             refine pure_ (i:=22) (N:=some 60) (v:=undef) (a':=?_) #[true,true,true,true,true,true,true,true,true,true,true,true,true,true,true,true,true,true,true,true,true,true,true,false] rfl rfl (any_of HT_.out (by kernel_rfl)) (fun _ _ _ h=>h) (Or.inr ⟨by rfl,rfl⟩) ?_ ?_
             rotate_left
             ·simp only [Act.put,List.setIfInBounds_toArray,List.set_cons_zero,List.set_cons_succ,i64_w,i32_w]
              rfl
             refine pure_ (i:=23) (N:=some 61) (v:=?_) (a':=?_) #[true,true,true,true,true,true,true,true,true,true,true,true,true,true,true,true,true,true,true,true,true,true,true,true] rfl rfl (any_of HT_.out (by kernel_rfl)) (fun _ _ _ h=>h) (Or.inl ⟨by rfl,?_⟩) ?_ ?_
             rotate_left
             ·intro w'
              go_simp
              with_reducible rfl
             rotate_left
             ·simp only [Act.put,List.setIfInBounds_toArray,List.set_cons_zero,List.set_cons_succ,i64_w,i32_w]
              rfl
             refine done_ (done_of HT_.out (by kernel_rfl)) ?_
             have hnb30:=NB121_122.out
             have hnc30:=NB122_121.out
             have hcz31_0:w29.cell? ⟨gb121,0,none⟩=some (.slice none 0 0):=(blk_cell BK121.out 0).trans rfl
             have hcz31_1:w29.cell? ⟨gb121,1,none⟩=some (.slice none 0 0):=(blk_cell BK121.out 1).trans rfl
             have hfz31_0:=blk_frozen BK121.out 0
             have hfz31_1:=blk_frozen BK121.out 1
             try go_wp2
             refine bodyPost_ret (results_ct rfl _ _ gb121 25 #[.slice none 0 0,.slice none 0 0] (0,0) _ rfl (by (with_reducible repeat (first|refine zbN ?_ _|refine zbD ?_|refine zbA ?_ _));refine blk_put (cs:=#[.slice none 0 0,.slice none 0 0]) ?_ 1 _ rfl;(with_reducible repeat (first|refine zbN ?_ _|refine zbD ?_|refine zbA ?_ _));refine blk_put (cs:=#[.slice none 0 0,.slice none 0 0]) ?_ 0 _ rfl;(with_reducible repeat (first|refine zbN ?_ _|refine zbD ?_|refine zbA ?_ _));exact BK121.out) Try.underlying25 rfl (by kernel_rfl)) rfl ?_
             exact ⟨_,_,by first|rfl|(simp [errW_none,errW_some] <;> rfl)|(simp [*,errW_none,errW_some] <;> rfl),by first|exact Kd.R_nil _ _ _ _ _|exact Kd.N_nil _ _ _ _ _|exact Kd.V_nil _ _ _ _ _|exact Kd.Q_nil _ _ _ _ _|exact Kd.S_nil _ _ _ _ _,by first|exact Kd.R_nil _ _ _ _ _|exact Kd.N_nil _ _ _ _ _|exact Kd.V_nil _ _ _ _ _|exact Kd.Q_nil _ _ _ _ _|exact Kd.S_nil _ _ _ _ _,by repeat (first|(with_reducible first|exact HB.out|apply zlA|apply zlN|apply zlD|refine zlS ?_ GE121.out|refine zlS ?_ GE122.out)|exact HB.out)⟩
            ·rw [if_neg c28] at H
             have c28b0:decide (a0≤(rd l1 x8_3))=false:=decide_eq_false c28
             clear c28
             by_cases c32:0≤(rd l1 x8_3)
             ·rw [if_pos c32] at H
              have c32b0:decide (0≤(rd l1 x8_3))=true:=decide_eq_true c32
              clear c32
              by_cases c33:(rd l1 x8_3) < (x123000_3.length:Int)
              ·rw [if_pos c33] at H
               have c33b0:decide ((rd l1 x8_3) < (x123000_3.length:Int))=true:=decide_eq_true c33
               clear c33
               by_cases c34:(rd x123000_3 (rd l1 x8_3))=6
               ·rw [if_pos c34] at H
                have c34b0:((rd x123000_3 (rd l1 x8_3)) == 6)=true:=beq_iff_eq.mpr c34
                have c34b1:((rd x123000_3 (rd l1 x8_3)) != 6)=false:=bne_eq_false_iff_eq.mpr c34
                clear c34
                simp only [Option.some.injEq,Prod.mk.injEq] at H
                obtain ⟨rfl,rfl,rfl⟩:=H
                try go_wp2
                have n0_:=zm (zrD HO_123000.out)
                have n1_:=zm (zrD HO_123001.out)
                have n2_:=zm (zbD BK121.out)
                have n3_:=zm (zbD BK122.out)
                have n4_:=zm (zlD HB.out)
                clear HO_123000 HO_123001 BK121 BK122 HB
                have HO_123000:=n0_
                have HO_123001:=n1_
                have BK121:=n2_
                have BK122:=n3_
                have HB:=n4_
                clear n0_ n1_ n2_ n3_ n4_
                have p129:0≤(x8_3:Int):=of_decide_eq_true (by first|(with_reducible assumption)|assumption)
                have q129:x8_3 < (l1.length:Int):=of_decide_eq_true (by first|(with_reducible assumption)|assumption)
                obtain ⟨ad129,e129,hx129_0⟩:=Kd.at_int HR1.out x8_3 p129 q129
                have hw129_0:=hx129_0
                cases e129
                replace hx129_0:=(HB.out.cell (World.block_lt_of_cell? w _ hx129_0)).trans hx129_0
                replace p129:=eq_true p129
                replace q129:=eq_true q129
                have p130:0≤(x8_3:Int):=of_decide_eq_true (by first|(with_reducible assumption)|assumption)
                have q130:x8_3 < (l1.length:Int):=of_decide_eq_true (by first|(with_reducible assumption)|assumption)
                obtain ⟨ad130,e130,hx130_0⟩:=Kd.at_int HR1.out x8_3 p130 q130
                have hw130_0:=hx130_0
                obtain rfl:ad129=ad130:=(by injection e130)
                replace hx130_0:=(HB.out.cell (World.block_lt_of_cell? w _ hx130_0)).trans hx130_0
                replace p130:=eq_true p130
                replace q130:=eq_true q130
                have p131:0≤(x8_3:Int):=of_decide_eq_true (by first|(with_reducible assumption)|assumption)
                have q131:x8_3 < (l1.length:Int):=of_decide_eq_true (by first|(with_reducible assumption)|assumption)
                obtain ⟨ad131,e131,hx131_0⟩:=Kd.at_int HR1.out x8_3 p131 q131
                have hw131_0:=hx131_0
                obtain rfl:ad129=ad131:=(by injection e131)
                replace hx131_0:=(HB.out.cell (World.block_lt_of_cell? w _ hx131_0)).trans hx131_0
                replace p131:=eq_true p131
                replace q131:=eq_true q131
                obtain ⟨Ao36,co36,eo36⟩:=Kd.R_slice HO_123000.out
                (first|subst eo36|(injection eo36 with f1_ f2_ f3_;have f4_:=f1_.symm;have f5_:=f3_.symm;clear f1_ f2_ f3_;subst f4_;subst f5_))
                have p132:0≤((rd l1 x8_3):Int):=of_decide_eq_true (by first|(with_reducible assumption)|assumption)
                have q132:(rd l1 x8_3) < (x123000_3.length:Int):=of_decide_eq_true (by first|(with_reducible assumption)|assumption)
                obtain ⟨ad132,e132,hx132_0⟩:=Kd.at_int (Kd.R_reads' HO_123000.out).2.2 (rd l1 x8_3) p132 q132
                cases e132
                replace p132:=eq_true p132
                replace q132:=eq_true q132
                refine start_ (n:=24) (S:=fun w'=>w'.cell? ⟨gb122,0,none⟩=some (.slice (some ad132) x123000_3.length co36)∧w'.cell? ⟨gb122,1,none⟩=some (u123001)∧w'.cell? (ad129.add (x8_3).toNat)=some (.int .i64 (rd l1 x8_3))∧w'.cell? (ad129.add (x8_3).toNat)=some (.int .i64 (rd l1 x8_3))∧w'.cell? (ad129.add (x8_3).toNat)=some (.int .i64 (rd l1 x8_3))∧w'.cell? (ad132.add ((rd l1 x8_3)).toNat)=some (.int .i64 (rd x123000_3 (rd l1 x8_3)))) (ds:=[]) #[false,false,false,false,false,false,false,false,false,false,false,false,false,false,false,false,false,false,false,false,false,false,false,false] (by kernel_rfl) rfl rfl ⟨(blk_cell BK122.out 0).trans rfl,(blk_cell BK122.out 1).trans rfl,((HB.out.cell (World.block_lt_of_cell? w _ hw129_0)).trans hw129_0),((HB.out.cell (World.block_lt_of_cell? w _ hw130_0)).trans hw130_0),((HB.out.cell (World.block_lt_of_cell? w _ hw131_0)).trans hw131_0),hx132_0⟩ (fun hHeld=>?_);refine with_tabW slipwayref04_New.tab12 slipwayref04_New.bits12 (fun HT_ HW_=>?_)
                generalize wr.drew=w35 at HO_123000 HO_123001 BK121 BK122 HB hx129_0 hx130_0 hx131_0 hx132_0 hHeld ⊢
                refine pure_ (i:=0) (N:=some 38) (v:=?_) (a':=?_) #[true,false,false,false,false,false,false,false,false,false,false,false,false,false,false,false,false,false,false,false,false,false,false,false] rfl rfl (any_of HT_.out (by kernel_rfl)) (fun _ _ _ h=>h) (Or.inl ⟨by rfl,?_⟩) ?_ ?_
                rotate_left
                ·intro w'
                 go_simp
                 with_reducible rfl
                rotate_left
                ·simp only [Act.put,List.setIfInBounds_toArray,List.set_cons_zero,List.set_cons_succ,i64_w,i32_w]
                 rfl
                refine pure_ (i:=1) (N:=some 39) (v:=?_) (a':=?_) #[true,true,false,false,false,false,false,false,false,false,false,false,false,false,false,false,false,false,false,false,false,false,false,false] rfl rfl (any_of HT_.out (by kernel_rfl)) (fun _ _ _ h=>h) (Or.inl ⟨by rfl,?_⟩) ?_ ?_
                rotate_left
                ·intro w'
                 go_simp
                 with_reducible rfl
                rotate_left
                ·simp only [Act.put,List.setIfInBounds_toArray,List.set_cons_zero,List.set_cons_succ,i64_w,i32_w]
                 rfl
                refine pure_ (i:=2) (N:=some 40) (v:=?_) (a':=?_) #[true,true,true,false,false,false,false,false,false,false,false,false,false,false,false,false,false,false,false,false,false,false,false,false] rfl rfl (any_of HT_.out (by kernel_rfl)) (fun _ _ _ h=>h) (Or.inl ⟨by rfl,?_⟩) ?_ ?_
                rotate_left
                ·intro w'
                 go_simp
                 with_reducible rfl
                rotate_left
                ·simp only [Act.put,List.setIfInBounds_toArray,List.set_cons_zero,List.set_cons_succ,i64_w,i32_w]
                 rfl
                refine take_ (i:=3) (N:=some 41) (v:=?_) (a':=?_) #[true,true,true,true,false,false,false,false,false,false,false,false,false,false,false,false,false,false,false,false,false,false,false,false] rfl rfl (take_ofW HT_.out HW_.out (by kernel_rfl)) (fun _ _ _ h=>h) (Or.inl ⟨by rfl,?_⟩) hHeld ?_ ?_
                rotate_left
                ·rintro w' ⟨s0,s1,s2,s3,s4,s5⟩
                 go_simp
                 with_reducible rfl
                rotate_left
                ·simp only [Act.put,List.setIfInBounds_toArray,List.set_cons_zero,List.set_cons_succ,i64_w,i32_w]
                 rfl
                refine pure_ (i:=4) (N:=some 42) (v:=?_) (a':=?_) #[true,true,true,true,true,false,false,false,false,false,false,false,false,false,false,false,false,false,false,false,false,false,false,false] rfl rfl (any_of HT_.out (by kernel_rfl)) (fun _ _ _ h=>h) (Or.inl ⟨by rfl,?_⟩) ?_ ?_
                rotate_left
                ·intro w'
                 go_simp
                 with_reducible rfl
                rotate_left
                ·simp only [Act.put,List.setIfInBounds_toArray,List.set_cons_zero,List.set_cons_succ,i64_w,i32_w]
                 rfl
                refine pure_ (i:=5) (N:=some 43) (v:=?_) (a':=?_) #[true,true,true,true,true,true,false,false,false,false,false,false,false,false,false,false,false,false,false,false,false,false,false,false] rfl rfl (any_of HT_.out (by kernel_rfl)) (fun _ _ _ h=>h) (Or.inl ⟨by rfl,?_⟩) ?_ ?_
                rotate_left
                ·intro w'
                 go_simp
                 with_reducible rfl
                rotate_left
                ·simp only [Act.put,List.setIfInBounds_toArray,List.set_cons_zero,List.set_cons_succ,i64_w,i32_w]
                 rfl
                refine pure_ (i:=6) (N:=some 44) (v:=?_) (a':=?_) #[true,true,true,true,true,true,true,false,false,false,false,false,false,false,false,false,false,false,false,false,false,false,false,false] rfl rfl (any_of HT_.out (by kernel_rfl)) (fun _ _ _ h=>h) (Or.inl ⟨by rfl,?_⟩) ?_ ?_
                rotate_left
                ·intro w'
                 go_simp
                 with_reducible rfl
                rotate_left
                ·simp only [Act.put,List.setIfInBounds_toArray,List.set_cons_zero,List.set_cons_succ,i64_w,i32_w]
                 rfl
                refine pure_ (i:=7) (N:=some 45) (v:=?_) (a':=?_) #[true,true,true,true,true,true,true,true,false,false,false,false,false,false,false,false,false,false,false,false,false,false,false,false] rfl rfl (any_of HT_.out (by kernel_rfl)) (fun _ _ _ h=>h) (Or.inl ⟨by rfl,?_⟩) ?_ ?_
                rotate_left
                ·intro w'
                 go_simp
                 with_reducible rfl
                rotate_left
                ·simp only [Act.put,List.setIfInBounds_toArray,List.set_cons_zero,List.set_cons_succ,i64_w,i32_w]
                 rfl
                refine pure_ (i:=8) (N:=some 46) (v:=?_) (a':=?_) #[true,true,true,true,true,true,true,true,true,false,false,false,false,false,false,false,false,false,false,false,false,false,false,false] rfl rfl (any_of HT_.out (by kernel_rfl)) (fun _ _ _ h=>h) (Or.inl ⟨by rfl,?_⟩) ?_ ?_
                rotate_left
                ·intro w'
                 go_simp
                 with_reducible rfl
                rotate_left
                ·simp only [Act.put,List.setIfInBounds_toArray,List.set_cons_zero,List.set_cons_succ,i64_w,i32_w]
                 rfl
                refine pure_ (i:=10) (N:=some 48) (v:=?_) (a':=?_) #[true,true,true,true,true,true,true,true,true,false,true,false,false,false,false,false,false,false,false,false,false,false,false,false] rfl rfl (any_of HT_.out (by kernel_rfl)) (fun _ _ _ h=>h) (Or.inl ⟨by rfl,?_⟩) ?_ ?_
                rotate_left
                ·intro w'
                 go_simp
                 with_reducible rfl
                rotate_left
                ·simp only [Act.put,List.setIfInBounds_toArray,List.set_cons_zero,List.set_cons_succ,i64_w,i32_w]
                 rfl
                refine take_ (i:=9) (N:=some 47) (v:=?_) (a':=?_) #[true,true,true,true,true,true,true,true,true,true,true,false,false,false,false,false,false,false,false,false,false,false,false,false] rfl rfl (take_ofW HT_.out HW_.out (by kernel_rfl)) (fun _ _ _ h=>h) (Or.inl ⟨by rfl,?_⟩) hHeld ?_ ?_
                rotate_left
                ·rintro w' ⟨s0,s1,s2,s3,s4,s5⟩
                 go_simp
                 with_reducible rfl
                rotate_left
                ·simp only [Act.put,List.setIfInBounds_toArray,List.set_cons_zero,List.set_cons_succ,i64_w,i32_w]
                 rfl
                refine pure_ (i:=11) (N:=some 49) (v:=?_) (a':=?_) #[true,true,true,true,true,true,true,true,true,true,true,true,false,false,false,false,false,false,false,false,false,false,false,false] rfl rfl (any_of HT_.out (by kernel_rfl)) (fun _ _ _ h=>h) (Or.inl ⟨by rfl,?_⟩) ?_ ?_
                rotate_left
                ·intro w'
                 go_simp
                 with_reducible rfl
                rotate_left
                ·simp only [Act.put,List.setIfInBounds_toArray,List.set_cons_zero,List.set_cons_succ,i64_w,i32_w]
                 rfl
                refine pure_ (i:=12) (N:=some 50) (v:=?_) (a':=?_) #[true,true,true,true,true,true,true,true,true,true,true,true,true,false,false,false,false,false,false,false,false,false,false,false] rfl rfl (any_of HT_.out (by kernel_rfl)) (fun _ _ _ h=>h) (Or.inl ⟨by rfl,?_⟩) ?_ ?_
                rotate_left
                ·intro w'
                 go_simp
                 with_reducible rfl
                rotate_left
                ·simp only [Act.put,List.setIfInBounds_toArray,List.set_cons_zero,List.set_cons_succ,i64_w,i32_w]
                 rfl
                refine pure_ (i:=13) (N:=some 51) (v:=?_) (a':=?_) #[true,true,true,true,true,true,true,true,true,true,true,true,true,true,false,false,false,false,false,false,false,false,false,false] rfl rfl (any_of HT_.out (by kernel_rfl)) (fun _ _ _ h=>h) (Or.inl ⟨by rfl,?_⟩) ?_ ?_
                rotate_left
                ·intro w'
                 go_simp
                 with_reducible rfl
                rotate_left
                ·simp only [Act.put,List.setIfInBounds_toArray,List.set_cons_zero,List.set_cons_succ,i64_w,i32_w]
                 rfl
                refine pure_ (i:=14) (N:=some 52) (v:=?_) (a':=?_) #[true,true,true,true,true,true,true,true,true,true,true,true,true,true,true,false,false,false,false,false,false,false,false,false] rfl rfl (any_of HT_.out (by kernel_rfl)) (fun _ _ _ h=>h) (Or.inl ⟨by rfl,?_⟩) ?_ ?_
                rotate_left
                ·intro w'
                 go_simp
                 with_reducible rfl
                rotate_left
                ·simp only [Act.put,List.setIfInBounds_toArray,List.set_cons_zero,List.set_cons_succ,i64_w,i32_w]
                 rfl
                refine pure_ (i:=16) (N:=some 54) (v:=?_) (a':=?_) #[true,true,true,true,true,true,true,true,true,true,true,true,true,true,true,false,true,false,false,false,false,false,false,false] rfl rfl (any_of HT_.out (by kernel_rfl)) (fun _ _ _ h=>h) (Or.inl ⟨by rfl,?_⟩) ?_ ?_
                rotate_left
                ·intro w'
                 go_simp
                 with_reducible rfl
                rotate_left
                ·simp only [Act.put,List.setIfInBounds_toArray,List.set_cons_zero,List.set_cons_succ,i64_w,i32_w]
                 rfl
                refine pure_ (i:=17) (N:=some 55) (v:=?_) (a':=?_) #[true,true,true,true,true,true,true,true,true,true,true,true,true,true,true,false,true,true,false,false,false,false,false,false] rfl rfl (any_of HT_.out (by kernel_rfl)) (fun _ _ _ h=>h) (Or.inl ⟨by rfl,?_⟩) ?_ ?_
                rotate_left
                ·intro w'
                 go_simp
                 with_reducible rfl
                rotate_left
                ·simp only [Act.put,List.setIfInBounds_toArray,List.set_cons_zero,List.set_cons_succ,i64_w,i32_w]
                 rfl
                refine pure_ (i:=18) (N:=some 56) (v:=?_) (a':=?_) #[true,true,true,true,true,true,true,true,true,true,true,true,true,true,true,false,true,true,true,false,false,false,false,false] rfl rfl (any_of HT_.out (by kernel_rfl)) (fun _ _ _ h=>h) (Or.inl ⟨by rfl,?_⟩) ?_ ?_
                rotate_left
                ·intro w'
                 go_simp
                 with_reducible rfl
                rotate_left
                ·simp only [Act.put,List.setIfInBounds_toArray,List.set_cons_zero,List.set_cons_succ,i64_w,i32_w]
                 rfl
                refine take_ (i:=15) (N:=some 53) (v:=?_) (a':=?_) #[true,true,true,true,true,true,true,true,true,true,true,true,true,true,true,true,true,true,true,false,false,false,false,false] rfl rfl (take_ofW HT_.out HW_.out (by kernel_rfl)) (fun _ _ _ h=>h) (Or.inl ⟨by rfl,?_⟩) hHeld ?_ ?_
                rotate_left
                ·rintro w' ⟨s0,s1,s2,s3,s4,s5⟩
                 go_simp
                 with_reducible rfl
                rotate_left
                ·simp only [Act.put,List.setIfInBounds_toArray,List.set_cons_zero,List.set_cons_succ,i64_w,i32_w]
                 rfl
                refine take_ (i:=19) (N:=some 57) (v:=?_) (a':=?_) #[true,true,true,true,true,true,true,true,true,true,true,true,true,true,true,true,true,true,true,true,false,false,false,false] rfl rfl (take_ofW HT_.out HW_.out (by kernel_rfl)) (fun _ _ _ h=>h) (Or.inl ⟨by rfl,?_⟩) hHeld ?_ ?_
                rotate_left
                ·rintro w' ⟨s0,s1,s2,s3,s4,s5⟩
                 go_simp
                 with_reducible rfl
                rotate_left
                ·simp only [Act.put,List.setIfInBounds_toArray,List.set_cons_zero,List.set_cons_succ,i64_w,i32_w]
                 rfl
                refine pure_ (i:=20) (N:=some 58) (v:=?_) (a':=?_) #[true,true,true,true,true,true,true,true,true,true,true,true,true,true,true,true,true,true,true,true,true,false,false,false] rfl rfl (any_of HT_.out (by kernel_rfl)) (fun _ _ _ h=>h) (Or.inl ⟨by rfl,?_⟩) ?_ ?_
                rotate_left
                ·intro w'
                 go_simp
                 with_reducible rfl
                rotate_left
                ·simp only [Act.put,List.setIfInBounds_toArray,List.set_cons_zero,List.set_cons_succ,i64_w,i32_w]
                 rfl
                refine take_ (i:=21) (N:=some 59) (v:=?_) (a':=?_) #[true,true,true,true,true,true,true,true,true,true,true,true,true,true,true,true,true,true,true,true,true,true,false,false] rfl rfl (take_ofW HT_.out HW_.out (by kernel_rfl)) (fun _ _ _ h=>h) (Or.inl ⟨by rfl,?_⟩) hHeld ?_ ?_
                rotate_left
                ·rintro w' ⟨s0,s1,s2,s3,s4,s5⟩
                 go_simp
                 with_reducible rfl
                rotate_left
                ·simp only [Act.put,List.setIfInBounds_toArray,List.set_cons_zero,List.set_cons_succ,i64_w,i32_w]
                 rfl
                refine pure_ (i:=22) (N:=some 60) (v:=?_) (a':=?_) #[true,true,true,true,true,true,true,true,true,true,true,true,true,true,true,true,true,true,true,true,true,true,true,false] rfl rfl (any_of HT_.out (by kernel_rfl)) (fun _ _ _ h=>h) (Or.inl ⟨by rfl,?_⟩) ?_ ?_
                rotate_left
                ·intro w'
                 go_simp
                 with_reducible rfl
                rotate_left
                ·simp only [Act.put,List.setIfInBounds_toArray,List.set_cons_zero,List.set_cons_succ,i64_w,i32_w]
                 rfl
                refine pure_ (i:=23) (N:=some 61) (v:=?_) (a':=?_) #[true,true,true,true,true,true,true,true,true,true,true,true,true,true,true,true,true,true,true,true,true,true,true,true] rfl rfl (any_of HT_.out (by kernel_rfl)) (fun _ _ _ h=>h) (Or.inl ⟨by rfl,?_⟩) ?_ ?_
                rotate_left
                ·intro w'
                 go_simp
                 with_reducible rfl
                rotate_left
                ·simp only [Act.put,List.setIfInBounds_toArray,List.set_cons_zero,List.set_cons_succ,i64_w,i32_w]
                 rfl
                refine done_ (done_of HT_.out (by kernel_rfl)) ?_
                have hnb37:=NB121_122.out
                have hnc37:=NB122_121.out
                have hcz38_0:w35.cell? ⟨gb121,0,none⟩=some (.slice none 0 0):=(blk_cell BK121.out 0).trans rfl
                have hcz38_1:w35.cell? ⟨gb121,1,none⟩=some (.slice none 0 0):=(blk_cell BK121.out 1).trans rfl
                have hfz38_0:=blk_frozen BK121.out 0
                have hfz38_1:=blk_frozen BK121.out 1
                try go_wp2
                refine bodyPost_ret (results_ct rfl _ _ gb121 25 #[.slice none 0 0,.slice none 0 0] (0,0) _ rfl (by (with_reducible repeat (first|refine zbN ?_ _|refine zbD ?_|refine zbA ?_ _));refine blk_put (cs:=#[.slice none 0 0,.slice none 0 0]) ?_ 1 _ rfl;(with_reducible repeat (first|refine zbN ?_ _|refine zbD ?_|refine zbA ?_ _));refine blk_put (cs:=#[.slice none 0 0,.slice none 0 0]) ?_ 0 _ rfl;(with_reducible repeat (first|refine zbN ?_ _|refine zbD ?_|refine zbA ?_ _));exact BK121.out) Try.underlying25 rfl (by kernel_rfl)) rfl ?_
                exact ⟨_,_,by first|rfl|(simp [errW_none,errW_some] <;> rfl)|(simp [*,errW_none,errW_some] <;> rfl),by first|exact Kd.R_nil _ _ _ _ _|exact Kd.N_nil _ _ _ _ _|exact Kd.V_nil _ _ _ _ _|exact Kd.Q_nil _ _ _ _ _|exact Kd.S_nil _ _ _ _ _,by first|exact Kd.R_nil _ _ _ _ _|exact Kd.N_nil _ _ _ _ _|exact Kd.V_nil _ _ _ _ _|exact Kd.Q_nil _ _ _ _ _|exact Kd.S_nil _ _ _ _ _,by repeat (first|(with_reducible first|exact HB.out|apply zlA|apply zlN|apply zlD|refine zlS ?_ GE121.out|refine zlS ?_ GE122.out)|exact HB.out)⟩
               ·rw [if_neg c34] at H
                have c34b0:((rd x123000_3 (rd l1 x8_3)) == 6)=false:=beq_eq_false_iff_ne.mpr c34
                have c34b1:((rd x123000_3 (rd l1 x8_3)) != 6)=true:=bne_iff_ne.mpr c34
                obtain ⟨y134,hy134⟩:∃ y_:List Int,y_=(x123000_3.set ((rd l1 x8_3):Int).toNat 6):=⟨_,rfl⟩
                replace H:(slipwayref04_New.l1 k3 a0 l1 (wrap64 (x8_3 + 1)) y134 x123001_2)=some (r1,r2,r3):=by first|(rw [hy134];with_reducible exact H)|(have H2_:=(Option.bind_some _ _).symm.trans H;rw [hy134];with_reducible exact H2_)|(have H2_:=(Option.bind_some _ _).symm.trans H;with_reducible exact H2_)|with_reducible exact H|(rw [hy134];exact H)|exact H
                have Ny134:=zm hy134
                clear hy134
                have H':=zm H
                clear H
                try go_wp2
                have n0_:=zm (zrD HO_123000.out)
                have n1_:=zm (zrD HO_123001.out)
                have n2_:=zm (zbD BK121.out)
                have n3_:=zm (zbD BK122.out)
                have n4_:=zm (zlD HB.out)
                clear HO_123000 HO_123001 BK121 BK122 HB
                have HO_123000:=n0_
                have HO_123001:=n1_
                have BK121:=n2_
                have BK122:=n3_
                have HB:=n4_
                clear n0_ n1_ n2_ n3_ n4_
                have p129:0≤(x8_3:Int):=of_decide_eq_true (by first|(with_reducible assumption)|assumption)
                have q129:x8_3 < (l1.length:Int):=of_decide_eq_true (by first|(with_reducible assumption)|assumption)
                obtain ⟨ad129,e129,hx129_0⟩:=Kd.at_int HR1.out x8_3 p129 q129
                have hw129_0:=hx129_0
                cases e129
                replace hx129_0:=(HB.out.cell (World.block_lt_of_cell? w _ hx129_0)).trans hx129_0
                replace p129:=eq_true p129
                replace q129:=eq_true q129
                have p130:0≤(x8_3:Int):=of_decide_eq_true (by first|(with_reducible assumption)|assumption)
                have q130:x8_3 < (l1.length:Int):=of_decide_eq_true (by first|(with_reducible assumption)|assumption)
                obtain ⟨ad130,e130,hx130_0⟩:=Kd.at_int HR1.out x8_3 p130 q130
                have hw130_0:=hx130_0
                obtain rfl:ad129=ad130:=(by injection e130)
                replace hx130_0:=(HB.out.cell (World.block_lt_of_cell? w _ hx130_0)).trans hx130_0
                replace p130:=eq_true p130
                replace q130:=eq_true q130
                have p131:0≤(x8_3:Int):=of_decide_eq_true (by first|(with_reducible assumption)|assumption)
                have q131:x8_3 < (l1.length:Int):=of_decide_eq_true (by first|(with_reducible assumption)|assumption)
                obtain ⟨ad131,e131,hx131_0⟩:=Kd.at_int HR1.out x8_3 p131 q131
                have hw131_0:=hx131_0
                obtain rfl:ad129=ad131:=(by injection e131)
                replace hx131_0:=(HB.out.cell (World.block_lt_of_cell? w _ hx131_0)).trans hx131_0
                replace p131:=eq_true p131
                replace q131:=eq_true q131
                obtain ⟨Ao41,co41,eo41⟩:=Kd.R_slice HO_123000.out
                (first|subst eo41|(injection eo41 with f1_ f2_ f3_;have f4_:=f1_.symm;have f5_:=f3_.symm;clear f1_ f2_ f3_;subst f4_;subst f5_))
                have p132:0≤((rd l1 x8_3):Int):=of_decide_eq_true (by first|(with_reducible assumption)|assumption)
                have q132:(rd l1 x8_3) < (x123000_3.length:Int):=of_decide_eq_true (by first|(with_reducible assumption)|assumption)
                obtain ⟨ad132,e132,hx132_0⟩:=Kd.at_int (Kd.R_reads' HO_123000.out).2.2 (rd l1 x8_3) p132 q132
                cases e132
                replace p132:=eq_true p132
                replace q132:=eq_true q132
                refine start_ (n:=24) (S:=fun w'=>w'.cell? ⟨gb122,0,none⟩=some (.slice (some ad132) x123000_3.length co41)∧w'.cell? ⟨gb122,1,none⟩=some (u123001)∧w'.cell? (ad129.add (x8_3).toNat)=some (.int .i64 (rd l1 x8_3))∧w'.cell? (ad129.add (x8_3).toNat)=some (.int .i64 (rd l1 x8_3))∧w'.cell? (ad129.add (x8_3).toNat)=some (.int .i64 (rd l1 x8_3))∧w'.cell? (ad132.add ((rd l1 x8_3)).toNat)=some (.int .i64 (rd x123000_3 (rd l1 x8_3)))) (ds:=[]) #[false,false,false,false,false,false,false,false,false,false,false,false,false,false,false,false,false,false,false,false,false,false,false,false] (by kernel_rfl) rfl rfl ⟨(blk_cell BK122.out 0).trans rfl,(blk_cell BK122.out 1).trans rfl,((HB.out.cell (World.block_lt_of_cell? w _ hw129_0)).trans hw129_0),((HB.out.cell (World.block_lt_of_cell? w _ hw130_0)).trans hw130_0),((HB.out.cell (World.block_lt_of_cell? w _ hw131_0)).trans hw131_0),hx132_0⟩ (fun hHeld=>?_);refine with_tabW slipwayref04_New.tab12 slipwayref04_New.bits12 (fun HT_ HW_=>?_)
                generalize wr.drew=w40 at HO_123000 HO_123001 BK121 BK122 HB hx129_0 hx130_0 hx131_0 hx132_0 hHeld ⊢
                refine pure_ (i:=0) (N:=some 38) (v:=?_) (a':=?_) #[true,false,false,false,false,false,false,false,false,false,false,false,false,false,false,false,false,false,false,false,false,false,false,false] rfl rfl (any_of HT_.out (by kernel_rfl)) (fun _ _ _ h=>h) (Or.inl ⟨by rfl,?_⟩) ?_ ?_
                rotate_left
                ·intro w'
                 go_simp
                 with_reducible rfl
                rotate_left
                ·simp only [Act.put,List.setIfInBounds_toArray,List.set_cons_zero,List.set_cons_succ,i64_w,i32_w]
                 rfl
                refine pure_ (i:=1) (N:=some 39) (v:=?_) (a':=?_) #[true,true,false,false,false,false,false,false,false,false,false,false,false,false,false,false,false,false,false,false,false,false,false,false] rfl rfl (any_of HT_.out (by kernel_rfl)) (fun _ _ _ h=>h) (Or.inl ⟨by rfl,?_⟩) ?_ ?_
                rotate_left
                ·intro w'
                 go_simp
                 with_reducible rfl
                rotate_left
                ·simp only [Act.put,List.setIfInBounds_toArray,List.set_cons_zero,List.set_cons_succ,i64_w,i32_w]
                 rfl
                refine pure_ (i:=2) (N:=some 40) (v:=?_) (a':=?_) #[true,true,true,false,false,false,false,false,false,false,false,false,false,false,false,false,false,false,false,false,false,false,false,false] rfl rfl (any_of HT_.out (by kernel_rfl)) (fun _ _ _ h=>h) (Or.inl ⟨by rfl,?_⟩) ?_ ?_
                rotate_left
                ·intro w'
                 go_simp
                 with_reducible rfl
                rotate_left
                ·simp only [Act.put,List.setIfInBounds_toArray,List.set_cons_zero,List.set_cons_succ,i64_w,i32_w]
                 rfl
                refine take_ (i:=3) (N:=some 41) (v:=?_) (a':=?_) #[true,true,true,true,false,false,false,false,false,false,false,false,false,false,false,false,false,false,false,false,false,false,false,false] rfl rfl (take_ofW HT_.out HW_.out (by kernel_rfl)) (fun _ _ _ h=>h) (Or.inl ⟨by rfl,?_⟩) hHeld ?_ ?_
                rotate_left
                ·rintro w' ⟨s0,s1,s2,s3,s4,s5⟩
                 go_simp
                 with_reducible rfl
                rotate_left
                ·simp only [Act.put,List.setIfInBounds_toArray,List.set_cons_zero,List.set_cons_succ,i64_w,i32_w]
                 rfl
                refine pure_ (i:=4) (N:=some 42) (v:=?_) (a':=?_) #[true,true,true,true,true,false,false,false,false,false,false,false,false,false,false,false,false,false,false,false,false,false,false,false] rfl rfl (any_of HT_.out (by kernel_rfl)) (fun _ _ _ h=>h) (Or.inl ⟨by rfl,?_⟩) ?_ ?_
                rotate_left
                ·intro w'
                 go_simp
                 with_reducible rfl
                rotate_left
                ·simp only [Act.put,List.setIfInBounds_toArray,List.set_cons_zero,List.set_cons_succ,i64_w,i32_w]
                 rfl
                refine pure_ (i:=5) (N:=some 43) (v:=?_) (a':=?_) #[true,true,true,true,true,true,false,false,false,false,false,false,false,false,false,false,false,false,false,false,false,false,false,false] rfl rfl (any_of HT_.out (by kernel_rfl)) (fun _ _ _ h=>h) (Or.inl ⟨by rfl,?_⟩) ?_ ?_
                rotate_left
                ·intro w'
                 go_simp
                 with_reducible rfl
                rotate_left
                ·simp only [Act.put,List.setIfInBounds_toArray,List.set_cons_zero,List.set_cons_succ,i64_w,i32_w]
                 rfl
                refine pure_ (i:=6) (N:=some 44) (v:=?_) (a':=?_) #[true,true,true,true,true,true,true,false,false,false,false,false,false,false,false,false,false,false,false,false,false,false,false,false] rfl rfl (any_of HT_.out (by kernel_rfl)) (fun _ _ _ h=>h) (Or.inl ⟨by rfl,?_⟩) ?_ ?_
                rotate_left
                ·intro w'
                 go_simp
                 with_reducible rfl
                rotate_left
                ·simp only [Act.put,List.setIfInBounds_toArray,List.set_cons_zero,List.set_cons_succ,i64_w,i32_w]
                 rfl
                refine pure_ (i:=7) (N:=some 45) (v:=?_) (a':=?_) #[true,true,true,true,true,true,true,true,false,false,false,false,false,false,false,false,false,false,false,false,false,false,false,false] rfl rfl (any_of HT_.out (by kernel_rfl)) (fun _ _ _ h=>h) (Or.inl ⟨by rfl,?_⟩) ?_ ?_
                rotate_left
                ·intro w'
                 go_simp
                 with_reducible rfl
                rotate_left
                ·simp only [Act.put,List.setIfInBounds_toArray,List.set_cons_zero,List.set_cons_succ,i64_w,i32_w]
                 rfl
                refine pure_ (i:=8) (N:=some 46) (v:=?_) (a':=?_) #[true,true,true,true,true,true,true,true,true,false,false,false,false,false,false,false,false,false,false,false,false,false,false,false] rfl rfl (any_of HT_.out (by kernel_rfl)) (fun _ _ _ h=>h) (Or.inl ⟨by rfl,?_⟩) ?_ ?_
                rotate_left
                ·intro w'
                 go_simp
                 with_reducible rfl
                rotate_left
                ·simp only [Act.put,List.setIfInBounds_toArray,List.set_cons_zero,List.set_cons_succ,i64_w,i32_w]
                 rfl
                refine pure_ (i:=10) (N:=some 48) (v:=?_) (a':=?_) #[true,true,true,true,true,true,true,true,true,false,true,false,false,false,false,false,false,false,false,false,false,false,false,false] rfl rfl (any_of HT_.out (by kernel_rfl)) (fun _ _ _ h=>h) (Or.inl ⟨by rfl,?_⟩) ?_ ?_
                rotate_left
                ·intro w'
                 go_simp
                 with_reducible rfl
                rotate_left
                ·simp only [Act.put,List.setIfInBounds_toArray,List.set_cons_zero,List.set_cons_succ,i64_w,i32_w]
                 rfl
                refine take_ (i:=9) (N:=some 47) (v:=?_) (a':=?_) #[true,true,true,true,true,true,true,true,true,true,true,false,false,false,false,false,false,false,false,false,false,false,false,false] rfl rfl (take_ofW HT_.out HW_.out (by kernel_rfl)) (fun _ _ _ h=>h) (Or.inl ⟨by rfl,?_⟩) hHeld ?_ ?_
                rotate_left
                ·rintro w' ⟨s0,s1,s2,s3,s4,s5⟩
                 go_simp
                 with_reducible rfl
                rotate_left
                ·simp only [Act.put,List.setIfInBounds_toArray,List.set_cons_zero,List.set_cons_succ,i64_w,i32_w]
                 rfl
                refine pure_ (i:=11) (N:=some 49) (v:=?_) (a':=?_) #[true,true,true,true,true,true,true,true,true,true,true,true,false,false,false,false,false,false,false,false,false,false,false,false] rfl rfl (any_of HT_.out (by kernel_rfl)) (fun _ _ _ h=>h) (Or.inl ⟨by rfl,?_⟩) ?_ ?_
                rotate_left
                ·intro w'
                 go_simp
                 with_reducible rfl
                rotate_left
                ·simp only [Act.put,List.setIfInBounds_toArray,List.set_cons_zero,List.set_cons_succ,i64_w,i32_w]
                 rfl
                refine pure_ (i:=12) (N:=some 50) (v:=?_) (a':=?_) #[true,true,true,true,true,true,true,true,true,true,true,true,true,false,false,false,false,false,false,false,false,false,false,false] rfl rfl (any_of HT_.out (by kernel_rfl)) (fun _ _ _ h=>h) (Or.inl ⟨by rfl,?_⟩) ?_ ?_
                rotate_left
                ·intro w'
                 go_simp
                 with_reducible rfl
                rotate_left
                ·simp only [Act.put,List.setIfInBounds_toArray,List.set_cons_zero,List.set_cons_succ,i64_w,i32_w]
                 rfl
                refine pure_ (i:=13) (N:=some 51) (v:=?_) (a':=?_) #[true,true,true,true,true,true,true,true,true,true,true,true,true,true,false,false,false,false,false,false,false,false,false,false] rfl rfl (any_of HT_.out (by kernel_rfl)) (fun _ _ _ h=>h) (Or.inl ⟨by rfl,?_⟩) ?_ ?_
                rotate_left
                ·intro w'
                 go_simp
                 with_reducible rfl
                rotate_left
                ·simp only [Act.put,List.setIfInBounds_toArray,List.set_cons_zero,List.set_cons_succ,i64_w,i32_w]
                 rfl
                refine pure_ (i:=14) (N:=some 52) (v:=?_) (a':=?_) #[true,true,true,true,true,true,true,true,true,true,true,true,true,true,true,false,false,false,false,false,false,false,false,false] rfl rfl (any_of HT_.out (by kernel_rfl)) (fun _ _ _ h=>h) (Or.inl ⟨by rfl,?_⟩) ?_ ?_
                rotate_left
                ·intro w'
                 go_simp
                 with_reducible rfl
                rotate_left
                ·simp only [Act.put,List.setIfInBounds_toArray,List.set_cons_zero,List.set_cons_succ,i64_w,i32_w]
                 rfl
                refine pure_ (i:=16) (N:=some 54) (v:=?_) (a':=?_) #[true,true,true,true,true,true,true,true,true,true,true,true,true,true,true,false,true,false,false,false,false,false,false,false] rfl rfl (any_of HT_.out (by kernel_rfl)) (fun _ _ _ h=>h) (Or.inl ⟨by rfl,?_⟩) ?_ ?_
                rotate_left
                ·intro w'
                 go_simp
                 with_reducible rfl
                rotate_left
                ·simp only [Act.put,List.setIfInBounds_toArray,List.set_cons_zero,List.set_cons_succ,i64_w,i32_w]
                 rfl
                refine pure_ (i:=17) (N:=some 55) (v:=?_) (a':=?_) #[true,true,true,true,true,true,true,true,true,true,true,true,true,true,true,false,true,true,false,false,false,false,false,false] rfl rfl (any_of HT_.out (by kernel_rfl)) (fun _ _ _ h=>h) (Or.inl ⟨by rfl,?_⟩) ?_ ?_
                rotate_left
                ·intro w'
                 go_simp
                 with_reducible rfl
                rotate_left
                ·simp only [Act.put,List.setIfInBounds_toArray,List.set_cons_zero,List.set_cons_succ,i64_w,i32_w]
                 rfl
                refine pure_ (i:=18) (N:=some 56) (v:=?_) (a':=?_) #[true,true,true,true,true,true,true,true,true,true,true,true,true,true,true,false,true,true,true,false,false,false,false,false] rfl rfl (any_of HT_.out (by kernel_rfl)) (fun _ _ _ h=>h) (Or.inl ⟨by rfl,?_⟩) ?_ ?_
                rotate_left
                ·intro w'
                 go_simp
                 with_reducible rfl
                rotate_left
                ·simp only [Act.put,List.setIfInBounds_toArray,List.set_cons_zero,List.set_cons_succ,i64_w,i32_w]
                 rfl
                refine take_ (i:=15) (N:=some 53) (v:=?_) (a':=?_) #[true,true,true,true,true,true,true,true,true,true,true,true,true,true,true,true,true,true,true,false,false,false,false,false] rfl rfl (take_ofW HT_.out HW_.out (by kernel_rfl)) (fun _ _ _ h=>h) (Or.inl ⟨by rfl,?_⟩) hHeld ?_ ?_
                rotate_left
                ·rintro w' ⟨s0,s1,s2,s3,s4,s5⟩
                 go_simp
                 with_reducible rfl
                rotate_left
                ·simp only [Act.put,List.setIfInBounds_toArray,List.set_cons_zero,List.set_cons_succ,i64_w,i32_w]
                 rfl
                refine take_ (i:=19) (N:=some 57) (v:=?_) (a':=?_) #[true,true,true,true,true,true,true,true,true,true,true,true,true,true,true,true,true,true,true,true,false,false,false,false] rfl rfl (take_ofW HT_.out HW_.out (by kernel_rfl)) (fun _ _ _ h=>h) (Or.inl ⟨by rfl,?_⟩) hHeld ?_ ?_
                rotate_left
                ·rintro w' ⟨s0,s1,s2,s3,s4,s5⟩
                 go_simp
                 with_reducible rfl
                rotate_left
                ·simp only [Act.put,List.setIfInBounds_toArray,List.set_cons_zero,List.set_cons_succ,i64_w,i32_w]
                 rfl
                refine pure_ (i:=20) (N:=some 58) (v:=?_) (a':=?_) #[true,true,true,true,true,true,true,true,true,true,true,true,true,true,true,true,true,true,true,true,true,false,false,false] rfl rfl (any_of HT_.out (by kernel_rfl)) (fun _ _ _ h=>h) (Or.inl ⟨by rfl,?_⟩) ?_ ?_
                rotate_left
                ·intro w'
                 go_simp
                 with_reducible rfl
                rotate_left
                ·simp only [Act.put,List.setIfInBounds_toArray,List.set_cons_zero,List.set_cons_succ,i64_w,i32_w]
                 rfl
                refine take_ (i:=21) (N:=some 59) (v:=?_) (a':=?_) #[true,true,true,true,true,true,true,true,true,true,true,true,true,true,true,true,true,true,true,true,true,true,false,false] rfl rfl (take_ofW HT_.out HW_.out (by kernel_rfl)) (fun _ _ _ h=>h) (Or.inl ⟨by rfl,?_⟩) hHeld ?_ ?_
                rotate_left
                ·rintro w' ⟨s0,s1,s2,s3,s4,s5⟩
                 go_simp
                 with_reducible rfl
                rotate_left
                ·simp only [Act.put,List.setIfInBounds_toArray,List.set_cons_zero,List.set_cons_succ,i64_w,i32_w]
                 rfl
                refine pure_ (i:=22) (N:=some 60) (v:=?_) (a':=?_) #[true,true,true,true,true,true,true,true,true,true,true,true,true,true,true,true,true,true,true,true,true,true,true,false] rfl rfl (any_of HT_.out (by kernel_rfl)) (fun _ _ _ h=>h) (Or.inl ⟨by rfl,?_⟩) ?_ ?_
                rotate_left
                ·intro w'
                 go_simp
                 with_reducible rfl
                rotate_left
                ·simp only [Act.put,List.setIfInBounds_toArray,List.set_cons_zero,List.set_cons_succ,i64_w,i32_w]
                 rfl
                refine pure_ (i:=23) (N:=some 61) (v:=?_) (a':=?_) #[true,true,true,true,true,true,true,true,true,true,true,true,true,true,true,true,true,true,true,true,true,true,true,true] rfl rfl (any_of HT_.out (by kernel_rfl)) (fun _ _ _ h=>h) (Or.inl ⟨by rfl,?_⟩) ?_ ?_
                rotate_left
                ·intro w'
                 go_simp
                 with_reducible rfl
                rotate_left
                ·simp only [Act.put,List.setIfInBounds_toArray,List.set_cons_zero,List.set_cons_succ,i64_w,i32_w]
                 rfl
                refine done_ (done_of HT_.out (by kernel_rfl)) ?_
                try go_wp2
                have n0_:=zm (zrD HO_123000.out)
                have n1_:=zm (zrD HO_123001.out)
                have n2_:=zm (zbD BK121.out)
                have n3_:=zm (zbD BK122.out)
                have n4_:=zm (zlD HB.out)
                clear HO_123000 HO_123001 BK121 BK122 HB
                have HO_123000:=n0_
                have HO_123001:=n1_
                have BK121:=n2_
                have BK122:=n3_
                have HB:=n4_
                clear n0_ n1_ n2_ n3_ n4_
                have p133:0≤(x8_3:Int):=of_decide_eq_true (by first|(with_reducible assumption)|assumption)
                have q133:x8_3 < (l1.length:Int):=of_decide_eq_true (by first|(with_reducible assumption)|assumption)
                obtain ⟨ad133,e133,hx133_0⟩:=Kd.at_int HR1.out x8_3 p133 q133
                have hw133_0:=hx133_0
                obtain rfl:ad129=ad133:=(by injection e133)
                replace hx133_0:=(HB.out.cell (World.block_lt_of_cell? w _ hx133_0)).trans hx133_0
                replace p133:=eq_true p133
                replace q133:=eq_true q133
                have p39:0≤((rd l1 x8_3):Int):=of_decide_eq_true (by first|(with_reducible assumption)|assumption)
                have q39:((rd l1 x8_3):Int) < ((x123000_3.length:Int):Int):=of_decide_eq_true (by first|(with_reducible assumption)|assumption)
                obtain ⟨go39,co39,eo39,gb39,gl39,cl39,HG39⟩:=Kd.R_form HO_123000.out (by omega)
                (first|cases eo39|(injection eo39 with ea_ en_ ec_;(first|subst ea_|(injection ea_ with ea_;subst ea_));subst ec_;clear en_))
                have GB39:=zm gb39
                have GG39:=zm HG39
                clear gb39 gl39 HG39
                (first|simp only [add_plain] at hx132_0|skip)
                obtain ⟨hx39_0,hf39_0⟩:=Kd.R_celln 0 HO_123000.out ((rd l1 x8_3):Int) p39 q39
                replace p39:=eq_true p39
                replace q39:=eq_true q39
                have HP43:=Kd.R_putn HO_123000.out ((rd l1 x8_3):Int) 6
                rw [← Ny134.out] at HP43
                have HQ43:=zm HP43
                clear HP43
                refine start_ (n:=8) (S:=fun w'=>w'.cell? ⟨gb122,0,none⟩=some (.slice (some ⟨go39,0,none⟩) x123000_3.length co41)∧w'.cell? ⟨gb122,1,none⟩=some (u123001)∧w'.cell? (ad129.add (x8_3).toNat)=some (.int .i64 (rd l1 x8_3))) (ds:=[7]) #[false,false,false,false,false,false,false,false] (by kernel_rfl) rfl rfl ⟨(blk_cell BK122.out 0).trans rfl,(blk_cell BK122.out 1).trans rfl,((HB.out.cell (World.block_lt_of_cell? w _ hw133_0)).trans hw133_0)⟩ (fun hHeld=>?_);refine with_tabW slipwayref04_New.tab14 slipwayref04_New.bits14 (fun HT_ HW_=>?_)
                generalize w40.drew=w42 at HO_123000 HO_123001 BK121 BK122 HB GG39 HQ43 hf39_0 hx132_0 hx133_0 hx39_0 hHeld ⊢
                refine pure_ (i:=0) (N:=some 63) (v:=?_) (a':=?_) #[true,false,false,false,false,false,false,false] rfl rfl (any_of HT_.out (by kernel_rfl)) (fun _ _ _ h=>h) (Or.inl ⟨by rfl,?_⟩) ?_ ?_
                rotate_left
                ·intro w'
                 go_simp
                 with_reducible rfl
                rotate_left
                ·simp only [Act.put,List.setIfInBounds_toArray,List.set_cons_zero,List.set_cons_succ,i64_w,i32_w]
                 rfl
                refine pure_ (i:=2) (N:=some 65) (v:=?_) (a':=?_) #[true,false,true,false,false,false,false,false] rfl rfl (any_of HT_.out (by kernel_rfl)) (fun _ _ _ h=>h) (Or.inl ⟨by rfl,?_⟩) ?_ ?_
                rotate_left
                ·intro w'
                 go_simp
                 with_reducible rfl
                rotate_left
                ·simp only [Act.put,List.setIfInBounds_toArray,List.set_cons_zero,List.set_cons_succ,i64_w,i32_w]
                 rfl
                refine pure_ (i:=3) (N:=some 66) (v:=?_) (a':=?_) #[true,false,true,true,false,false,false,false] rfl rfl (any_of HT_.out (by kernel_rfl)) (fun _ _ _ h=>h) (Or.inl ⟨by rfl,?_⟩) ?_ ?_
                rotate_left
                ·intro w'
                 go_simp
                 with_reducible rfl
                rotate_left
                ·simp only [Act.put,List.setIfInBounds_toArray,List.set_cons_zero,List.set_cons_succ,i64_w,i32_w]
                 rfl
                refine pure_ (i:=4) (N:=some 67) (v:=?_) (a':=?_) #[true,false,true,true,true,false,false,false] rfl rfl (any_of HT_.out (by kernel_rfl)) (fun _ _ _ h=>h) (Or.inl ⟨by rfl,?_⟩) ?_ ?_
                rotate_left
                ·intro w'
                 go_simp
                 with_reducible rfl
                rotate_left
                ·simp only [Act.put,List.setIfInBounds_toArray,List.set_cons_zero,List.set_cons_succ,i64_w,i32_w]
                 rfl
                refine take_ (i:=1) (N:=some 64) (v:=?_) (a':=?_) #[true,true,true,true,true,false,false,false] rfl rfl (take_ofW HT_.out HW_.out (by kernel_rfl)) (fun _ _ _ h=>h) (Or.inl ⟨by rfl,?_⟩) hHeld ?_ ?_
                rotate_left
                ·rintro w' ⟨s0,s1,s2⟩
                 go_simp
                 with_reducible rfl
                rotate_left
                ·simp only [Act.put,List.setIfInBounds_toArray,List.set_cons_zero,List.set_cons_succ,i64_w,i32_w]
                 rfl
                refine take_ (i:=5) (N:=some 68) (v:=?_) (a':=?_) #[true,true,true,true,true,true,false,false] rfl rfl (take_ofW HT_.out HW_.out (by kernel_rfl)) (fun _ _ _ h=>h) (Or.inl ⟨by rfl,?_⟩) hHeld ?_ ?_
                rotate_left
                ·rintro w' ⟨s0,s1,s2⟩
                 go_simp
                 with_reducible rfl
                rotate_left
                ·simp only [Act.put,List.setIfInBounds_toArray,List.set_cons_zero,List.set_cons_succ,i64_w,i32_w]
                 rfl
                refine pure_ (i:=6) (N:=some 69) (v:=?_) (a':=?_) #[true,true,true,true,true,true,true,false] rfl rfl (any_of HT_.out (by kernel_rfl)) (fun _ _ _ h=>h) (Or.inl ⟨by rfl,?_⟩) ?_ ?_
                rotate_left
                ·intro w'
                 go_simp
                 with_reducible rfl
                rotate_left
                ·simp only [Act.put,List.setIfInBounds_toArray,List.set_cons_zero,List.set_cons_succ,i64_w,i32_w]
                 rfl
                refine last_ (i:=7) (N:=none) #[true,true,true,true,true,true,true,true] rfl rfl (one_of HT_.out (by kernel_rfl)) (by decide) (fun K hK=>?_)
                refine skip_ (w1:=?_) (by rfl) rfl ?_ ?_
                rotate_left
                ·go_simp
                 rfl
                refine hK.out _ _ ?_
                clear hK K
                refine done_ (done_of HT_.out (by kernel_rfl)) ?_
                try go_wp2
                go_roundg k3
                case measure=>have:=HJ2.out;have:=HK2.out;have:=HK3.out;omega
                case rel=>exact ⟨(wrap64 (x8_3 + 1)),(y134),(.slice (some ⟨go39,0,none⟩) x123000_3.length co41),(by first|rfl|(simp;done)|(simp [*];done)),H',⟨by have:=HJ2.out;have:=HK2.out;have:=HK3.out;omega⟩,⟨by (with_reducible repeat (first|apply zrA|apply zrN|apply zrD));exact HQ43.out⟩,⟨by (with_reducible repeat (first|apply zrA|apply zrN|apply zrD));exact Kd.R_mono (Kd.R_far (p:=⟨go39,((rd l1 x8_3):Int).toNat,none⟩) (Kd.R_types HO_123001.out GG39.out (by decide)) (fun _ hk=>hk.2) (.int .i64 6)) (fun _ hk=>trivial)⟩,⟨by (with_reducible repeat (first|refine zbN ?_ _|refine zbD ?_|refine zbA ?_ _));refine blk_far ?_ (by have h_:=Kd.R_ne HO_123000.out BK121.out (by decide);intro e_;exact h_ (by rw [e_];rfl)) _;(with_reducible repeat (first|refine zbN ?_ _|refine zbD ?_|refine zbA ?_ _));exact BK121.out⟩,⟨by (with_reducible repeat (first|refine zbN ?_ _|refine zbD ?_|refine zbA ?_ _));refine blk_far ?_ (by have h_:=Kd.R_ne HO_123000.out BK122.out (by decide);intro e_;exact h_ (by rw [e_];rfl)) _;(with_reducible repeat (first|refine zbN ?_ _|refine zbD ?_|refine zbA ?_ _));exact BK122.out⟩,⟨by repeat (first|(with_reducible first|exact HB.out|apply zlA|apply zlN|apply zlD|refine zlS ?_ GB39.out|refine zlS ?_ GE121.out|refine zlS ?_ GE122.out)|exact HB.out)⟩⟩
              ·rw [if_neg c33] at H
               exact absurd H (by simp)
             ·rw [if_neg c32] at H
              exact absurd H (by simp)
          ·rw [if_neg c23] at H
           exact absurd H (by simp)
         ·rw [if_neg c22] at H
          have c22b0:decide (x8_3 < (l1.length:Int))=false:=decide_eq_false c22
          clear c22
          simp only [Option.some.injEq,Prod.mk.injEq] at H
          obtain ⟨rfl,rfl,rfl⟩:=H
          have hnb44:=NB122_121.out
          have hnc44:=NB121_122.out
          have hcz45_0:wr.cell? ⟨gb122,0,none⟩=some (u123000):=(blk_cell BK122.out 0).trans rfl
          have hcz45_1:wr.cell? ⟨gb122,1,none⟩=some (u123001):=(blk_cell BK122.out 1).trans rfl
          have hfz45_0:=blk_frozen BK122.out 0
          have hfz45_1:=blk_frozen BK122.out 1
          obtain ⟨Ao46,co46,eo46⟩:=Kd.R_slice HO_123000.out
          subst eo46
          have hcz47_0:wr.cell? ⟨gb121,0,none⟩=some (.slice none 0 0):=(blk_cell BK121.out 0).trans rfl
          have hcz47_1:wr.cell? ⟨gb121,1,none⟩=some (.slice none 0 0):=(blk_cell BK121.out 1).trans rfl
          have hfz47_0:=blk_frozen BK121.out 0
          have hfz47_1:=blk_frozen BK121.out 1
          obtain ⟨Ao48,co48,eo48⟩:=Kd.R_slice HO_123001.out
          subst eo48
          go_wp2
          refine bodyPost_ret (results_ct rfl _ _ gb121 25 #[.slice Ao46 x123000_3.length co46,.slice Ao48 x123001_2.length co48] (0,0) _ rfl (by (with_reducible repeat (first|refine zbN ?_ _|refine zbD ?_|refine zbA ?_ _));refine blk_put (cs:=#[.slice Ao46 x123000_3.length co46,.slice none 0 0]) ?_ 1 _ rfl;(with_reducible repeat (first|refine zbN ?_ _|refine zbD ?_|refine zbA ?_ _));refine blk_put (cs:=#[.slice none 0 0,.slice none 0 0]) ?_ 0 _ rfl;(with_reducible repeat (first|refine zbN ?_ _|refine zbD ?_|refine zbA ?_ _));exact BK121.out) Try.underlying25 rfl (by kernel_rfl)) rfl ?_
          exact ⟨_,_,by first|rfl|(simp [errW_none,errW_some] <;> rfl)|(simp [*,errW_none,errW_some] <;> rfl),by (with_reducible repeat (first|apply zrA|apply zrN|apply zrD));exact Kd.R_mono (Kd.R_far (p:=⟨gb121,1,none⟩) (Kd.R_far (p:=⟨gb121,0,none⟩) (Kd.R_types HO_123000.out BK121.out (by decide)) (fun _ hk=>hk.2) (.slice Ao46 x123000_3.length co46)) (fun _ hk=>hk.2) (.slice Ao48 x123001_2.length co48)) (fun _ hk=>trivial),by (with_reducible repeat (first|apply zrA|apply zrN|apply zrD));exact Kd.R_mono (Kd.R_far (p:=⟨gb121,1,none⟩) (Kd.R_far (p:=⟨gb121,0,none⟩) (Kd.R_types HO_123001.out BK121.out (by decide)) (fun _ hk=>hk.2) (.slice Ao46 x123000_3.length co46)) (fun _ hk=>hk.2) (.slice Ao48 x123001_2.length co48)) (fun _ hk=>trivial),by repeat (first|(with_reducible first|exact HB.out|apply zlA|apply zlN|apply zlD|refine zlS ?_ GE121.out|refine zlS ?_ GE122.out)|exact HB.out)⟩
end Go.Proofs.Ytlegmnpngcadhaa.Print
end
section
namespace Go.Proofs.Ytlegmnpngcadhaa.Print
open Go.RowKit Go.Proofs.YtlegmnpngcadhaaW.PrintWords Go.Proofs.YtlegmnpngcadhaaW.PrintLast Go.Proofs.YtlegmnpngcadhaaW.PrintMore
attribute [local go_sem] max2_int min2_int max_two min_two max_three min_three max_four min_four   -- for this text's walks alone
attribute [local go_sem ↓] Go.Proofs.Ytlegmnpngcadhaa.Sem.isSome_setCell
attribute [local go_sem] Go.Instr.field Go.asAgg
set_option linter.unusedVariables false
set_option linter.unusedSimpArgs false
mutual
def pool_Capacity.j0:Nat → Int → Int → Int → Bool → Int → Int → Option (Int × Int)
 | 0,_,_,_,_,_,_=>none
 | k + 1,x1,x2,x3,x11,x136000,x136001=>if x11=true then (some (0,20)) else (if x1 < 0 then (pool_Capacity.j1 k x1 x2 x3 true x136000 x136001) else (if x1 > x136000 then (pool_Capacity.j1 k x1 x2 x3 true x136000 x136001) else (if x2 < 1 then (pool_Capacity.j1 k x1 x2 x3 true x136000 x136001) else (if x2 > 8 then (pool_Capacity.j1 k x1 x2 x3 true x136000 x136001) else (if x3 < 0 then (pool_Capacity.j1 k x1 x2 x3 true x136000 x136001) else (pool_Capacity.j1 k x1 x2 x3 (decide (x3 > x136000)) x136000 x136001))))))
def pool_Capacity.j1:Nat → Int → Int → Int → Bool → Int → Int → Option (Int × Int)
 | 0,_,_,_,_,_,_=>none
 | k + 1,x1,x2,x3,x34,x136000,x136001=>if x34=true then (some (0,1)) else (if (wrap64 ((wrap64 ((wrap64 ((wrap64 ((wrap64 (x136000 - x1)) - x2)) - 1)) - 4)) - x3)) < 1 then (some (0,42)) else (some (wrap64 ((wrap64 ((wrap64 ((wrap64 ((wrap64 (x136000 - x1)) - x2)) - 1)) - 4)) - x3),0)))
end
def pool_Capacity.f (k:Nat) (a0_0:Int) (a0_1:Int) (a1:Int) (a2:Int) (a3:Int):Option (Int × Int):=(pool_blocks.f a0_0).bind fun t136=>(if t136=true then (if a0_1 < 4 then (pool_Capacity.j0 k a1 a2 a3 true a0_0 a0_1) else (if a0_1 > 32 then (pool_Capacity.j0 k a1 a2 a3 true a0_0 a0_1) else (pool_Capacity.j0 k a1 a2 a3 (decide (a0_0 > (wrap64 (16 * a0_1)))) a0_0 a0_1))) else (pool_Capacity.j0 k a1 a2 a3 true a0_0 a0_1))
theorem pool_Capacity.mono_l:∀ k,(∀ y0 y1 y2 y3 y4 y5,LeO (pool_Capacity.j0 k y0 y1 y2 y3 y4 y5) (pool_Capacity.j0 (k + 1) y0 y1 y2 y3 y4 y5))∧(∀ y0 y1 y2 y3 y4 y5,LeO (pool_Capacity.j1 k y0 y1 y2 y3 y4 y5) (pool_Capacity.j1 (k + 1) y0 y1 y2 y3 y4 y5))
 | 0=>⟨fun _ _ _ _ _ _ r h=>by simp [pool_Capacity.j0] at h,fun _ _ _ _ _ _ r h=>by simp [pool_Capacity.j1] at h⟩
 | k + 1=>by
  obtain ⟨ih0,ih1⟩:=pool_Capacity.mono_l k
  refine ⟨?_,?_⟩
  ·intro y0 y1 y2 y3 y4 y5
   unfold pool_Capacity.j0
   repeat' first
   | (with_reducible exact ih0 _ _ _ _ _ _)
   | (with_reducible exact ih1 _ _ _ _ _ _)
   | (with_reducible exact LeO.refl _)
   | (with_reducible exact LeO.none _)
   | (with_reducible refine LeO.ite ?_ ?_)
   | (with_reducible refine LeO.bind ?_ (fun _=>?_))
   | exact ih0 _ _ _ _ _ _
   | exact ih1 _ _ _ _ _ _
   | exact LeO.none _
   | refine LeO.ite ?_ ?_
   | refine LeO.bind ?_ (fun _=>?_)
  ·intro y0 y1 y2 y3 y4 y5
   unfold pool_Capacity.j1
   repeat' first
   | (with_reducible exact ih0 _ _ _ _ _ _)
   | (with_reducible exact ih1 _ _ _ _ _ _)
   | (with_reducible exact LeO.refl _)
   | (with_reducible exact LeO.none _)
   | (with_reducible refine LeO.ite ?_ ?_)
   | (with_reducible refine LeO.bind ?_ (fun _=>?_))
   | exact ih0 _ _ _ _ _ _
   | exact ih1 _ _ _ _ _ _
   | exact LeO.none _
   | refine LeO.ite ?_ ?_
   | refine LeO.bind ?_ (fun _=>?_)
theorem pool_Capacity.mono:∀ a0 a1 a2 a3 a4 k,LeO (pool_Capacity.f k a0 a1 a2 a3 a4) (pool_Capacity.f (k + 1) a0 a1 a2 a3 a4):=by
 intro a0 a1 a2 a3 a4 k
 obtain ⟨ih0,ih1⟩:=pool_Capacity.mono_l k
 unfold pool_Capacity.f
 repeat' first
   | (with_reducible exact ih0 _ _ _ _ _ _)
   | (with_reducible exact ih1 _ _ _ _ _ _)
   | (with_reducible exact LeO.refl _)
   | (with_reducible exact LeO.none _)
   | (with_reducible refine LeO.ite ?_ ?_)
   | (with_reducible refine LeO.bind ?_ (fun _=>?_))
   | exact ih0 _ _ _ _ _ _
   | exact ih1 _ _ _ _ _ _
   | exact LeO.none _
   | refine LeO.ite ?_ ?_
   | refine LeO.bind ?_ (fun _=>?_)
set_option maxHeartbeats 8000000 in
set_option maxRecDepth 100000 in
theorem pool_Capacity.calls (k:Nat) (a0_0:Int) (a0_1:Int) (a1:Int) (a2:Int) (a3:Int) (r1:Int) (r2:Int) (w:World) (h:pool_Capacity.f k a0_0 a0_1 a1 a2 a3=some (r1,r2)) :
  Calls Try.prog 10 #[.agg #[.int .i64 a0_0,.int .i64 a0_1],.int .i64 a1,.int .i64 a2,.int .i64 a3] w fun e w'=>e=.returned (.tuple #[.int .i64 r1,.int .i64 r2])∧Below w.heap.size w w':=by
 have hu27:=Try.underlying27
 have HB:=zm (Below.refl w.heap.size w)
 have H:((pool_blocks.f a0_0).bind fun t136=>(if t136=true then (if a0_1 < 4 then (pool_Capacity.j0 k a1 a2 a3 true a0_0 a0_1) else (if a0_1 > 32 then (pool_Capacity.j0 k a1 a2 a3 true a0_0 a0_1) else (pool_Capacity.j0 k a1 a2 a3 (decide (a0_0 > (wrap64 (16 * a0_1)))) a0_0 a0_1))) else (pool_Capacity.j0 k a1 a2 a3 true a0_0 a0_1)))=some (r1,r2):=h
 clear h
 have HC5:=zm H
 clear H
 go_enter Try.func10,Try.ntmps10
 go_upto_region 1 with (first|((with_reducible refine gate_dst (N:=4) rfl ?_);refine box_event ?hg (N:=4) ?hd (cs:=#[.int .i64 a0_0,.int .i64 a0_1]) (t:=27) ?hr ?_;(case hd=>rfl);(case hg=>rfl);(case hr=>first|(go_simp;done)|(go_simp;rfl));intro gb135 hg w6 hbox hb;have n0_:=zm (below_step (by repeat (first|(with_reducible first|exact HB.out|apply zlA|apply zlN|apply zlD)|exact HB.out)) hb);have n1_:=zm (hbox);have n2_:=zm ((by rw [hg];exact (below_size (by repeat (first|(with_reducible first|exact HB.out|apply zlA|apply zlN|apply zlD)|exact HB.out))):w.heap.size≤gb135));have n3_:=zm ((by rw [hg];exact (below_size (by repeat (first|(with_reducible first|exact HB.out|apply zlA|apply zlN|apply zlD)|exact HB.out))):w.heap.size≤gb135));clear HB;have HB:=n0_;have BK135:=n1_;have GW135:=n2_;have GE135:=n3_;clear n0_ n1_ n2_ n3_;clear hb hbox hg))
 (try simp only [Act.put,List.setIfInBounds_toArray,List.set_cons_zero,List.set_cons_succ])
 go_cut [11] (fun v11 wc=>∃ (kq:Nat) (x11_4:Bool),v11=.bool x11_4∧Aside0 (pool_Capacity.j0 kq a1 a2 a3 x11_4 a0_0 a0_1=some (r1,r2))∧Aside0 (kq≤k)∧Aside0 (wc.heap[gb135]?=some (.cells #[.int .i64 a0_0,.int .i64 a0_1] 27 (0,0)))∧Aside0 (Below w.heap.size w wc))
 case first =>
  have H:=HC5.out
  clear HC5
  replace H:=Option.bind_eq_some_iff.mp H
  obtain ⟨t136,A70,H⟩:=H
  replace H:(if t136=true then (if a0_1 < 4 then (pool_Capacity.j0 k a1 a2 a3 true a0_0 a0_1) else (if a0_1 > 32 then (pool_Capacity.j0 k a1 a2 a3 true a0_0 a0_1) else (pool_Capacity.j0 k a1 a2 a3 (decide (a0_0 > (wrap64 (16 * a0_1)))) a0_0 a0_1))) else (pool_Capacity.j0 k a1 a2 a3 true a0_0 a0_1))=some (r1,r2):=H
  have A7:=zm A70
  clear A70
  by_cases c8:t136=true
  ·subst c8
   have H1:(if a0_1 < 4 then (pool_Capacity.j0 k a1 a2 a3 true a0_0 a0_1) else (if a0_1 > 32 then (pool_Capacity.j0 k a1 a2 a3 true a0_0 a0_1) else (pool_Capacity.j0 k a1 a2 a3 (decide (a0_0 > (wrap64 (16 * a0_1)))) a0_0 a0_1)))=some (r1,r2):=by rw [if_pos rfl] at H;exact H
   clear H
   have H:=H1
   clear H1
   by_cases c9:a0_1 < 4
   ·rw [if_pos c9] at H
    have c9b0:decide (a0_1 < 4)=true:=decide_eq_true c9
    clear c9
    (first|rw [c9b0]|(simp only [i64_w,i32_w];rw [c9b0])|skip)
    have H':=zm H
    clear H
    have hcz10_0:w6.cell? ⟨gb135,0,none⟩=some (.int .i64 a0_0):=(blk_cell BK135.out 0).trans rfl
    have hcz10_1:w6.cell? ⟨gb135,1,none⟩=some (.int .i64 a0_1):=(blk_cell BK135.out 1).trans rfl
    have hfz10_0:=blk_frozen BK135.out 0
    have hfz10_1:=blk_frozen BK135.out 1
    go_wp2_with (first|((with_reducible refine gate_callee (f:=35) rfl ?_);refine goesL_ (some 14) rfl rfl Try.func35 (by kernel_rfl) rfl #[.int .i64 a0_0] rfl (by (try simp only [List.map_toArray,List.map_cons,List.map_nil]);first|done|rfl|(simp only [List.length_drop,List.length_take];rfl)) ?_;(with_reducible refine (pool_blocks.calls a0_0 true _ A7.out).mono ?_);rintro e w' ⟨rfl,⟨nd,rfl⟩⟩;refine ⟨_,rfl,?_⟩))
    go_meet
    case rel=>exact ⟨_,(true),(by first|rfl|(simp;done)|(simp [*];done)),H',⟨by first|omega|exact Nat.le_refl _⟩,⟨by (with_reducible repeat (first|refine zbN ?_ _|refine zbD ?_|refine zbA ?_ _));exact BK135.out⟩,⟨by repeat (first|(with_reducible first|exact HB.out|apply zlA|apply zlN|apply zlD|refine zlS ?_ GE135.out)|exact HB.out)⟩⟩
   ·rw [if_neg c9] at H
    have c9b0:decide (a0_1 < 4)=false:=decide_eq_false c9
    clear c9
    (first|rw [c9b0]|(simp only [i64_w,i32_w];rw [c9b0])|skip)
    by_cases c11:a0_1 > 32
    ·rw [if_pos c11] at H
     have c11b0:decide (32 < a0_1)=true:=decide_eq_true c11
     clear c11
     have H':=zm H
     clear H
     have hcz12_0:w6.cell? ⟨gb135,0,none⟩=some (.int .i64 a0_0):=(blk_cell BK135.out 0).trans rfl
     have hcz12_1:w6.cell? ⟨gb135,1,none⟩=some (.int .i64 a0_1):=(blk_cell BK135.out 1).trans rfl
     have hfz12_0:=blk_frozen BK135.out 0
     have hfz12_1:=blk_frozen BK135.out 1
     go_wp2_with (first|((with_reducible refine gate_callee (f:=35) rfl ?_);refine goesL_ (some 14) rfl rfl Try.func35 (by kernel_rfl) rfl #[.int .i64 a0_0] rfl (by (try simp only [List.map_toArray,List.map_cons,List.map_nil]);first|done|rfl|(simp only [List.length_drop,List.length_take];rfl)) ?_;(with_reducible refine (pool_blocks.calls a0_0 true _ A7.out).mono ?_);rintro e w' ⟨rfl,⟨nd,rfl⟩⟩;refine ⟨_,rfl,?_⟩))
     go_meet
     case rel=>exact ⟨_,(true),(by first|rfl|(simp;done)|(simp [*];done)),H',⟨by first|omega|exact Nat.le_refl _⟩,⟨by (with_reducible repeat (first|refine zbN ?_ _|refine zbD ?_|refine zbA ?_ _));exact BK135.out⟩,⟨by repeat (first|(with_reducible first|exact HB.out|apply zlA|apply zlN|apply zlD|refine zlS ?_ GE135.out)|exact HB.out)⟩⟩
    ·rw [if_neg c11] at H
     have c11b0:decide (32 < a0_1)=false:=decide_eq_false c11
     clear c11
     have H':=zm H
     clear H
     have hcz13_0:w6.cell? ⟨gb135,0,none⟩=some (.int .i64 a0_0):=(blk_cell BK135.out 0).trans rfl
     have hcz13_1:w6.cell? ⟨gb135,1,none⟩=some (.int .i64 a0_1):=(blk_cell BK135.out 1).trans rfl
     have hfz13_0:=blk_frozen BK135.out 0
     have hfz13_1:=blk_frozen BK135.out 1
     go_wp2_with (first|((with_reducible refine gate_callee (f:=35) rfl ?_);refine goesL_ (some 14) rfl rfl Try.func35 (by kernel_rfl) rfl #[.int .i64 a0_0] rfl (by (try simp only [List.map_toArray,List.map_cons,List.map_nil]);first|done|rfl|(simp only [List.length_drop,List.length_take];rfl)) ?_;(with_reducible refine (pool_blocks.calls a0_0 true _ A7.out).mono ?_);rintro e w' ⟨rfl,⟨nd,rfl⟩⟩;refine ⟨_,rfl,?_⟩))
     go_meet
     case rel=>exact ⟨_,(decide (a0_0 > (wrap64 (16 * a0_1)))),(by first|rfl|(simp;done)|(simp [*];done)),H',⟨by first|omega|exact Nat.le_refl _⟩,⟨by (with_reducible repeat (first|refine zbN ?_ _|refine zbD ?_|refine zbA ?_ _));exact BK135.out⟩,⟨by repeat (first|(with_reducible first|exact HB.out|apply zlA|apply zlN|apply zlD|refine zlS ?_ GE135.out)|exact HB.out)⟩⟩
  ·replace c8:=Bool.eq_false_iff.mpr c8
   subst c8
   have H1:(pool_Capacity.j0 k a1 a2 a3 true a0_0 a0_1)=some (r1,r2):=by rw [if_neg (show ¬ (false=true) by decide)] at H;exact H
   clear H
   have H:=H1
   clear H1
   have H':=zm H
   clear H
   have hcz14_0:w6.cell? ⟨gb135,0,none⟩=some (.int .i64 a0_0):=(blk_cell BK135.out 0).trans rfl
   have hcz14_1:w6.cell? ⟨gb135,1,none⟩=some (.int .i64 a0_1):=(blk_cell BK135.out 1).trans rfl
   have hfz14_0:=blk_frozen BK135.out 0
   have hfz14_1:=blk_frozen BK135.out 1
   go_wp2_with (first|((with_reducible refine gate_callee (f:=35) rfl ?_);refine goesL_ (some 14) rfl rfl Try.func35 (by kernel_rfl) rfl #[.int .i64 a0_0] rfl (by (try simp only [List.map_toArray,List.map_cons,List.map_nil]);first|done|rfl|(simp only [List.length_drop,List.length_take];rfl)) ?_;(with_reducible refine (pool_blocks.calls a0_0 false _ A7.out).mono ?_);rintro e w' ⟨rfl,⟨nd,rfl⟩⟩;refine ⟨_,rfl,?_⟩))
   go_meet
   case rel=>exact ⟨_,(true),(by first|rfl|(simp;done)|(simp [*];done)),H',⟨by first|omega|exact Nat.le_refl _⟩,⟨by (with_reducible repeat (first|refine zbN ?_ _|refine zbD ?_|refine zbA ?_ _));exact BK135.out⟩,⟨by repeat (first|(with_reducible first|exact HB.out|apply zlA|apply zlN|apply zlD|refine zlS ?_ GE135.out)|exact HB.out)⟩⟩
 case rest =>
  clear HC5
  try clear c1
  try clear p2
  try clear c3
  try clear p6
  try clear c8
  try clear c9
  try clear c9b0
  try clear c10
  try clear c11
  try clear c11b0
  try clear hcz10_0
  try clear hcz10_1
  try clear hcz12_0
  try clear hcz12_1
  try clear hcz13_0
  try clear hcz13_1
  try clear hcz14_0
  try clear hcz14_1
  try clear hfz10_0
  try clear hfz10_1
  try clear hfz12_0
  try clear hfz12_1
  try clear hfz13_0
  try clear hfz13_1
  try clear hfz14_0
  try clear hfz14_1
  obtain ⟨kq,x11_4,rfl,HA,HJ4,BK135,HB⟩:=hcut
  cases kq with
  | zero=>exact absurd HA.out (by simp [pool_Capacity.j0])
  | succ kj4 =>
   have H:=HA.out
   clear HA
   simp only [pool_Capacity.j0] at H
   by_cases c15:x11_4=true
   ·subst c15
    have H1:(some (0,20))=some (r1,r2):=by rw [if_pos rfl] at H;exact H
    clear H
    have H:=H1
    clear H1
    simp only [Option.some.injEq,Prod.mk.injEq] at H
    obtain ⟨rfl,rfl⟩:=H
    go_wp2
    go_ret2
    exact ⟨by first|rfl|(simp [errW_none,errW_some] <;> rfl)|(simp [*,errW_none,errW_some] <;> rfl),by repeat (first|(with_reducible first|exact HB.out|apply zlA|apply zlN|apply zlD|refine zlS ?_ GE135.out)|exact HB.out)⟩
   ·replace c15:=Bool.eq_false_iff.mpr c15
    subst c15
    have H1:(if a1 < 0 then (pool_Capacity.j1 kj4 a1 a2 a3 true a0_0 a0_1) else (if a1 > a0_0 then (pool_Capacity.j1 kj4 a1 a2 a3 true a0_0 a0_1) else (if a2 < 1 then (pool_Capacity.j1 kj4 a1 a2 a3 true a0_0 a0_1) else (if a2 > 8 then (pool_Capacity.j1 kj4 a1 a2 a3 true a0_0 a0_1) else (if a3 < 0 then (pool_Capacity.j1 kj4 a1 a2 a3 true a0_0 a0_1) else (pool_Capacity.j1 kj4 a1 a2 a3 (decide (a3 > a0_0)) a0_0 a0_1))))))=some (r1,r2):=by rw [if_neg (show ¬ (false=true) by decide)] at H;exact H
    clear H
    have H:=H1
    clear H1
    have HC16:=zm H
    clear H
    go_upto_region 3 with (fail)
    go_cut [34] (fun v34 wc=>∃ (kq:Nat) (x34_15:Bool),v34=.bool x34_15∧Aside0 (pool_Capacity.j1 kq a1 a2 a3 x34_15 a0_0 a0_1=some (r1,r2))∧Aside0 (kq≤kj4)∧Aside0 (wc.heap[gb135]?=some (.cells #[.int .i64 a0_0,.int .i64 a0_1] 27 (0,0)))∧Aside0 (Below w.heap.size w wc))
    case first =>
     have H:=HC16.out
     clear HC16
     by_cases c17:a1 < 0
     ·rw [if_pos c17] at H
      have c17b0:decide (a1 < 0)=true:=decide_eq_true c17
      clear c17
      (first|rw [c17b0]|(simp only [i64_w,i32_w];rw [c17b0])|skip)
      have H':=zm H
      clear H
      go_wp2
      go_meet
      case rel=>exact ⟨_,(true),(by first|rfl|(simp;done)|(simp [*];done)),H',⟨by have:=HJ4.out;first|omega|exact Nat.le_refl _⟩,⟨by (with_reducible repeat (first|refine zbN ?_ _|refine zbD ?_|refine zbA ?_ _));exact BK135.out⟩,⟨by repeat (first|(with_reducible first|exact HB.out|apply zlA|apply zlN|apply zlD|refine zlS ?_ GE135.out)|exact HB.out)⟩⟩
     ·rw [if_neg c17] at H
      have c17b0:decide (a1 < 0)=false:=decide_eq_false c17
      clear c17
      (first|rw [c17b0]|(simp only [i64_w,i32_w];rw [c17b0])|skip)
      by_cases c18:a1 > a0_0
      ·rw [if_pos c18] at H
       have c18b0:decide (a0_0 < a1)=true:=decide_eq_true c18
       clear c18
       have H':=zm H
       clear H
       have hcz19_0:wc.cell? ⟨gb135,0,none⟩=some (.int .i64 a0_0):=(blk_cell BK135.out 0).trans rfl
       have hcz19_1:wc.cell? ⟨gb135,1,none⟩=some (.int .i64 a0_1):=(blk_cell BK135.out 1).trans rfl
       have hfz19_0:=blk_frozen BK135.out 0
       have hfz19_1:=blk_frozen BK135.out 1
       go_wp2
       go_meet
       case rel=>exact ⟨_,(true),(by first|rfl|(simp;done)|(simp [*];done)),H',⟨by have:=HJ4.out;first|omega|exact Nat.le_refl _⟩,⟨by (with_reducible repeat (first|refine zbN ?_ _|refine zbD ?_|refine zbA ?_ _));exact BK135.out⟩,⟨by repeat (first|(with_reducible first|exact HB.out|apply zlA|apply zlN|apply zlD|refine zlS ?_ GE135.out)|exact HB.out)⟩⟩
      ·rw [if_neg c18] at H
       have c18b0:decide (a0_0 < a1)=false:=decide_eq_false c18
       clear c18
       by_cases c20:a2 < 1
       ·rw [if_pos c20] at H
        have c20b0:decide (a2 < 1)=true:=decide_eq_true c20
        clear c20
        have H':=zm H
        clear H
        have hcz21_0:wc.cell? ⟨gb135,0,none⟩=some (.int .i64 a0_0):=(blk_cell BK135.out 0).trans rfl
        have hcz21_1:wc.cell? ⟨gb135,1,none⟩=some (.int .i64 a0_1):=(blk_cell BK135.out 1).trans rfl
        have hfz21_0:=blk_frozen BK135.out 0
        have hfz21_1:=blk_frozen BK135.out 1
        go_wp2
        go_meet
        case rel=>exact ⟨_,(true),(by first|rfl|(simp;done)|(simp [*];done)),H',⟨by have:=HJ4.out;first|omega|exact Nat.le_refl _⟩,⟨by (with_reducible repeat (first|refine zbN ?_ _|refine zbD ?_|refine zbA ?_ _));exact BK135.out⟩,⟨by repeat (first|(with_reducible first|exact HB.out|apply zlA|apply zlN|apply zlD|refine zlS ?_ GE135.out)|exact HB.out)⟩⟩
       ·rw [if_neg c20] at H
        have c20b0:decide (a2 < 1)=false:=decide_eq_false c20
        clear c20
        by_cases c22:a2 > 8
        ·rw [if_pos c22] at H
         have c22b0:decide (8 < a2)=true:=decide_eq_true c22
         clear c22
         have H':=zm H
         clear H
         have hcz23_0:wc.cell? ⟨gb135,0,none⟩=some (.int .i64 a0_0):=(blk_cell BK135.out 0).trans rfl
         have hcz23_1:wc.cell? ⟨gb135,1,none⟩=some (.int .i64 a0_1):=(blk_cell BK135.out 1).trans rfl
         have hfz23_0:=blk_frozen BK135.out 0
         have hfz23_1:=blk_frozen BK135.out 1
         go_wp2
         go_meet
         case rel=>exact ⟨_,(true),(by first|rfl|(simp;done)|(simp [*];done)),H',⟨by have:=HJ4.out;first|omega|exact Nat.le_refl _⟩,⟨by (with_reducible repeat (first|refine zbN ?_ _|refine zbD ?_|refine zbA ?_ _));exact BK135.out⟩,⟨by repeat (first|(with_reducible first|exact HB.out|apply zlA|apply zlN|apply zlD|refine zlS ?_ GE135.out)|exact HB.out)⟩⟩
        ·rw [if_neg c22] at H
         have c22b0:decide (8 < a2)=false:=decide_eq_false c22
         clear c22
         by_cases c24:a3 < 0
         ·rw [if_pos c24] at H
          have c24b0:decide (a3 < 0)=true:=decide_eq_true c24
          clear c24
          have H':=zm H
          clear H
          have hcz25_0:wc.cell? ⟨gb135,0,none⟩=some (.int .i64 a0_0):=(blk_cell BK135.out 0).trans rfl
          have hcz25_1:wc.cell? ⟨gb135,1,none⟩=some (.int .i64 a0_1):=(blk_cell BK135.out 1).trans rfl
          have hfz25_0:=blk_frozen BK135.out 0
          have hfz25_1:=blk_frozen BK135.out 1
          go_wp2
          go_meet
          case rel=>exact ⟨_,(true),(by first|rfl|(simp;done)|(simp [*];done)),H',⟨by have:=HJ4.out;first|omega|exact Nat.le_refl _⟩,⟨by (with_reducible repeat (first|refine zbN ?_ _|refine zbD ?_|refine zbA ?_ _));exact BK135.out⟩,⟨by repeat (first|(with_reducible first|exact HB.out|apply zlA|apply zlN|apply zlD|refine zlS ?_ GE135.out)|exact HB.out)⟩⟩
         ·rw [if_neg c24] at H
          have c24b0:decide (a3 < 0)=false:=decide_eq_false c24
          clear c24
          have H':=zm H
          clear H
          have hcz26_0:wc.cell? ⟨gb135,0,none⟩=some (.int .i64 a0_0):=(blk_cell BK135.out 0).trans rfl
          have hcz26_1:wc.cell? ⟨gb135,1,none⟩=some (.int .i64 a0_1):=(blk_cell BK135.out 1).trans rfl
          have hfz26_0:=blk_frozen BK135.out 0
          have hfz26_1:=blk_frozen BK135.out 1
          go_wp2
          go_meet
          case rel=>exact ⟨_,(decide (a3 > a0_0)),(by first|rfl|(simp;done)|(simp [*];done)),H',⟨by have:=HJ4.out;first|omega|exact Nat.le_refl _⟩,⟨by (with_reducible repeat (first|refine zbN ?_ _|refine zbD ?_|refine zbA ?_ _));exact BK135.out⟩,⟨by repeat (first|(with_reducible first|exact HB.out|apply zlA|apply zlN|apply zlD|refine zlS ?_ GE135.out)|exact HB.out)⟩⟩
    case rest =>
     clear HC16
     try clear c1
     try clear c2
     try clear p2
     try clear c3
     try clear p6
     try clear c8
     try clear c9
     try clear c9b0
     try clear c10
     try clear c11
     try clear c11b0
     try clear c15
     try clear c17
     try clear c17b0
     try clear c18
     try clear c18b0
     try clear c20
     try clear c20b0
     try clear c22
     try clear c22b0
     try clear c24
     try clear c24b0
     try clear hcz10_0
     try clear hcz10_1
     try clear hcz12_0
     try clear hcz12_1
     try clear hcz13_0
     try clear hcz13_1
     try clear hcz14_0
     try clear hcz14_1
     try clear hcz19_0
     try clear hcz19_1
     try clear hcz21_0
     try clear hcz21_1
     try clear hcz23_0
     try clear hcz23_1
     try clear hcz25_0
     try clear hcz25_1
     try clear hcz26_0
     try clear hcz26_1
     try clear hfz10_0
     try clear hfz10_1
     try clear hfz12_0
     try clear hfz12_1
     try clear hfz13_0
     try clear hfz13_1
     try clear hfz14_0
     try clear hfz14_1
     try clear hfz19_0
     try clear hfz19_1
     try clear hfz21_0
     try clear hfz21_1
     try clear hfz23_0
     try clear hfz23_1
     try clear hfz25_0
     try clear hfz25_1
     try clear hfz26_0
     try clear hfz26_1
     try clear p2
     try clear p6
     obtain ⟨kq,x34_15,rfl,HA,HJ15,BK135,HB⟩:=hcut
     cases kq with
     | zero=>exact absurd HA.out (by simp [pool_Capacity.j1])
     | succ kj15 =>
      have H:=HA.out
      clear HA
      simp only [pool_Capacity.j1] at H
      by_cases c27:x34_15=true
      ·subst c27
       have H1:(some (0,1))=some (r1,r2):=by rw [if_pos rfl] at H;exact H
       clear H
       have H:=H1
       clear H1
       simp only [Option.some.injEq,Prod.mk.injEq] at H
       obtain ⟨rfl,rfl⟩:=H
       go_wp2
       go_ret2
       exact ⟨by first|rfl|(simp [errW_none,errW_some] <;> rfl)|(simp [*,errW_none,errW_some] <;> rfl),by repeat (first|(with_reducible first|exact HB.out|apply zlA|apply zlN|apply zlD|refine zlS ?_ GE135.out)|exact HB.out)⟩
      ·replace c27:=Bool.eq_false_iff.mpr c27
       subst c27
       have H1:(if (wrap64 ((wrap64 ((wrap64 ((wrap64 ((wrap64 (a0_0 - a1)) - a2)) - 1)) - 4)) - a3)) < 1 then (some (0,42)) else (some (wrap64 ((wrap64 ((wrap64 ((wrap64 ((wrap64 (a0_0 - a1)) - a2)) - 1)) - 4)) - a3),0)))=some (r1,r2):=by rw [if_neg (show ¬ (false=true) by decide)] at H;exact H
       clear H
       have H:=H1
       clear H1
       by_cases c28:(wrap64 ((wrap64 ((wrap64 ((wrap64 ((wrap64 (a0_0 - a1)) - a2)) - 1)) - 4)) - a3)) < 1
       ·rw [if_pos c28] at H
        have c28b0:decide ((wrap64 ((wrap64 ((wrap64 ((wrap64 ((wrap64 (a0_0 - a1)) - a2)) - 1)) - 4)) - a3)) < 1)=true:=decide_eq_true c28
        clear c28
        simp only [Option.some.injEq,Prod.mk.injEq] at H
        obtain ⟨rfl,rfl⟩:=H
        have hcz29_0:wc.cell? ⟨gb135,0,none⟩=some (.int .i64 a0_0):=(blk_cell BK135.out 0).trans rfl
        have hcz29_1:wc.cell? ⟨gb135,1,none⟩=some (.int .i64 a0_1):=(blk_cell BK135.out 1).trans rfl
        have hfz29_0:=blk_frozen BK135.out 0
        have hfz29_1:=blk_frozen BK135.out 1
        go_wp2
        go_ret2
        exact ⟨by first|rfl|(simp [errW_none,errW_some] <;> rfl)|(simp [*,errW_none,errW_some] <;> rfl),by repeat (first|(with_reducible first|exact HB.out|apply zlA|apply zlN|apply zlD|refine zlS ?_ GE135.out)|exact HB.out)⟩
       ·rw [if_neg c28] at H
        have c28b0:decide ((wrap64 ((wrap64 ((wrap64 ((wrap64 ((wrap64 (a0_0 - a1)) - a2)) - 1)) - 4)) - a3)) < 1)=false:=decide_eq_false c28
        clear c28
        simp only [Option.some.injEq,Prod.mk.injEq] at H
        obtain ⟨rfl,rfl⟩:=H
        have hcz30_0:wc.cell? ⟨gb135,0,none⟩=some (.int .i64 a0_0):=(blk_cell BK135.out 0).trans rfl
        have hcz30_1:wc.cell? ⟨gb135,1,none⟩=some (.int .i64 a0_1):=(blk_cell BK135.out 1).trans rfl
        have hfz30_0:=blk_frozen BK135.out 0
        have hfz30_1:=blk_frozen BK135.out 1
        go_wp2
        go_ret2
        exact ⟨by first|rfl|(simp [errW_none,errW_some] <;> rfl)|(simp [*,errW_none,errW_some] <;> rfl),by repeat (first|(with_reducible first|exact HB.out|apply zlA|apply zlN|apply zlD|refine zlS ?_ GE135.out)|exact HB.out)⟩
end Go.Proofs.Ytlegmnpngcadhaa.Print
end
