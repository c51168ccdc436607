/- Texts of the proof of PoolTells, part 16. -/
import Derived.Test.YtlegmnpngcadhaaPoolTellsMA
import Derived.Test.YtlegmnpngcadhaaPoolTellsM13
import Derived.Test.YtlegmnpngcadhaaPoolTellsM14
import Derived.Test.YtlegmnpngcadhaaPoolTellsM15
section
namespace Go.Proofs.Ytlegmnpngcadhaa.Print
open Go.RowKit Go.Proofs.YtlegmnpngcadhaaW.PrintWords Go.Proofs.YtlegmnpngcadhaaW.PrintLast Go.Proofs.YtlegmnpngcadhaaW.PrintMore
attribute [local go_sem] max2_int min2_int max_two min_two max_three min_three max_four min_four   -- for this text's walks alone
attribute [local go_sem ↓] Go.Proofs.Ytlegmnpngcadhaa.Sem.isSome_setCell
attribute [local go_sem] Go.Instr.field Go.asAgg
set_option linter.unusedVariables false
set_option linter.unusedSimpArgs false
def slipwaylaw04_PoolTells.f (k:Nat) (l0_0:List Int) (l0_1:List Int) (a1:Int) (a2:Int) (a3:Int):Option (Bool):=(pool_Choose.f k l0_0 l0_1).bind fun bt394=>((slipwayref04_Choose.f k l0_0 l0_1).bind fun bt396=>((slipwayref04_All.f k l0_0 l0_1 a1).bind fun t398=>((pool_Spread.f k l0_0 l0_1).bind fun bt401=>((slipwayref04_Spread.f k l0_0 l0_1).bind fun bt403=>((pool_Cold.f k l0_0 l0_1 a2).bind fun bt405=>((slipwayref04_Cold.f k l0_0 l0_1 a2).bind fun bt408=>((slipwaylaw04_begun.f k).bind fun t411=>(if t411=true then (if bt394.1=bt396.1 then (if (bt394.2 == bt396.2)=true then ((pool_Count.f k l0_0 l0_1 a1).bind fun t412=>(if t412=(t398.length:Int) then ((slipwaylaw04_told.f k l0_0 l0_1 a1 999).bind fun t413=>((slices_Equal_int_int.f k t413 t398).bind fun t416=>(if t416=true then ((slipwaylaw04_told.f k l0_0 l0_1 a1 (wrap64 (a3))).bind fun t417=>(if 0≤(mn (t398.length:Int) (wrap64 (a3))) then (if (mn (t398.length:Int) (wrap64 (a3)))≤(t398.length:Int) then ((slices_Equal_int_int.f k t417 (t398.take ((mn (t398.length:Int) (wrap64 (a3))):Int).toNat)).bind fun t424=>(if t424=true then (if bt401.1=bt403.1 then (if bt401.2=bt403.2 then (if bt405.1=bt408.1 then (if bt405.2.1=bt408.2.1 then (some (bt405.2.2 == bt408.2.2)) else (none)) else (none)) else (none)) else (none)) else (none))) else (none)) else (none))) else (none)))) else (none))) else (none)) else (none)) else (none)))))))))
def slipwaylaw04_PoolTells.T8:Bool × List (List Nat × List Nat):=(true,[([],[]),([0,0],[0]),([1],[1]),([1],[1]),([2,3,1],[1,2,3]),([1,4],[1,4]),([5,1],[5]),([6],[6]),([6],[6]),([7,8,6],[6,7,8]),([6,9],[6,9]),([10,6],[10]),([11],[11]),([11],[11]),([12,13,11,11],[11,12,13]),([11],[11]),([15,11],[11,15]),([14,16,11],[11,14,16]),([11,17],[11,17]),([18,14],[18]),([19],[19]),([19],[19]),([20,21,19,19],[19,20,21]),([22,22,19],[19,22]),([19],[19]),([23,24,23,19],[19,23,24]),([19,25],[19,25]),([26,25],[26]),([27],[27]),([27],[27]),([28,29,27,27],[27,28,29]),([27],[27]),([31,27],[27,31]),([30,32,30,27],[27,30,32]),([27],[27]),([27],[27]),([35,27],[27,35]),([27],[27]),([37,27],[27,37]),([36,38,27],[27,36,38]),([34,39,27],[27,34,39]),([33,40,33,27],[27,33,40]),([27,41],[27,41]),([42,41],[42]),([43],[43]),([43],[43]),([44,45,43],[43,44,45]),([43,46],[43,46]),([47,43],[47]),([48],[48]),([48],[48]),([49,50,48],[48,49,50]),([48,51],[48,51]),([52,48],[52]),([53],[53]),([53],[53]),([54,55,53],[53,54,55]),([53,56],[53,56]),([57,53],[57]),([58],[58]),([58],[58]),([59,60,58],[58,59,60]),([58,61],[58,61]),([62,58],[62]),([63],[63]),([63],[63]),([64,65,63],[63,64,65]),([63,66],[63,66]),([67,63,0,1,2,3,4,5,6,7,8,9,10,11,12,13,14,15,16,17,18,19,20,21,22,23,24,25,26,27,28,29,30,31,32,33,34,35,36,37,38,39,40,41,42,43,44,45,46,47,48,49,50,51,52,53,54,55,56,57,58,59,60,61,62,63,64,65,66,67],[67])])
def slipwaylaw04_PoolTells.B8:List Nat:=[0,1,3,3,15,31,63,127,127,511,1023,2047,4095,4095,16383,4095,36863,131071,262143,524287,1048575,1048575,4194303,8388607,1048575,33554431,67108863,134217727,268435455,268435455,1073741823,268435455,2415919103,8589934591,268435455,268435455,34628173823,268435455,137707388927,515664510975,1082600194047,2199023255551,4398046511103,8796093022207,17592186044415,17592186044415,70368744177663,140737488355327,281474976710655,562949953421311,562949953421311,2251799813685247,4503599627370495,9007199254740991,18014398509481983,18014398509481983,72057594037927935,144115188075855871,288230376151711743,576460752303423487,576460752303423487,2305843009213693951,4611686018427387903,9223372036854775807,18446744073709551615,18446744073709551615,73786976294838206463,147573952589676412927,295147905179352825855]
theorem slipwaylaw04_PoolTells.tab8:rtab .any (opsOf Try.f6 8)=slipwaylaw04_PoolTells.T8:=by kernel_rfl
theorem slipwaylaw04_PoolTells.bits8:waitsOk slipwaylaw04_PoolTells.T8.2 slipwaylaw04_PoolTells.B8=true:=by kernel_rfl
set_option maxHeartbeats 8000000 in
set_option maxRecDepth 100000 in
theorem slipwaylaw04_PoolTells.calls (k:Nat) (A0_0:Option Addr) (c0_0:Nat) (l0_0:List Int) (A0_1:Option Addr) (c0_1:Nat) (l0_1:List Int) (a1:Int) (a2:Int) (a3:Int) (r:Bool) (w:World) (hr0_0:Kd.C (Kd.int .i64) w A0_0 l0_0.length l0_0) (hc0_0:l0_0.length≤c0_0) (hr0_1:Kd.C (Kd.int .i64) w A0_1 l0_1.length l0_1) (hc0_1:l0_1.length≤c0_1) (h:slipwaylaw04_PoolTells.f k l0_0 l0_1 a1 a2 a3=some r) :
  Calls Try.prog 6 #[.agg #[.slice A0_0 l0_0.length c0_0,.slice A0_1 l0_1.length c0_1],.int .i64 a1,.int .i64 a2,.int .u8 a3] w fun e w'=>e=.returned (.bool r)∧Below w.heap.size w w':=by
 have hu25:=Try.underlying25
 have HR0_0:=zm hr0_0
 have HC0_0:=zm hc0_0
 clear hr0_0 hc0_0
 have HR0_1:=zm hr0_1
 have HC0_1:=zm hc0_1
 clear hr0_1 hc0_1
 have HB:=zm (Below.refl w.heap.size w)
 have H:((pool_Choose.f k l0_0 l0_1).bind fun bt394=>((slipwayref04_Choose.f k l0_0 l0_1).bind fun bt396=>((slipwayref04_All.f k l0_0 l0_1 a1).bind fun t398=>((pool_Spread.f k l0_0 l0_1).bind fun bt401=>((slipwayref04_Spread.f k l0_0 l0_1).bind fun bt403=>((pool_Cold.f k l0_0 l0_1 a2).bind fun bt405=>((slipwayref04_Cold.f k l0_0 l0_1 a2).bind fun bt408=>((slipwaylaw04_begun.f k).bind fun t411=>(if t411=true then (if bt394.1=bt396.1 then (if (bt394.2 == bt396.2)=true then ((pool_Count.f k l0_0 l0_1 a1).bind fun t412=>(if t412=(t398.length:Int) then ((slipwaylaw04_told.f k l0_0 l0_1 a1 999).bind fun t413=>((slices_Equal_int_int.f k t413 t398).bind fun t416=>(if t416=true then ((slipwaylaw04_told.f k l0_0 l0_1 a1 (wrap64 (a3))).bind fun t417=>(if 0≤(mn (t398.length:Int) (wrap64 (a3))) then (if (mn (t398.length:Int) (wrap64 (a3)))≤(t398.length:Int) then ((slices_Equal_int_int.f k t417 (t398.take ((mn (t398.length:Int) (wrap64 (a3))):Int).toNat)).bind fun t424=>(if t424=true then (if bt401.1=bt403.1 then (if bt401.2=bt403.2 then (if bt405.1=bt408.1 then (if bt405.2.1=bt408.2.1 then (some (bt405.2.2 == bt408.2.2)) else (none)) else (none)) else (none)) else (none)) else (none))) else (none)) else (none))) else (none)))) else (none))) else (none)) else (none)) else (none))))))))))=some r:=h
 clear h
 replace H:=Option.bind_eq_some_iff.mp H
 obtain ⟨⟨t394,t395⟩,A50,H⟩:=H
 replace H:((slipwayref04_Choose.f k l0_0 l0_1).bind fun bt396=>((slipwayref04_All.f k l0_0 l0_1 a1).bind fun t398=>((pool_Spread.f k l0_0 l0_1).bind fun bt401=>((slipwayref04_Spread.f k l0_0 l0_1).bind fun bt403=>((pool_Cold.f k l0_0 l0_1 a2).bind fun bt405=>((slipwayref04_Cold.f k l0_0 l0_1 a2).bind fun bt408=>((slipwaylaw04_begun.f k).bind fun t411=>(if t411=true then (if t394=bt396.1 then (if (t395 == bt396.2)=true then ((pool_Count.f k l0_0 l0_1 a1).bind fun t412=>(if t412=(t398.length:Int) then ((slipwaylaw04_told.f k l0_0 l0_1 a1 999).bind fun t413=>((slices_Equal_int_int.f k t413 t398).bind fun t416=>(if t416=true then ((slipwaylaw04_told.f k l0_0 l0_1 a1 (wrap64 (a3))).bind fun t417=>(if 0≤(mn (t398.length:Int) (wrap64 (a3))) then (if (mn (t398.length:Int) (wrap64 (a3)))≤(t398.length:Int) then ((slices_Equal_int_int.f k t417 (t398.take ((mn (t398.length:Int) (wrap64 (a3))):Int).toNat)).bind fun t424=>(if t424=true then (if bt401.1=bt403.1 then (if bt401.2=bt403.2 then (if bt405.1=bt408.1 then (if bt405.2.1=bt408.2.1 then (some (bt405.2.2 == bt408.2.2)) else (none)) else (none)) else (none)) else (none)) else (none))) else (none)) else (none))) else (none)))) else (none))) else (none)) else (none)) else (none)))))))))=some r:=H
 have A5:=zm A50
 clear A50
 replace H:=Option.bind_eq_some_iff.mp H
 obtain ⟨⟨t396,t397⟩,A60,H⟩:=H
 replace H:((slipwayref04_All.f k l0_0 l0_1 a1).bind fun t398=>((pool_Spread.f k l0_0 l0_1).bind fun bt401=>((slipwayref04_Spread.f k l0_0 l0_1).bind fun bt403=>((pool_Cold.f k l0_0 l0_1 a2).bind fun bt405=>((slipwayref04_Cold.f k l0_0 l0_1 a2).bind fun bt408=>((slipwaylaw04_begun.f k).bind fun t411=>(if t411=true then (if t394=t396 then (if (t395 == t397)=true then ((pool_Count.f k l0_0 l0_1 a1).bind fun t412=>(if t412=(t398.length:Int) then ((slipwaylaw04_told.f k l0_0 l0_1 a1 999).bind fun t413=>((slices_Equal_int_int.f k t413 t398).bind fun t416=>(if t416=true then ((slipwaylaw04_told.f k l0_0 l0_1 a1 (wrap64 (a3))).bind fun t417=>(if 0≤(mn (t398.length:Int) (wrap64 (a3))) then (if (mn (t398.length:Int) (wrap64 (a3)))≤(t398.length:Int) then ((slices_Equal_int_int.f k t417 (t398.take ((mn (t398.length:Int) (wrap64 (a3))):Int).toNat)).bind fun t424=>(if t424=true then (if bt401.1=bt403.1 then (if bt401.2=bt403.2 then (if bt405.1=bt408.1 then (if bt405.2.1=bt408.2.1 then (some (bt405.2.2 == bt408.2.2)) else (none)) else (none)) else (none)) else (none)) else (none))) else (none)) else (none))) else (none)))) else (none))) else (none)) else (none)) else (none))))))))=some r:=H
 have A6:=zm A60
 clear A60
 replace H:=Option.bind_eq_some_iff.mp H
 obtain ⟨t398,A70,H⟩:=H
 replace H:((pool_Spread.f k l0_0 l0_1).bind fun bt401=>((slipwayref04_Spread.f k l0_0 l0_1).bind fun bt403=>((pool_Cold.f k l0_0 l0_1 a2).bind fun bt405=>((slipwayref04_Cold.f k l0_0 l0_1 a2).bind fun bt408=>((slipwaylaw04_begun.f k).bind fun t411=>(if t411=true then (if t394=t396 then (if (t395 == t397)=true then ((pool_Count.f k l0_0 l0_1 a1).bind fun t412=>(if t412=(t398.length:Int) then ((slipwaylaw04_told.f k l0_0 l0_1 a1 999).bind fun t413=>((slices_Equal_int_int.f k t413 t398).bind fun t416=>(if t416=true then ((slipwaylaw04_told.f k l0_0 l0_1 a1 (wrap64 (a3))).bind fun t417=>(if 0≤(mn (t398.length:Int) (wrap64 (a3))) then (if (mn (t398.length:Int) (wrap64 (a3)))≤(t398.length:Int) then ((slices_Equal_int_int.f k t417 (t398.take ((mn (t398.length:Int) (wrap64 (a3))):Int).toNat)).bind fun t424=>(if t424=true then (if bt401.1=bt403.1 then (if bt401.2=bt403.2 then (if bt405.1=bt408.1 then (if bt405.2.1=bt408.2.1 then (some (bt405.2.2 == bt408.2.2)) else (none)) else (none)) else (none)) else (none)) else (none))) else (none)) else (none))) else (none)))) else (none))) else (none)) else (none)) else (none)))))))=some r:=H
 have A7:=zm A70
 clear A70
 replace H:=Option.bind_eq_some_iff.mp H
 obtain ⟨⟨t401,t402⟩,A80,H⟩:=H
 replace H:((slipwayref04_Spread.f k l0_0 l0_1).bind fun bt403=>((pool_Cold.f k l0_0 l0_1 a2).bind fun bt405=>((slipwayref04_Cold.f k l0_0 l0_1 a2).bind fun bt408=>((slipwaylaw04_begun.f k).bind fun t411=>(if t411=true then (if t394=t396 then (if (t395 == t397)=true then ((pool_Count.f k l0_0 l0_1 a1).bind fun t412=>(if t412=(t398.length:Int) then ((slipwaylaw04_told.f k l0_0 l0_1 a1 999).bind fun t413=>((slices_Equal_int_int.f k t413 t398).bind fun t416=>(if t416=true then ((slipwaylaw04_told.f k l0_0 l0_1 a1 (wrap64 (a3))).bind fun t417=>(if 0≤(mn (t398.length:Int) (wrap64 (a3))) then (if (mn (t398.length:Int) (wrap64 (a3)))≤(t398.length:Int) then ((slices_Equal_int_int.f k t417 (t398.take ((mn (t398.length:Int) (wrap64 (a3))):Int).toNat)).bind fun t424=>(if t424=true then (if t401=bt403.1 then (if t402=bt403.2 then (if bt405.1=bt408.1 then (if bt405.2.1=bt408.2.1 then (some (bt405.2.2 == bt408.2.2)) else (none)) else (none)) else (none)) else (none)) else (none))) else (none)) else (none))) else (none)))) else (none))) else (none)) else (none)) else (none))))))=some r:=H
 have A8:=zm A80
 clear A80
 replace H:=Option.bind_eq_some_iff.mp H
 obtain ⟨⟨t403,t404⟩,A90,H⟩:=H
 replace H:((pool_Cold.f k l0_0 l0_1 a2).bind fun bt405=>((slipwayref04_Cold.f k l0_0 l0_1 a2).bind fun bt408=>((slipwaylaw04_begun.f k).bind fun t411=>(if t411=true then (if t394=t396 then (if (t395 == t397)=true then ((pool_Count.f k l0_0 l0_1 a1).bind fun t412=>(if t412=(t398.length:Int) then ((slipwaylaw04_told.f k l0_0 l0_1 a1 999).bind fun t413=>((slices_Equal_int_int.f k t413 t398).bind fun t416=>(if t416=true then ((slipwaylaw04_told.f k l0_0 l0_1 a1 (wrap64 (a3))).bind fun t417=>(if 0≤(mn (t398.length:Int) (wrap64 (a3))) then (if (mn (t398.length:Int) (wrap64 (a3)))≤(t398.length:Int) then ((slices_Equal_int_int.f k t417 (t398.take ((mn (t398.length:Int) (wrap64 (a3))):Int).toNat)).bind fun t424=>(if t424=true then (if t401=t403 then (if t402=t404 then (if bt405.1=bt408.1 then (if bt405.2.1=bt408.2.1 then (some (bt405.2.2 == bt408.2.2)) else (none)) else (none)) else (none)) else (none)) else (none))) else (none)) else (none))) else (none)))) else (none))) else (none)) else (none)) else (none)))))=some r:=H
 have A9:=zm A90
 clear A90
 replace H:=Option.bind_eq_some_iff.mp H
 obtain ⟨⟨t405,t406,t407⟩,A100,H⟩:=H
 replace H:((slipwayref04_Cold.f k l0_0 l0_1 a2).bind fun bt408=>((slipwaylaw04_begun.f k).bind fun t411=>(if t411=true then (if t394=t396 then (if (t395 == t397)=true then ((pool_Count.f k l0_0 l0_1 a1).bind fun t412=>(if t412=(t398.length:Int) then ((slipwaylaw04_told.f k l0_0 l0_1 a1 999).bind fun t413=>((slices_Equal_int_int.f k t413 t398).bind fun t416=>(if t416=true then ((slipwaylaw04_told.f k l0_0 l0_1 a1 (wrap64 (a3))).bind fun t417=>(if 0≤(mn (t398.length:Int) (wrap64 (a3))) then (if (mn (t398.length:Int) (wrap64 (a3)))≤(t398.length:Int) then ((slices_Equal_int_int.f k t417 (t398.take ((mn (t398.length:Int) (wrap64 (a3))):Int).toNat)).bind fun t424=>(if t424=true then (if t401=t403 then (if t402=t404 then (if t405=bt408.1 then (if t406=bt408.2.1 then (some (t407 == bt408.2.2)) else (none)) else (none)) else (none)) else (none)) else (none))) else (none)) else (none))) else (none)))) else (none))) else (none)) else (none)) else (none))))=some r:=H
 have A10:=zm A100
 clear A100
 replace H:=Option.bind_eq_some_iff.mp H
 obtain ⟨⟨t408,t409,t410⟩,A110,H⟩:=H
 replace H:((slipwaylaw04_begun.f k).bind fun t411=>(if t411=true then (if t394=t396 then (if (t395 == t397)=true then ((pool_Count.f k l0_0 l0_1 a1).bind fun t412=>(if t412=(t398.length:Int) then ((slipwaylaw04_told.f k l0_0 l0_1 a1 999).bind fun t413=>((slices_Equal_int_int.f k t413 t398).bind fun t416=>(if t416=true then ((slipwaylaw04_told.f k l0_0 l0_1 a1 (wrap64 (a3))).bind fun t417=>(if 0≤(mn (t398.length:Int) (wrap64 (a3))) then (if (mn (t398.length:Int) (wrap64 (a3)))≤(t398.length:Int) then ((slices_Equal_int_int.f k t417 (t398.take ((mn (t398.length:Int) (wrap64 (a3))):Int).toNat)).bind fun t424=>(if t424=true then (if t401=t403 then (if t402=t404 then (if t405=t408 then (if t406=t409 then (some (t407 == t410)) else (none)) else (none)) else (none)) else (none)) else (none))) else (none)) else (none))) else (none)))) else (none))) else (none)) else (none)) else (none)))=some r:=H
 have A11:=zm A110
 clear A110
 replace H:=Option.bind_eq_some_iff.mp H
 obtain ⟨t411,A120,H⟩:=H
 replace H:(if t411=true then (if t394=t396 then (if (t395 == t397)=true then ((pool_Count.f k l0_0 l0_1 a1).bind fun t412=>(if t412=(t398.length:Int) then ((slipwaylaw04_told.f k l0_0 l0_1 a1 999).bind fun t413=>((slices_Equal_int_int.f k t413 t398).bind fun t416=>(if t416=true then ((slipwaylaw04_told.f k l0_0 l0_1 a1 (wrap64 (a3))).bind fun t417=>(if 0≤(mn (t398.length:Int) (wrap64 (a3))) then (if (mn (t398.length:Int) (wrap64 (a3)))≤(t398.length:Int) then ((slices_Equal_int_int.f k t417 (t398.take ((mn (t398.length:Int) (wrap64 (a3))):Int).toNat)).bind fun t424=>(if t424=true then (if t401=t403 then (if t402=t404 then (if t405=t408 then (if t406=t409 then (some (t407 == t410)) else (none)) else (none)) else (none)) else (none)) else (none))) else (none)) else (none))) else (none)))) else (none))) else (none)) else (none)) else (none))=some r:=H
 have A12:=zm A120
 clear A120
 by_cases c13:t411=true
 ·subst c13
  have H1:(if t394=t396 then (if (t395 == t397)=true then ((pool_Count.f k l0_0 l0_1 a1).bind fun t412=>(if t412=(t398.length:Int) then ((slipwaylaw04_told.f k l0_0 l0_1 a1 999).bind fun t413=>((slices_Equal_int_int.f k t413 t398).bind fun t416=>(if t416=true then ((slipwaylaw04_told.f k l0_0 l0_1 a1 (wrap64 (a3))).bind fun t417=>(if 0≤(mn (t398.length:Int) (wrap64 (a3))) then (if (mn (t398.length:Int) (wrap64 (a3)))≤(t398.length:Int) then ((slices_Equal_int_int.f k t417 (t398.take ((mn (t398.length:Int) (wrap64 (a3))):Int).toNat)).bind fun t424=>(if t424=true then (if t401=t403 then (if t402=t404 then (if t405=t408 then (if t406=t409 then (some (t407 == t410)) else (none)) else (none)) else (none)) else (none)) else (none))) else (none)) else (none))) else (none)))) else (none))) else (none)) else (none))=some r:=by rw [if_pos rfl] at H;exact H
  clear H
  have H:=H1
  clear H1
  by_cases c14:t394=t396
  ·rw [if_pos c14] at H
   have c14b0:(t394 == t396)=true:=beq_iff_eq.mpr c14
   have c14b1:(t394 != t396)=false:=bne_eq_false_iff_eq.mpr c14
   clear c14
   by_cases c15:(t395 == t397)=true
   ·rw [if_pos c15] at H
    have c15b0:(t395 == t397)=true:=c15
    (try (have c15b1:decide (t395=t397)=true:=by simpa using c15))
    (try (have c15b2:(t395 == t397)=true:=by simpa using c15))
    clear c15
    replace H:=Option.bind_eq_some_iff.mp H
    obtain ⟨t412,A160,H⟩:=H
    replace H:(if t412=(t398.length:Int) then ((slipwaylaw04_told.f k l0_0 l0_1 a1 999).bind fun t413=>((slices_Equal_int_int.f k t413 t398).bind fun t416=>(if t416=true then ((slipwaylaw04_told.f k l0_0 l0_1 a1 (wrap64 (a3))).bind fun t417=>(if 0≤(mn (t398.length:Int) (wrap64 (a3))) then (if (mn (t398.length:Int) (wrap64 (a3)))≤(t398.length:Int) then ((slices_Equal_int_int.f k t417 (t398.take ((mn (t398.length:Int) (wrap64 (a3))):Int).toNat)).bind fun t424=>(if t424=true then (if t401=t403 then (if t402=t404 then (if t405=t408 then (if t406=t409 then (some (t407 == t410)) else (none)) else (none)) else (none)) else (none)) else (none))) else (none)) else (none))) else (none)))) else (none))=some r:=H
    have A16:=zm A160
    clear A160
    by_cases c17:t412=(t398.length:Int)
    ·rw [if_pos c17] at H
     have c17b0:(t412 == (t398.length:Int))=true:=beq_iff_eq.mpr c17
     have c17b1:(t412 != (t398.length:Int))=false:=bne_eq_false_iff_eq.mpr c17
     clear c17
     replace H:=Option.bind_eq_some_iff.mp H
     obtain ⟨t413,A180,H⟩:=H
     replace H:((slices_Equal_int_int.f k t413 t398).bind fun t416=>(if t416=true then ((slipwaylaw04_told.f k l0_0 l0_1 a1 (wrap64 (a3))).bind fun t417=>(if 0≤(mn (t398.length:Int) (wrap64 (a3))) then (if (mn (t398.length:Int) (wrap64 (a3)))≤(t398.length:Int) then ((slices_Equal_int_int.f k t417 (t398.take ((mn (t398.length:Int) (wrap64 (a3))):Int).toNat)).bind fun t424=>(if t424=true then (if t401=t403 then (if t402=t404 then (if t405=t408 then (if t406=t409 then (some (t407 == t410)) else (none)) else (none)) else (none)) else (none)) else (none))) else (none)) else (none))) else (none)))=some r:=H
     have A18:=zm A180
     clear A180
     replace H:=Option.bind_eq_some_iff.mp H
     obtain ⟨t416,A190,H⟩:=H
     replace H:(if t416=true then ((slipwaylaw04_told.f k l0_0 l0_1 a1 (wrap64 (a3))).bind fun t417=>(if 0≤(mn (t398.length:Int) (wrap64 (a3))) then (if (mn (t398.length:Int) (wrap64 (a3)))≤(t398.length:Int) then ((slices_Equal_int_int.f k t417 (t398.take ((mn (t398.length:Int) (wrap64 (a3))):Int).toNat)).bind fun t424=>(if t424=true then (if t401=t403 then (if t402=t404 then (if t405=t408 then (if t406=t409 then (some (t407 == t410)) else (none)) else (none)) else (none)) else (none)) else (none))) else (none)) else (none))) else (none))=some r:=H
     have A19:=zm A190
     clear A190
     by_cases c20:t416=true
     ·subst c20
      have H1:((slipwaylaw04_told.f k l0_0 l0_1 a1 (wrap64 (a3))).bind fun t417=>(if 0≤(mn (t398.length:Int) (wrap64 (a3))) then (if (mn (t398.length:Int) (wrap64 (a3)))≤(t398.length:Int) then ((slices_Equal_int_int.f k t417 (t398.take ((mn (t398.length:Int) (wrap64 (a3))):Int).toNat)).bind fun t424=>(if t424=true then (if t401=t403 then (if t402=t404 then (if t405=t408 then (if t406=t409 then (some (t407 == t410)) else (none)) else (none)) else (none)) else (none)) else (none))) else (none)) else (none)))=some r:=by rw [if_pos rfl] at H;exact H
      clear H
      have H:=H1
      clear H1
      replace H:=Option.bind_eq_some_iff.mp H
      obtain ⟨t417,A210,H⟩:=H
      replace H:(if 0≤(mn (t398.length:Int) (wrap64 (a3))) then (if (mn (t398.length:Int) (wrap64 (a3)))≤(t398.length:Int) then ((slices_Equal_int_int.f k t417 (t398.take ((mn (t398.length:Int) (wrap64 (a3))):Int).toNat)).bind fun t424=>(if t424=true then (if t401=t403 then (if t402=t404 then (if t405=t408 then (if t406=t409 then (some (t407 == t410)) else (none)) else (none)) else (none)) else (none)) else (none))) else (none)) else (none))=some r:=H
      have A21:=zm A210
      clear A210
      obtain ⟨ji22,hji22⟩:∃ j_:Int,(mn (t398.length:Int) (wrap64 (a3)))=j_:=⟨_,rfl⟩
      replace H:(if 0≤(ji22) then (if (ji22)≤(t398.length:Int) then ((slices_Equal_int_int.f k t417 (t398.take ((ji22):Int).toNat)).bind fun t424=>(if t424=true then (if t401=t403 then (if t402=t404 then (if t405=t408 then (if t406=t409 then (some (t407 == t410)) else (none)) else (none)) else (none)) else (none)) else (none))) else (none)) else (none))=some r:=by first|(rw [hji22] at H;exact H)|(simp only [hji22] at H ⊢;exact H)
      (try rw [hji22] at A5)
      (try rw [hji22] at A6)
      (try rw [hji22] at A7)
      (try rw [hji22] at A8)
      (try rw [hji22] at A9)
      (try rw [hji22] at A10)
      (try rw [hji22] at A11)
      (try rw [hji22] at A12)
      (try rw [hji22] at A16)
      (try rw [hji22] at A18)
      (try rw [hji22] at A19)
      (try rw [hji22] at A21)
      have hji22_:(if (wrap64 (a3)) < (t398.length:Int) then (wrap64 (a3)) else (t398.length:Int))=ji22:=hji22
      by_cases c23:0≤(ji22)
      ·rw [if_pos c23] at H
       have c23b0:=eq_true c23
       have c23b1:decide (0≤(ji22))=true:=decide_eq_true c23
       clear c23
       by_cases c24:(ji22)≤(t398.length:Int)
       ·rw [if_pos c24] at H
        have c24b0:=eq_true c24
        have c24b1:decide ((ji22)≤(t398.length:Int))=true:=decide_eq_true c24
        clear c24
        obtain ⟨y420,hy420⟩:∃ y_:List Int,y_=(t398.take ((ji22):Int).toNat):=⟨_,rfl⟩
        replace H:((slices_Equal_int_int.f k t417 y420).bind fun t424=>(if t424=true then (if t401=t403 then (if t402=t404 then (if t405=t408 then (if t406=t409 then (some (t407 == t410)) else (none)) else (none)) else (none)) else (none)) else (none)))=some r:=by first|(rw [hy420];with_reducible exact H)|(have H2_:=(Option.bind_some _ _).symm.trans H;rw [hy420];with_reducible exact H2_)|(have H2_:=(Option.bind_some _ _).symm.trans H;with_reducible exact H2_)|with_reducible exact H|(rw [hy420];exact H)|exact H
        have Ny420:=zm hy420
        clear hy420
        replace H:=Option.bind_eq_some_iff.mp H
        obtain ⟨t424,A250,H⟩:=H
        replace H:(if t424=true then (if t401=t403 then (if t402=t404 then (if t405=t408 then (if t406=t409 then (some (t407 == t410)) else (none)) else (none)) else (none)) else (none)) else (none))=some r:=H
        have A25:=zm A250
        clear A250
        by_cases c26:t424=true
        ·subst c26
         have H1:(if t401=t403 then (if t402=t404 then (if t405=t408 then (if t406=t409 then (some (t407 == t410)) else (none)) else (none)) else (none)) else (none))=some r:=by rw [if_pos rfl] at H;exact H
         clear H
         have H:=H1
         clear H1
         by_cases c27:t401=t403
         ·rw [if_pos c27] at H
          have c27b0:(t401 == t403)=true:=beq_iff_eq.mpr c27
          have c27b1:(t401 != t403)=false:=bne_eq_false_iff_eq.mpr c27
          clear c27
          by_cases c28:t402=t404
          ·rw [if_pos c28] at H
           have c28b0:(t402 == t404)=true:=beq_iff_eq.mpr c28
           have c28b1:(t402 != t404)=false:=bne_eq_false_iff_eq.mpr c28
           clear c28
           by_cases c29:t405=t408
           ·rw [if_pos c29] at H
            have c29b0:(t405 == t408)=true:=beq_iff_eq.mpr c29
            have c29b1:(t405 != t408)=false:=bne_eq_false_iff_eq.mpr c29
            clear c29
            by_cases c30:t406=t409
            ·rw [if_pos c30] at H
             have c30b0:(t406 == t409)=true:=beq_iff_eq.mpr c30
             have c30b1:(t406 != t409)=false:=bne_eq_false_iff_eq.mpr c30
             clear c30
             obtain rfl:=Option.some.inj H
             go_enter Try.func6,Try.ntmps6
             try go_wp2_with (first|((with_reducible refine gate_dst (N:=4) rfl ?_);(try (refine gate_guard (by rfl) ?_;dsimp only));refine box_event ?hg (N:=4) ?hd (cs:=#[.slice A0_0 l0_0.length c0_0,.slice A0_1 l0_1.length c0_1]) (t:=25) ?hr ?_;(case hd=>rfl);(case hg=>rfl);(case hr=>first|(go_simp;done)|(go_simp;rfl));intro gb393 hg w31 hbox hb;have n0_:=zm (below_step (by repeat (first|(with_reducible first|exact HB.out|apply zlA|apply zlN|apply zlD)|exact HB.out)) hb);have n1_:=zm (hbox);have n2_:=zm ((by rw [hg];exact (below_size (by repeat (first|(with_reducible first|exact HB.out|apply zlA|apply zlN|apply zlD)|exact HB.out))):w.heap.size≤gb393));have n3_:=zm ((by rw [hg];exact (below_size (by repeat (first|(with_reducible first|exact HB.out|apply zlA|apply zlN|apply zlD)|exact HB.out))):w.heap.size≤gb393));clear HB;have HB:=n0_;have BK393:=n1_;have GW393:=n2_;have GE393:=n3_;clear n0_ n1_ n2_ n3_;clear hb hbox hg;have hcz32_0:w31.cell? ⟨gb393,0,none⟩=some (.slice A0_0 l0_0.length c0_0):=(blk_cell BK393.out 0).trans rfl;have hcz32_1:w31.cell? ⟨gb393,1,none⟩=some (.slice A0_1 l0_1.length c0_1):=(blk_cell BK393.out 1).trans rfl;have hfz32_0:=blk_frozen BK393.out 0;have hfz32_1:=blk_frozen BK393.out 1)|((with_reducible refine gate_callee (f:=18) rfl ?_);refine goesL_ (some 26) rfl rfl Try.func18 (by kernel_rfl) rfl #[.agg #[.slice A0_0 l0_0.length c0_0,.slice A0_1 l0_1.length c0_1]] rfl (by (try simp only [List.map_toArray,List.map_cons,List.map_nil]);first|done|rfl|(simp only [List.length_drop,List.length_take];rfl)) ?_;(with_reducible refine (pool_Choose.calls k _ _ l0_0 _ _ l0_1 t394 t395 _ ?side1 ?side2 ?side3 ?side4 A5.out).mono ?_);(case side1=>repeat (first|exact (Kd.C_below HR0_0.out HB.out)|(with_reducible refine Kd.C_alloc ?_ _)|(with_reducible refine Kd.C_drewN ?_ _)|(with_reducible refine Kd.C_drew ?_)));(case side2=>exact HC0_0.out);(case side3=>repeat (first|exact (Kd.C_below HR0_1.out HB.out)|(with_reducible refine Kd.C_alloc ?_ _)|(with_reducible refine Kd.C_drewN ?_ _)|(with_reducible refine Kd.C_drew ?_)));(case side4=>exact HC0_1.out);rintro e w33 ⟨rfl,hb⟩;refine ⟨_,rfl,?_⟩;have n0_:=zm (zbB (g:=gb393) (o:=.cells #[.slice A0_0 l0_0.length c0_0,.slice A0_1 l0_1.length c0_1] 25 (0,0)) (by (with_reducible repeat (first|refine zbN ?_ _|refine zbD ?_|refine zbA ?_ _));exact BK393.out) hb);have n1_:=zm (below_step (by repeat (first|(with_reducible first|exact HB.out|apply zlA|apply zlN|apply zlD|refine zlS ?_ GE393.out)|exact HB.out)) hb);clear BK393 HB;have BK393:=n0_;have HB:=n1_;clear n0_ n1_;(try clear hb);(try clear hb2);(try clear hk);(try clear hi);have hcz34_0:w33.cell? ⟨gb393,0,none⟩=some (.slice A0_0 l0_0.length c0_0):=(blk_cell BK393.out 0).trans rfl;have hcz34_1:w33.cell? ⟨gb393,1,none⟩=some (.slice A0_1 l0_1.length c0_1):=(blk_cell BK393.out 1).trans rfl;have hfz34_0:=blk_frozen BK393.out 0;have hfz34_1:=blk_frozen BK393.out 1)|((with_reducible refine gate_callee (f:=22) rfl ?_);refine goesL_ (some 31) rfl rfl Try.func22 (by kernel_rfl) rfl #[.agg #[.slice A0_0 l0_0.length c0_0,.slice A0_1 l0_1.length c0_1]] rfl (by (try simp only [List.map_toArray,List.map_cons,List.map_nil]);first|done|rfl|(simp only [List.length_drop,List.length_take];rfl)) ?_;(with_reducible refine (slipwayref04_Choose.calls k _ _ l0_0 _ _ l0_1 t396 t397 _ ?side1 ?side2 ?side3 ?side4 A6.out).mono ?_);(case side1=>repeat (first|exact (Kd.C_below HR0_0.out HB.out)|(with_reducible refine Kd.C_alloc ?_ _)|(with_reducible refine Kd.C_drewN ?_ _)|(with_reducible refine Kd.C_drew ?_)));(case side2=>exact HC0_0.out);(case side3=>repeat (first|exact (Kd.C_below HR0_1.out HB.out)|(with_reducible refine Kd.C_alloc ?_ _)|(with_reducible refine Kd.C_drewN ?_ _)|(with_reducible refine Kd.C_drew ?_)));(case side4=>exact HC0_1.out);rintro e w35 ⟨rfl,hb⟩;refine ⟨_,rfl,?_⟩;have n0_:=zm (zbB (g:=gb393) (o:=.cells #[.slice A0_0 l0_0.length c0_0,.slice A0_1 l0_1.length c0_1] 25 (0,0)) (by (with_reducible repeat (first|refine zbN ?_ _|refine zbD ?_|refine zbA ?_ _));exact BK393.out) hb);have n1_:=zm (below_step (by repeat (first|(with_reducible first|exact HB.out|apply zlA|apply zlN|apply zlD|refine zlS ?_ GE393.out)|exact HB.out)) hb);clear BK393 HB;have BK393:=n0_;have HB:=n1_;clear n0_ n1_;(try clear hb);(try clear hb2);(try clear hk);(try clear hi);have hcz36_0:w35.cell? ⟨gb393,0,none⟩=some (.slice A0_0 l0_0.length c0_0):=(blk_cell BK393.out 0).trans rfl;have hcz36_1:w35.cell? ⟨gb393,1,none⟩=some (.slice A0_1 l0_1.length c0_1):=(blk_cell BK393.out 1).trans rfl;have hfz36_0:=blk_frozen BK393.out 0;have hfz36_1:=blk_frozen BK393.out 1)|((with_reducible refine gate_callee (f:=23) rfl ?_);refine goesL_ (some 36) rfl rfl Try.func23 (by kernel_rfl) rfl #[.agg #[.slice A0_0 l0_0.length c0_0,.slice A0_1 l0_1.length c0_1],.int .i64 a1] rfl (by (try simp only [List.map_toArray,List.map_cons,List.map_nil]);first|done|rfl|(simp only [List.length_drop,List.length_take];rfl)) ?_;(with_reducible refine (slipwayref04_All.calls k _ _ l0_0 _ _ l0_1 a1 t398 _ ?side1 ?side2 ?side3 ?side4 A7.out).mono ?_);(case side1=>repeat (first|exact (Kd.C_below HR0_0.out HB.out)|(with_reducible refine Kd.C_alloc ?_ _)|(with_reducible refine Kd.C_drewN ?_ _)|(with_reducible refine Kd.C_drew ?_)));(case side2=>exact HC0_0.out);(case side3=>repeat (first|exact (Kd.C_below HR0_1.out HB.out)|(with_reducible refine Kd.C_alloc ?_ _)|(with_reducible refine Kd.C_drewN ?_ _)|(with_reducible refine Kd.C_drew ?_)));(case side4=>exact HC0_1.out);rintro e w37 ⟨v399,rfl,ho0,hb⟩;refine ⟨_,rfl,?_⟩;have n0_:=zm (Kd.R_lower ho0 (below_size (by repeat (first|(with_reducible first|exact HB.out|apply zlA|apply zlN|apply zlD|refine zlS ?_ GE393.out)|exact HB.out))));have n1_:=zm (zbB (g:=gb393) (o:=.cells #[.slice A0_0 l0_0.length c0_0,.slice A0_1 l0_1.length c0_1] 25 (0,0)) (by (with_reducible repeat (first|refine zbN ?_ _|refine zbD ?_|refine zbA ?_ _));exact BK393.out) hb);have n2_:=zm (below_step (by repeat (first|(with_reducible first|exact HB.out|apply zlA|apply zlN|apply zlD|refine zlS ?_ GE393.out)|exact HB.out)) hb);clear BK393 HB;have HO400:=n0_;have BK393:=n1_;have HB:=n2_;clear n0_ n1_ n2_;(try clear hb);(try clear hb2);(try clear hk);(try clear hi);(try clear ho0);have hcz38_0:w37.cell? ⟨gb393,0,none⟩=some (.slice A0_0 l0_0.length c0_0):=(blk_cell BK393.out 0).trans rfl;have hcz38_1:w37.cell? ⟨gb393,1,none⟩=some (.slice A0_1 l0_1.length c0_1):=(blk_cell BK393.out 1).trans rfl;have hfz38_0:=blk_frozen BK393.out 0;have hfz38_1:=blk_frozen BK393.out 1)|((with_reducible refine gate_callee (f:=21) rfl ?_);refine goesL_ (some 39) rfl rfl Try.func21 (by kernel_rfl) rfl #[.agg #[.slice A0_0 l0_0.length c0_0,.slice A0_1 l0_1.length c0_1]] rfl (by (try simp only [List.map_toArray,List.map_cons,List.map_nil]);first|done|rfl|(simp only [List.length_drop,List.length_take];rfl)) ?_;(with_reducible refine (pool_Spread.calls k _ _ l0_0 _ _ l0_1 t401 t402 _ ?side1 ?side2 ?side3 ?side4 A8.out).mono ?_);(case side1=>repeat (first|exact (Kd.C_below HR0_0.out HB.out)|(with_reducible refine Kd.C_alloc ?_ _)|(with_reducible refine Kd.C_drewN ?_ _)|(with_reducible refine Kd.C_drew ?_)));(case side2=>exact HC0_0.out);(case side3=>repeat (first|exact (Kd.C_below HR0_1.out HB.out)|(with_reducible refine Kd.C_alloc ?_ _)|(with_reducible refine Kd.C_drewN ?_ _)|(with_reducible refine Kd.C_drew ?_)));(case side4=>exact HC0_1.out);rintro e w39 ⟨rfl,hb⟩;refine ⟨_,rfl,?_⟩;have n0_:=zm (Kd.R_below (by (with_reducible repeat (first|apply zrA|apply zrN|apply zrD));exact HO400.out) hb);have n1_:=zm (zbB (g:=gb393) (o:=.cells #[.slice A0_0 l0_0.length c0_0,.slice A0_1 l0_1.length c0_1] 25 (0,0)) (by (with_reducible repeat (first|refine zbN ?_ _|refine zbD ?_|refine zbA ?_ _));exact BK393.out) hb);have n2_:=zm (below_step (by repeat (first|(with_reducible first|exact HB.out|apply zlA|apply zlN|apply zlD|refine zlS ?_ GE393.out)|exact HB.out)) hb);clear HO400 BK393 HB;have HO400:=n0_;have BK393:=n1_;have HB:=n2_;clear n0_ n1_ n2_;(try clear hb);(try clear hb2);(try clear hk);(try clear hi);have hcz40_0:w39.cell? ⟨gb393,0,none⟩=some (.slice A0_0 l0_0.length c0_0):=(blk_cell BK393.out 0).trans rfl;have hcz40_1:w39.cell? ⟨gb393,1,none⟩=some (.slice A0_1 l0_1.length c0_1):=(blk_cell BK393.out 1).trans rfl;have hfz40_0:=blk_frozen BK393.out 0;have hfz40_1:=blk_frozen BK393.out 1)|((with_reducible refine gate_callee (f:=24) rfl ?_);refine goesL_ (some 44) rfl rfl Try.func24 (by kernel_rfl) rfl #[.agg #[.slice A0_0 l0_0.length c0_0,.slice A0_1 l0_1.length c0_1]] rfl (by (try simp only [List.map_toArray,List.map_cons,List.map_nil]);first|done|rfl|(simp only [List.length_drop,List.length_take];rfl)) ?_;(with_reducible refine (slipwayref04_Spread.calls k _ _ l0_0 _ _ l0_1 t403 t404 _ ?side1 ?side2 ?side3 ?side4 A9.out).mono ?_);(case side1=>repeat (first|exact (Kd.C_below HR0_0.out HB.out)|(with_reducible refine Kd.C_alloc ?_ _)|(with_reducible refine Kd.C_drewN ?_ _)|(with_reducible refine Kd.C_drew ?_)));(case side2=>exact HC0_0.out);(case side3=>repeat (first|exact (Kd.C_below HR0_1.out HB.out)|(with_reducible refine Kd.C_alloc ?_ _)|(with_reducible refine Kd.C_drewN ?_ _)|(with_reducible refine Kd.C_drew ?_)));(case side4=>exact HC0_1.out);rintro e w41 ⟨rfl,hb⟩;refine ⟨_,rfl,?_⟩;have n0_:=zm (Kd.R_below (by (with_reducible repeat (first|apply zrA|apply zrN|apply zrD));exact HO400.out) hb);have n1_:=zm (zbB (g:=gb393) (o:=.cells #[.slice A0_0 l0_0.length c0_0,.slice A0_1 l0_1.length c0_1] 25 (0,0)) (by (with_reducible repeat (first|refine zbN ?_ _|refine zbD ?_|refine zbA ?_ _));exact BK393.out) hb);have n2_:=zm (below_step (by repeat (first|(with_reducible first|exact HB.out|apply zlA|apply zlN|apply zlD|refine zlS ?_ GE393.out)|exact HB.out)) hb);clear HO400 BK393 HB;have HO400:=n0_;have BK393:=n1_;have HB:=n2_;clear n0_ n1_ n2_;(try clear hb);(try clear hb2);(try clear hk);(try clear hi);have hcz42_0:w41.cell? ⟨gb393,0,none⟩=some (.slice A0_0 l0_0.length c0_0):=(blk_cell BK393.out 0).trans rfl;have hcz42_1:w41.cell? ⟨gb393,1,none⟩=some (.slice A0_1 l0_1.length c0_1):=(blk_cell BK393.out 1).trans rfl;have hfz42_0:=blk_frozen BK393.out 0;have hfz42_1:=blk_frozen BK393.out 1)|((with_reducible refine gate_callee (f:=25) rfl ?_);refine goesL_ (some 50) rfl rfl Try.func25 (by kernel_rfl) rfl #[.agg #[.slice A0_0 l0_0.length c0_0,.slice A0_1 l0_1.length c0_1],.int .i64 a2] rfl (by (try simp only [List.map_toArray,List.map_cons,List.map_nil]);first|done|rfl|(simp only [List.length_drop,List.length_take];rfl)) ?_;(with_reducible refine (pool_Cold.calls k _ _ l0_0 _ _ l0_1 a2 t405 t406 t407 _ ?side1 ?side2 ?side3 ?side4 A10.out).mono ?_);(case side1=>repeat (first|exact (Kd.C_below HR0_0.out HB.out)|(with_reducible refine Kd.C_alloc ?_ _)|(with_reducible refine Kd.C_drewN ?_ _)|(with_reducible refine Kd.C_drew ?_)));(case side2=>exact HC0_0.out);(case side3=>repeat (first|exact (Kd.C_below HR0_1.out HB.out)|(with_reducible refine Kd.C_alloc ?_ _)|(with_reducible refine Kd.C_drewN ?_ _)|(with_reducible refine Kd.C_drew ?_)));(case side4=>exact HC0_1.out);rintro e w43 ⟨rfl,hb⟩;refine ⟨_,rfl,?_⟩;have n0_:=zm (Kd.R_below (by (with_reducible repeat (first|apply zrA|apply zrN|apply zrD));exact HO400.out) hb);have n1_:=zm (zbB (g:=gb393) (o:=.cells #[.slice A0_0 l0_0.length c0_0,.slice A0_1 l0_1.length c0_1] 25 (0,0)) (by (with_reducible repeat (first|refine zbN ?_ _|refine zbD ?_|refine zbA ?_ _));exact BK393.out) hb);have n2_:=zm (below_step (by repeat (first|(with_reducible first|exact HB.out|apply zlA|apply zlN|apply zlD|refine zlS ?_ GE393.out)|exact HB.out)) hb);clear HO400 BK393 HB;have HO400:=n0_;have BK393:=n1_;have HB:=n2_;clear n0_ n1_ n2_;(try clear hb);(try clear hb2);(try clear hk);(try clear hi);have hcz44_0:w43.cell? ⟨gb393,0,none⟩=some (.slice A0_0 l0_0.length c0_0):=(blk_cell BK393.out 0).trans rfl;have hcz44_1:w43.cell? ⟨gb393,1,none⟩=some (.slice A0_1 l0_1.length c0_1):=(blk_cell BK393.out 1).trans rfl;have hfz44_0:=blk_frozen BK393.out 0;have hfz44_1:=blk_frozen BK393.out 1)|((with_reducible refine gate_callee (f:=26) rfl ?_);refine goesL_ (some 57) rfl rfl Try.func26 (by kernel_rfl) rfl #[.agg #[.slice A0_0 l0_0.length c0_0,.slice A0_1 l0_1.length c0_1],.int .i64 a2] rfl (by (try simp only [List.map_toArray,List.map_cons,List.map_nil]);first|done|rfl|(simp only [List.length_drop,List.length_take];rfl)) ?_;(with_reducible refine (slipwayref04_Cold.calls k _ _ l0_0 _ _ l0_1 a2 t408 t409 t410 _ ?side1 ?side2 ?side3 ?side4 A11.out).mono ?_);(case side1=>repeat (first|exact (Kd.C_below HR0_0.out HB.out)|(with_reducible refine Kd.C_alloc ?_ _)|(with_reducible refine Kd.C_drewN ?_ _)|(with_reducible refine Kd.C_drew ?_)));(case side2=>exact HC0_0.out);(case side3=>repeat (first|exact (Kd.C_below HR0_1.out HB.out)|(with_reducible refine Kd.C_alloc ?_ _)|(with_reducible refine Kd.C_drewN ?_ _)|(with_reducible refine Kd.C_drew ?_)));(case side4=>exact HC0_1.out);rintro e w45 ⟨rfl,hb⟩;refine ⟨_,rfl,?_⟩;have n0_:=zm (Kd.R_below (by (with_reducible repeat (first|apply zrA|apply zrN|apply zrD));exact HO400.out) hb);have n1_:=zm (zbB (g:=gb393) (o:=.cells #[.slice A0_0 l0_0.length c0_0,.slice A0_1 l0_1.length c0_1] 25 (0,0)) (by (with_reducible repeat (first|refine zbN ?_ _|refine zbD ?_|refine zbA ?_ _));exact BK393.out) hb);have n2_:=zm (below_step (by repeat (first|(with_reducible first|exact HB.out|apply zlA|apply zlN|apply zlD|refine zlS ?_ GE393.out)|exact HB.out)) hb);clear HO400 BK393 HB;have HO400:=n0_;have BK393:=n1_;have HB:=n2_;clear n0_ n1_ n2_;(try clear hb);(try clear hb2);(try clear hk);(try clear hi)))
             have n0_:=zm (zrD HO400.out)
             have n1_:=zm (zbD BK393.out)
             have n2_:=zm (zlD HB.out)
             clear HO400 BK393 HB
             have HO400:=n0_
             have BK393:=n1_
             have HB:=n2_
             clear n0_ n1_ n2_
             obtain ⟨AoS400,coS400,eoS400⟩:=Kd.R_slice HO400.out
             subst eoS400
             refine start_ (n:=69) (S:=fun w'=>w'.cell? ⟨gb393,0,none⟩=some (.slice A0_0 l0_0.length c0_0)∧w'.cell? ⟨gb393,1,none⟩=some (.slice A0_1 l0_1.length c0_1)) (ds:=[]) #[false,false,false,false,false,false,false,false,false,false,false,false,false,false,false,false,false,false,false,false,false,false,false,false,false,false,false,false,false,false,false,false,false,false,false,false,false,false,false,false,false,false,false,false,false,false,false,false,false,false,false,false,false,false,false,false,false,false,false,false,false,false,false,false,false,false,false,false,false] (by kernel_rfl) rfl rfl ⟨(blk_cell BK393.out 0).trans rfl,(blk_cell BK393.out 1).trans rfl⟩ (fun hHeld=>?_);refine with_tabW slipwaylaw04_PoolTells.tab8 slipwaylaw04_PoolTells.bits8 (fun HT_ HW_=>?_)
             generalize w45.drew=w46 at HO400 BK393 HB hHeld ⊢
             refine one_ (i:=0) (N:=some 61) #[true,false,false,false,false,false,false,false,false,false,false,false,false,false,false,false,false,false,false,false,false,false,false,false,false,false,false,false,false,false,false,false,false,false,false,false,false,false,false,false,false,false,false,false,false,false,false,false,false,false,false,false,false,false,false,false,false,false,false,false,false,false,false,false,false,false,false,false,false] rfl rfl (one_of HT_.out (by kernel_rfl)) (by decide) (fun K hK=>?_)
             refine goes_ Try.func12 (by kernel_rfl) rfl #[] (by rfl) rfl rfl (by (try simp only [List.map_toArray,List.map_cons,List.map_nil]);first|done|rfl|(simp only [List.length_drop,List.length_take];rfl)) ?_
             with_reducible refine (slipwaylaw04_begun.calls k  true _ A12.out).mono ?_
             rintro e w47 ⟨rfl,hb⟩
             refine ⟨_,rfl,?_⟩
             have n0_:=zm (Kd.R_below (by (with_reducible repeat (first|apply zrA|apply zrN|apply zrD));exact HO400.out) hb)
             have n1_:=zm (zbB (g:=gb393) (o:=.cells #[.slice A0_0 l0_0.length c0_0,.slice A0_1 l0_1.length c0_1] 25 (0,0)) (by (with_reducible repeat (first|refine zbN ?_ _|refine zbD ?_|refine zbA ?_ _));exact BK393.out) hb)
             have n2_:=zm (below_step (by repeat (first|(with_reducible first|exact HB.out|apply zlA|apply zlN|apply zlD|refine zlS ?_ GE393.out)|exact HB.out)) hb)
             clear HO400 BK393 HB
             have HO400:=n0_
             have BK393:=n1_
             have HB:=n2_
             clear n0_ n1_ n2_
             (try clear hb)
             (try clear hb2)
             (try clear hk)
             (try clear hi)
             refine hK.out _ _ ⟨(blk_cell BK393.out 0).trans rfl,(blk_cell BK393.out 1).trans rfl⟩ (fun hHeld=>?_)
             clear hK K
             refine norm_ (a':=?_) ?_ ?_
             rotate_left
             ·show Act.put _ (some 61) _=_
              simp only [Act.put,List.setIfInBounds_toArray,List.set_cons_zero,List.set_cons_succ,i64_w,i32_w]
              rfl
             refine pure_ (i:=1) (N:=some 62) (v:=?_) (a':=?_) #[true,true,false,false,false,false,false,false,false,false,false,false,false,false,false,false,false,false,false,false,false,false,false,false,false,false,false,false,false,false,false,false,false,false,false,false,false,false,false,false,false,false,false,false,false,false,false,false,false,false,false,false,false,false,false,false,false,false,false,false,false,false,false,false,false,false,false,false,false] rfl rfl (any_of HT_.out (by kernel_rfl)) (fun _ _ _ h=>h) (Or.inl ⟨by rfl,?_⟩) ?_ ?_
             rotate_left
             ·intro w'
              go_simp
              with_reducible rfl
             rotate_left
             ·simp only [Act.put,List.setIfInBounds_toArray,List.set_cons_zero,List.set_cons_succ,i64_w,i32_w]
              rfl
             refine pure_ (i:=2) (N:=some 63) (v:=?_) (a':=?_) #[true,true,true,false,false,false,false,false,false,false,false,false,false,false,false,false,false,false,false,false,false,false,false,false,false,false,false,false,false,false,false,false,false,false,false,false,false,false,false,false,false,false,false,false,false,false,false,false,false,false,false,false,false,false,false,false,false,false,false,false,false,false,false,false,false,false,false,false,false] rfl rfl (any_of HT_.out (by kernel_rfl)) (fun _ _ _ h=>h) (Or.inl ⟨by rfl,?_⟩) ?_ ?_
             rotate_left
             ·intro w'
              go_simp
              with_reducible rfl
             rotate_left
             ·simp only [Act.put,List.setIfInBounds_toArray,List.set_cons_zero,List.set_cons_succ,i64_w,i32_w]
              rfl
             refine pure_ (i:=3) (N:=some 64) (v:=?_) (a':=?_) #[true,true,true,true,false,false,false,false,false,false,false,false,false,false,false,false,false,false,false,false,false,false,false,false,false,false,false,false,false,false,false,false,false,false,false,false,false,false,false,false,false,false,false,false,false,false,false,false,false,false,false,false,false,false,false,false,false,false,false,false,false,false,false,false,false,false,false,false,false] rfl rfl (any_of HT_.out (by kernel_rfl)) (fun _ _ _ h=>h) (Or.inl ⟨by rfl,?_⟩) ?_ ?_
             rotate_left
             ·intro w'
              go_simp
              with_reducible rfl
             rotate_left
             ·simp only [Act.put,List.setIfInBounds_toArray,List.set_cons_zero,List.set_cons_succ,i64_w,i32_w]
              rfl
             refine pure_ (i:=4) (N:=some 65) (v:=?_) (a':=?_) #[true,true,true,true,true,false,false,false,false,false,false,false,false,false,false,false,false,false,false,false,false,false,false,false,false,false,false,false,false,false,false,false,false,false,false,false,false,false,false,false,false,false,false,false,false,false,false,false,false,false,false,false,false,false,false,false,false,false,false,false,false,false,false,false,false,false,false,false,false] rfl rfl (any_of HT_.out (by kernel_rfl)) (fun _ _ _ h=>h) (Or.inl ⟨by rfl,?_⟩) ?_ ?_
             rotate_left
             ·intro w'
              go_simp
              with_reducible rfl
             rotate_left
             ·simp only [Act.put,List.setIfInBounds_toArray,List.set_cons_zero,List.set_cons_succ,i64_w,i32_w]
              rfl
             refine pure_ (i:=5) (N:=some 66) (v:=?_) (a':=?_) #[true,true,true,true,true,true,false,false,false,false,false,false,false,false,false,false,false,false,false,false,false,false,false,false,false,false,false,false,false,false,false,false,false,false,false,false,false,false,false,false,false,false,false,false,false,false,false,false,false,false,false,false,false,false,false,false,false,false,false,false,false,false,false,false,false,false,false,false,false] rfl rfl (any_of HT_.out (by kernel_rfl)) (fun _ _ _ h=>h) (Or.inl ⟨by rfl,?_⟩) ?_ ?_
             rotate_left
             ·intro w'
              go_simp
              with_reducible rfl
             rotate_left
             ·simp only [Act.put,List.setIfInBounds_toArray,List.set_cons_zero,List.set_cons_succ,i64_w,i32_w]
              rfl
             refine pure_ (i:=6) (N:=some 67) (v:=?_) (a':=?_) #[true,true,true,true,true,true,true,false,false,false,false,false,false,false,false,false,false,false,false,false,false,false,false,false,false,false,false,false,false,false,false,false,false,false,false,false,false,false,false,false,false,false,false,false,false,false,false,false,false,false,false,false,false,false,false,false,false,false,false,false,false,false,false,false,false,false,false,false,false] rfl rfl (any_of HT_.out (by kernel_rfl)) (fun _ _ _ h=>h) (Or.inl ⟨by rfl,?_⟩) ?_ ?_
             rotate_left
             ·intro w'
              go_simp
              with_reducible rfl
             rotate_left
             ·simp only [Act.put,List.setIfInBounds_toArray,List.set_cons_zero,List.set_cons_succ,i64_w,i32_w]
              rfl
             refine pure_ (i:=7) (N:=some 68) (v:=?_) (a':=?_) #[true,true,true,true,true,true,true,true,false,false,false,false,false,false,false,false,false,false,false,false,false,false,false,false,false,false,false,false,false,false,false,false,false,false,false,false,false,false,false,false,false,false,false,false,false,false,false,false,false,false,false,false,false,false,false,false,false,false,false,false,false,false,false,false,false,false,false,false,false] rfl rfl (any_of HT_.out (by kernel_rfl)) (fun _ _ _ h=>h) (Or.inl ⟨by rfl,?_⟩) ?_ ?_
             rotate_left
             ·intro w'
              go_simp
              with_reducible rfl
             rotate_left
             ·simp only [Act.put,List.setIfInBounds_toArray,List.set_cons_zero,List.set_cons_succ,i64_w,i32_w]
              rfl
             refine pure_ (i:=8) (N:=some 69) (v:=?_) (a':=?_) #[true,true,true,true,true,true,true,true,true,false,false,false,false,false,false,false,false,false,false,false,false,false,false,false,false,false,false,false,false,false,false,false,false,false,false,false,false,false,false,false,false,false,false,false,false,false,false,false,false,false,false,false,false,false,false,false,false,false,false,false,false,false,false,false,false,false,false,false,false] rfl rfl (any_of HT_.out (by kernel_rfl)) (fun _ _ _ h=>h) (Or.inl ⟨by rfl,?_⟩) ?_ ?_
             rotate_left
             ·intro w'
              go_simp
              with_reducible rfl
             rotate_left
             ·simp only [Act.put,List.setIfInBounds_toArray,List.set_cons_zero,List.set_cons_succ,i64_w,i32_w]
              rfl
             refine pure_ (i:=9) (N:=some 70) (v:=?_) (a':=?_) #[true,true,true,true,true,true,true,true,true,true,false,false,false,false,false,false,false,false,false,false,false,false,false,false,false,false,false,false,false,false,false,false,false,false,false,false,false,false,false,false,false,false,false,false,false,false,false,false,false,false,false,false,false,false,false,false,false,false,false,false,false,false,false,false,false,false,false,false,false] rfl rfl (any_of HT_.out (by kernel_rfl)) (fun _ _ _ h=>h) (Or.inl ⟨by rfl,?_⟩) ?_ ?_
             rotate_left
             ·intro w'
              go_simp
              with_reducible rfl
             rotate_left
             ·simp only [Act.put,List.setIfInBounds_toArray,List.set_cons_zero,List.set_cons_succ,i64_w,i32_w]
              rfl
             refine pure_ (i:=10) (N:=some 71) (v:=?_) (a':=?_) #[true,true,true,true,true,true,true,true,true,true,true,false,false,false,false,false,false,false,false,false,false,false,false,false,false,false,false,false,false,false,false,false,false,false,false,false,false,false,false,false,false,false,false,false,false,false,false,false,false,false,false,false,false,false,false,false,false,false,false,false,false,false,false,false,false,false,false,false,false] rfl rfl (any_of HT_.out (by kernel_rfl)) (fun _ _ _ h=>h) (Or.inl ⟨by rfl,?_⟩) ?_ ?_
             rotate_left
             ·intro w'
              go_simp
              with_reducible rfl
             rotate_left
             ·simp only [Act.put,List.setIfInBounds_toArray,List.set_cons_zero,List.set_cons_succ,i64_w,i32_w]
              rfl
             refine pure_ (i:=11) (N:=some 72) (v:=?_) (a':=?_) #[true,true,true,true,true,true,true,true,true,true,true,true,false,false,false,false,false,false,false,false,false,false,false,false,false,false,false,false,false,false,false,false,false,false,false,false,false,false,false,false,false,false,false,false,false,false,false,false,false,false,false,false,false,false,false,false,false,false,false,false,false,false,false,false,false,false,false,false,false] rfl rfl (any_of HT_.out (by kernel_rfl)) (fun _ _ _ h=>h) (Or.inl ⟨by rfl,?_⟩) ?_ ?_
             rotate_left
             ·intro w'
              go_simp
              with_reducible rfl
             rotate_left
             ·simp only [Act.put,List.setIfInBounds_toArray,List.set_cons_zero,List.set_cons_succ,i64_w,i32_w]
              rfl
             refine pure_ (i:=13) (N:=some 74) (v:=?_) (a':=?_) #[true,true,true,true,true,true,true,true,true,true,true,true,false,true,false,false,false,false,false,false,false,false,false,false,false,false,false,false,false,false,false,false,false,false,false,false,false,false,false,false,false,false,false,false,false,false,false,false,false,false,false,false,false,false,false,false,false,false,false,false,false,false,false,false,false,false,false,false,false] rfl rfl (any_of HT_.out (by kernel_rfl)) (fun _ _ _ h=>h) (Or.inl ⟨by rfl,?_⟩) ?_ ?_
             rotate_left
             ·intro w'
              go_simp
              with_reducible rfl
             rotate_left
             ·simp only [Act.put,List.setIfInBounds_toArray,List.set_cons_zero,List.set_cons_succ,i64_w,i32_w]
              rfl
             refine pure_ (i:=15) (N:=some 76) (v:=?_) (a':=?_) #[true,true,true,true,true,true,true,true,true,true,true,true,false,true,false,true,false,false,false,false,false,false,false,false,false,false,false,false,false,false,false,false,false,false,false,false,false,false,false,false,false,false,false,false,false,false,false,false,false,false,false,false,false,false,false,false,false,false,false,false,false,false,false,false,false,false,false,false,false] rfl rfl (any_of HT_.out (by kernel_rfl)) (fun _ _ _ h=>h) (Or.inl ⟨by rfl,?_⟩) ?_ ?_
             rotate_left
             ·intro w'
              go_simp
              with_reducible rfl
             rotate_left
             ·simp only [Act.put,List.setIfInBounds_toArray,List.set_cons_zero,List.set_cons_succ,i64_w,i32_w]
              rfl
             refine pure_ (i:=16) (N:=some 77) (v:=?_) (a':=?_) #[true,true,true,true,true,true,true,true,true,true,true,true,false,true,false,true,true,false,false,false,false,false,false,false,false,false,false,false,false,false,false,false,false,false,false,false,false,false,false,false,false,false,false,false,false,false,false,false,false,false,false,false,false,false,false,false,false,false,false,false,false,false,false,false,false,false,false,false,false] rfl rfl (any_of HT_.out (by kernel_rfl)) (fun _ _ _ h=>h) (Or.inl ⟨by rfl,?_⟩) ?_ ?_
             rotate_left
             ·intro w'
              go_simp
              with_reducible rfl
             rotate_left
             ·simp only [Act.put,List.setIfInBounds_toArray,List.set_cons_zero,List.set_cons_succ,i64_w,i32_w]
              rfl
             refine take_ (i:=12) (N:=some 73) (v:=?_) (a':=?_) #[true,true,true,true,true,true,true,true,true,true,true,true,true,true,false,true,true,false,false,false,false,false,false,false,false,false,false,false,false,false,false,false,false,false,false,false,false,false,false,false,false,false,false,false,false,false,false,false,false,false,false,false,false,false,false,false,false,false,false,false,false,false,false,false,false,false,false,false,false] rfl rfl (take_ofW HT_.out HW_.out (by kernel_rfl)) (fun _ _ _ h=>h) (Or.inl ⟨by rfl,?_⟩) hHeld ?_ ?_
             rotate_left
             ·rintro w' ⟨s0,s1⟩
              go_simp
              with_reducible rfl
             rotate_left
             ·simp only [Act.put,List.setIfInBounds_toArray,List.set_cons_zero,List.set_cons_succ,i64_w,i32_w]
              rfl
             refine one_ (i:=14) (N:=some 75) #[true,true,true,true,true,true,true,true,true,true,true,true,true,true,true,true,true,false,false,false,false,false,false,false,false,false,false,false,false,false,false,false,false,false,false,false,false,false,false,false,false,false,false,false,false,false,false,false,false,false,false,false,false,false,false,false,false,false,false,false,false,false,false,false,false,false,false,false,false] rfl rfl (one_of HT_.out (by kernel_rfl)) (by decide) (fun K hK=>?_)
             refine goes_ Try.func16 (by kernel_rfl) rfl #[.agg #[.slice A0_0 l0_0.length c0_0,.slice A0_1 l0_1.length c0_1],.int .i64 a1] (by rfl) rfl rfl (by (try simp only [List.map_toArray,List.map_cons,List.map_nil]);first|done|rfl|(simp only [List.length_drop,List.length_take];rfl)) ?_
             with_reducible refine (pool_Count.calls k _ _ l0_0 _ _ l0_1 a1 t412 _ ?side1 ?side2 ?side3 ?side4 A16.out).mono ?_
             (case side1=>repeat (first|exact (Kd.C_below HR0_0.out HB.out)|(with_reducible refine Kd.C_alloc ?_ _)|(with_reducible refine Kd.C_drewN ?_ _)|(with_reducible refine Kd.C_drew ?_)))
             (case side2=>exact HC0_0.out)
             (case side3=>repeat (first|exact (Kd.C_below HR0_1.out HB.out)|(with_reducible refine Kd.C_alloc ?_ _)|(with_reducible refine Kd.C_drewN ?_ _)|(with_reducible refine Kd.C_drew ?_)))
             (case side4=>exact HC0_1.out)
             rintro e w48 ⟨rfl,hb⟩
             refine ⟨_,rfl,?_⟩
             have n0_:=zm (Kd.R_below (by (with_reducible repeat (first|apply zrA|apply zrN|apply zrD));exact HO400.out) hb)
             have n1_:=zm (zbB (g:=gb393) (o:=.cells #[.slice A0_0 l0_0.length c0_0,.slice A0_1 l0_1.length c0_1] 25 (0,0)) (by (with_reducible repeat (first|refine zbN ?_ _|refine zbD ?_|refine zbA ?_ _));exact BK393.out) hb)
             have n2_:=zm (below_step (by repeat (first|(with_reducible first|exact HB.out|apply zlA|apply zlN|apply zlD|refine zlS ?_ GE393.out)|exact HB.out)) hb)
             clear HO400 BK393 HB
             have HO400:=n0_
             have BK393:=n1_
             have HB:=n2_
             clear n0_ n1_ n2_
             (try clear hb)
             (try clear hb2)
             (try clear hk)
             (try clear hi)
             obtain ⟨Ao49,co49,eo49⟩:=Kd.R_slice HO400.out
             (first|subst eo49|(injection eo49 with f1_ f2_ f3_;have f4_:=f1_.symm;have f5_:=f3_.symm;clear f1_ f2_ f3_;subst f4_;subst f5_))
             refine hK.out _ _ ⟨(blk_cell BK393.out 0).trans rfl,(blk_cell BK393.out 1).trans rfl⟩ (fun hHeld=>?_)
             clear hK K
             refine norm_ (a':=?_) ?_ ?_
             rotate_left
             ·show Act.put _ (some 75) _=_
              simp only [Act.put,List.setIfInBounds_toArray,List.set_cons_zero,List.set_cons_succ,i64_w,i32_w]
              rfl
             refine pure_ (i:=17) (N:=some 78) (v:=?_) (a':=?_) #[true,true,true,true,true,true,true,true,true,true,true,true,true,true,true,true,true,true,false,false,false,false,false,false,false,false,false,false,false,false,false,false,false,false,false,false,false,false,false,false,false,false,false,false,false,false,false,false,false,false,false,false,false,false,false,false,false,false,false,false,false,false,false,false,false,false,false,false,false] rfl rfl (any_of HT_.out (by kernel_rfl)) (fun _ _ _ h=>h) (Or.inl ⟨by rfl,?_⟩) ?_ ?_
             rotate_left
             ·intro w'
              go_simp
              with_reducible rfl
             rotate_left
             ·simp only [Act.put,List.setIfInBounds_toArray,List.set_cons_zero,List.set_cons_succ,i64_w,i32_w]
              rfl
             refine pure_ (i:=18) (N:=some 79) (v:=?_) (a':=?_) #[true,true,true,true,true,true,true,true,true,true,true,true,true,true,true,true,true,true,true,false,false,false,false,false,false,false,false,false,false,false,false,false,false,false,false,false,false,false,false,false,false,false,false,false,false,false,false,false,false,false,false,false,false,false,false,false,false,false,false,false,false,false,false,false,false,false,false,false,false] rfl rfl (any_of HT_.out (by kernel_rfl)) (fun _ _ _ h=>h) (Or.inl ⟨by rfl,?_⟩) ?_ ?_
             rotate_left
             ·intro w'
              go_simp
              with_reducible rfl
             rotate_left
             ·simp only [Act.put,List.setIfInBounds_toArray,List.set_cons_zero,List.set_cons_succ,i64_w,i32_w]
              rfl
             refine pure_ (i:=19) (N:=some 80) (v:=?_) (a':=?_) #[true,true,true,true,true,true,true,true,true,true,true,true,true,true,true,true,true,true,true,true,false,false,false,false,false,false,false,false,false,false,false,false,false,false,false,false,false,false,false,false,false,false,false,false,false,false,false,false,false,false,false,false,false,false,false,false,false,false,false,false,false,false,false,false,false,false,false,false,false] rfl rfl (any_of HT_.out (by kernel_rfl)) (fun _ _ _ h=>h) (Or.inl ⟨by rfl,?_⟩) ?_ ?_
             rotate_left
             ·intro w'
              go_simp
              with_reducible rfl
             rotate_left
             ·simp only [Act.put,List.setIfInBounds_toArray,List.set_cons_zero,List.set_cons_succ,i64_w,i32_w]
              rfl
             refine pure_ (i:=21) (N:=some 82) (v:=?_) (a':=?_) #[true,true,true,true,true,true,true,true,true,true,true,true,true,true,true,true,true,true,true,true,false,true,false,false,false,false,false,false,false,false,false,false,false,false,false,false,false,false,false,false,false,false,false,false,false,false,false,false,false,false,false,false,false,false,false,false,false,false,false,false,false,false,false,false,false,false,false,false,false] rfl rfl (any_of HT_.out (by kernel_rfl)) (fun _ _ _ h=>h) (Or.inl ⟨by rfl,?_⟩) ?_ ?_
             rotate_left
             ·intro w'
              go_simp
              with_reducible rfl
             rotate_left
             ·simp only [Act.put,List.setIfInBounds_toArray,List.set_cons_zero,List.set_cons_succ,i64_w,i32_w]
              rfl
             refine pure_ (i:=24) (N:=some 85) (v:=?_) (a':=?_) #[true,true,true,true,true,true,true,true,true,true,true,true,true,true,true,true,true,true,true,true,false,true,false,false,true,false,false,false,false,false,false,false,false,false,false,false,false,false,false,false,false,false,false,false,false,false,false,false,false,false,false,false,false,false,false,false,false,false,false,false,false,false,false,false,false,false,false,false,false] rfl rfl (any_of HT_.out (by kernel_rfl)) (fun _ _ _ h=>h) (Or.inl ⟨by rfl,?_⟩) ?_ ?_
             rotate_left
             ·intro w'
              go_simp
              with_reducible rfl
             rotate_left
             ·simp only [Act.put,List.setIfInBounds_toArray,List.set_cons_zero,List.set_cons_succ,i64_w,i32_w]
              rfl
             refine take_ (i:=20) (N:=some 81) (v:=?_) (a':=?_) #[true,true,true,true,true,true,true,true,true,true,true,true,true,true,true,true,true,true,true,true,true,true,false,false,true,false,false,false,false,false,false,false,false,false,false,false,false,false,false,false,false,false,false,false,false,false,false,false,false,false,false,false,false,false,false,false,false,false,false,false,false,false,false,false,false,false,false,false,false] rfl rfl (take_ofW HT_.out HW_.out (by kernel_rfl)) (fun _ _ _ h=>h) (Or.inl ⟨by rfl,?_⟩) hHeld ?_ ?_
             rotate_left
             ·rintro w' ⟨s0,s1⟩
              go_simp
              with_reducible rfl
             rotate_left
             ·simp only [Act.put,List.setIfInBounds_toArray,List.set_cons_zero,List.set_cons_succ,i64_w,i32_w]
              rfl
             refine one_ (i:=22) (N:=some 83) #[true,true,true,true,true,true,true,true,true,true,true,true,true,true,true,true,true,true,true,true,true,true,true,false,true,false,false,false,false,false,false,false,false,false,false,false,false,false,false,false,false,false,false,false,false,false,false,false,false,false,false,false,false,false,false,false,false,false,false,false,false,false,false,false,false,false,false,false,false] rfl rfl (one_of HT_.out (by kernel_rfl)) (by decide) (fun K hK=>?_)
             refine goes_ Try.func29 (by kernel_rfl) rfl #[.agg #[.slice A0_0 l0_0.length c0_0,.slice A0_1 l0_1.length c0_1],.int .i64 a1] (by rfl) rfl rfl (by (try simp only [List.map_toArray,List.map_cons,List.map_nil]);first|done|rfl|(simp only [List.length_drop,List.length_take];rfl)) ?_
             with_reducible refine (slipwaylaw04_told.runs k _ _ l0_0 _ _ l0_1 a1 999 t413 _ ?side1 ?side2 ?side3 ?side4 A18.out).mono ?_
             (case side1=>repeat (first|exact (Kd.C_below HR0_0.out HB.out)|(with_reducible refine Kd.C_alloc ?_ _)|(with_reducible refine Kd.C_drewN ?_ _)|(with_reducible refine Kd.C_drew ?_)))
             (case side2=>exact HC0_0.out)
             (case side3=>repeat (first|exact (Kd.C_below HR0_1.out HB.out)|(with_reducible refine Kd.C_alloc ?_ _)|(with_reducible refine Kd.C_drewN ?_ _)|(with_reducible refine Kd.C_drew ?_)))
             (case side4=>exact HC0_1.out)
             rintro e w_it101 ⟨Bs_it101,rfl,hit⟩
             refine ⟨_,rfl,?_⟩
             have HIT101:=zm hit
             clear hit
             obtain ⟨_,_,_,_,_,_,_,_,_,hbI_⟩:=HIT101.out.out;have nI393:=zbB (g:=gb393) (o:=.cells #[.slice A0_0 l0_0.length c0_0,.slice A0_1 l0_1.length c0_1] 25 (0,0)) (by (with_reducible repeat (first|refine zbN ?_ _|refine zbD ?_|refine zbA ?_ _));exact BK393.out) hbI_;refine hK.out _ _ ⟨(blk_cell nI393 0).trans rfl,(blk_cell nI393 1).trans rfl⟩ (fun hHeld=>?_);clear hbI_
             clear hK K
             refine norm_ (a':=?_) ?_ ?_
             rotate_left
             ·show Act.put _ (some 83) _=_
              simp only [Act.put,List.setIfInBounds_toArray,List.set_cons_zero,List.set_cons_succ,i64_w,i32_w]
              rfl
             refine one_ (i:=23) (N:=some 84) #[true,true,true,true,true,true,true,true,true,true,true,true,true,true,true,true,true,true,true,true,true,true,true,true,true,false,false,false,false,false,false,false,false,false,false,false,false,false,false,false,false,false,false,false,false,false,false,false,false,false,false,false,false,false,false,false,false,false,false,false,false,false,false,false,false,false,false,false,false] rfl rfl (one_of HT_.out (by kernel_rfl)) (by decide) (fun K hK=>?_)
             refine goes_ Try.func28 (by kernel_rfl) rfl #[.func (.func 52) #[] #[.pointer (some ⟨Bs_it101,0,none⟩)],.int .i64 999] (by rfl) rfl rfl (by (try simp only [List.map_toArray,List.map_cons,List.map_nil]);first|done|rfl|(simp only [List.length_drop,List.length_take];rfl)) ?_
             with_reducible refine (slipwaylaw04_told.calls _ _ _ _ _ HIT101.out).mono ?_
             rintro e w50 ⟨v414,rfl,ho0,hb⟩
             clear HIT101
             refine ⟨_,rfl,?_⟩
             have n0_:=zm (Kd.R_elder' (by (with_reducible repeat (first|apply zrA|apply zrN|apply zrD));exact HO400.out) (Kd.R_base ho0) hb)
             have n1_:=zm (Kd.R_lower (Kd.R_new' ho0 (Kd.R_lt (by (with_reducible repeat (first|apply zrA|apply zrN|apply zrD));exact HO400.out))) (below_size (by repeat (first|(with_reducible first|exact HB.out|apply zlA|apply zlN|apply zlD|refine zlS ?_ GE393.out)|exact HB.out))))
             have n2_:=zm (zbB (g:=gb393) (o:=.cells #[.slice A0_0 l0_0.length c0_0,.slice A0_1 l0_1.length c0_1] 25 (0,0)) (by (with_reducible repeat (first|refine zbN ?_ _|refine zbD ?_|refine zbA ?_ _));exact BK393.out) hb)
             have n3_:=zm (below_step (by repeat (first|(with_reducible first|exact HB.out|apply zlA|apply zlN|apply zlD|refine zlS ?_ GE393.out)|exact HB.out)) hb)
             clear HO400 BK393 HB
             have HO400:=n0_
             have HO415:=n1_
             have BK393:=n2_
             have HB:=n3_
             clear n0_ n1_ n2_ n3_
             (try clear hb)
             (try clear hb2)
             (try clear hk)
             (try clear hi)
             (try clear ho0)
             obtain ⟨Ao51,co51,eo51⟩:=Kd.R_slice HO415.out
             (first|subst eo51|(injection eo51 with f1_ f2_ f3_;have f4_:=f1_.symm;have f5_:=f3_.symm;clear f1_ f2_ f3_;subst f4_;subst f5_))
             refine hK.out _ _ ⟨(blk_cell BK393.out 0).trans rfl,(blk_cell BK393.out 1).trans rfl⟩ (fun hHeld=>?_)
             clear hK K
             refine norm_ (a':=?_) ?_ ?_
             rotate_left
             ·show Act.put _ (some 84) _=_
              simp only [Act.put,List.setIfInBounds_toArray,List.set_cons_zero,List.set_cons_succ,i64_w,i32_w]
              rfl
             refine one_ (i:=25) (N:=some 86) #[true,true,true,true,true,true,true,true,true,true,true,true,true,true,true,true,true,true,true,true,true,true,true,true,true,true,false,false,false,false,false,false,false,false,false,false,false,false,false,false,false,false,false,false,false,false,false,false,false,false,false,false,false,false,false,false,false,false,false,false,false,false,false,false,false,false,false,false,false] rfl rfl (one_of HT_.out (by kernel_rfl)) (by decide) (fun K hK=>?_)
             refine goes_ Try.func27 (by kernel_rfl) rfl #[.slice Ao51 t413.length co51,.slice Ao49 t398.length co49] (by rfl) rfl rfl (by (try simp only [List.map_toArray,List.map_cons,List.map_nil]);first|done|rfl|(simp only [List.length_drop,List.length_take];rfl)) ?_
             with_reducible refine (slices_Equal_int_int.calls k _ _ t413 _ _ t398 true _ ?side1 ?side2 ?side3 ?side4 A19.out).mono ?_
             (case side1=>repeat (first|exact (Kd.R_reads' HO415.out).2.2|(with_reducible refine Kd.C_alloc ?_ _)|(with_reducible refine Kd.C_drewN ?_ _)|(with_reducible refine Kd.C_drew ?_)))
             (case side2=>exact (Kd.R_reads' HO415.out).2.1)
             (case side3=>repeat (first|exact (Kd.R_reads' HO400.out).2.2|(with_reducible refine Kd.C_alloc ?_ _)|(with_reducible refine Kd.C_drewN ?_ _)|(with_reducible refine Kd.C_drew ?_)))
             (case side4=>exact (Kd.R_reads' HO400.out).2.1)
             rintro e w' ⟨rfl,⟨nd,rfl⟩⟩
             refine ⟨_,rfl,?_⟩
             refine hK.out _ _ ⟨(blk_cell BK393.out 0).trans rfl,(blk_cell BK393.out 1).trans rfl⟩ (fun hHeld=>?_)
             clear hK K
             refine norm_ (a':=?_) ?_ ?_
             rotate_left
             ·show Act.put _ (some 86) _=_
              simp only [Act.put,List.setIfInBounds_toArray,List.set_cons_zero,List.set_cons_succ,i64_w,i32_w]
              rfl
             refine pure_ (i:=26) (N:=some 87) (v:=?_) (a':=?_) #[true,true,true,true,true,true,true,true,true,true,true,true,true,true,true,true,true,true,true,true,true,true,true,true,true,true,true,false,false,false,false,false,false,false,false,false,false,false,false,false,false,false,false,false,false,false,false,false,false,false,false,false,false,false,false,false,false,false,false,false,false,false,false,false,false,false,false,false,false] rfl rfl (any_of HT_.out (by kernel_rfl)) (fun _ _ _ h=>h) (Or.inl ⟨by rfl,?_⟩) ?_ ?_
             rotate_left
             ·intro w'
              go_simp
              with_reducible rfl
             rotate_left
             ·simp only [Act.put,List.setIfInBounds_toArray,List.set_cons_zero,List.set_cons_succ,i64_w,i32_w]
              rfl
             refine pure_ (i:=27) (N:=some 88) (v:=?_) (a':=?_) #[true,true,true,true,true,true,true,true,true,true,true,true,true,true,true,true,true,true,true,true,true,true,true,true,true,true,true,true,false,false,false,false,false,false,false,false,false,false,false,false,false,false,false,false,false,false,false,false,false,false,false,false,false,false,false,false,false,false,false,false,false,false,false,false,false,false,false,false,false] rfl rfl (any_of HT_.out (by kernel_rfl)) (fun _ _ _ h=>h) (Or.inl ⟨by rfl,?_⟩) ?_ ?_
             rotate_left
             ·intro w'
              go_simp
              with_reducible rfl
             rotate_left
             ·simp only [Act.put,List.setIfInBounds_toArray,List.set_cons_zero,List.set_cons_succ,i64_w,i32_w]
              rfl
             refine pure_ (i:=29) (N:=some 90) (v:=?_) (a':=?_) #[true,true,true,true,true,true,true,true,true,true,true,true,true,true,true,true,true,true,true,true,true,true,true,true,true,true,true,true,false,true,false,false,false,false,false,false,false,false,false,false,false,false,false,false,false,false,false,false,false,false,false,false,false,false,false,false,false,false,false,false,false,false,false,false,false,false,false,false,false] rfl rfl (any_of HT_.out (by kernel_rfl)) (fun _ _ _ h=>h) (Or.inl ⟨by rfl,?_⟩) ?_ ?_
             rotate_left
             ·intro w'
              go_simp
              with_reducible rfl
             rotate_left
             ·simp only [Act.put,List.setIfInBounds_toArray,List.set_cons_zero,List.set_cons_succ,i64_w,i32_w]
              rfl
             refine pure_ (i:=31) (N:=some 92) (v:=?_) (a':=?_) #[true,true,true,true,true,true,true,true,true,true,true,true,true,true,true,true,true,true,true,true,true,true,true,true,true,true,true,true,false,true,false,true,false,false,false,false,false,false,false,false,false,false,false,false,false,false,false,false,false,false,false,false,false,false,false,false,false,false,false,false,false,false,false,false,false,false,false,false,false] rfl rfl (any_of HT_.out (by kernel_rfl)) (fun _ _ _ h=>h) (Or.inl ⟨by rfl,?_⟩) ?_ ?_
             rotate_left
             ·intro w'
              go_simp
              with_reducible rfl
             rotate_left
             ·simp only [Act.put,List.setIfInBounds_toArray,List.set_cons_zero,List.set_cons_succ,i64_w,i32_w]
              rfl
             refine pure_ (i:=32) (N:=some 93) (v:=?_) (a':=?_) #[true,true,true,true,true,true,true,true,true,true,true,true,true,true,true,true,true,true,true,true,true,true,true,true,true,true,true,true,false,true,false,true,true,false,false,false,false,false,false,false,false,false,false,false,false,false,false,false,false,false,false,false,false,false,false,false,false,false,false,false,false,false,false,false,false,false,false,false,false] rfl rfl (any_of HT_.out (by kernel_rfl)) (fun _ _ _ h=>h) (Or.inl ⟨by rfl,?_⟩) ?_ ?_
             rotate_left
             ·intro w'
              go_simp
              with_reducible rfl
             rotate_left
             ·simp only [Act.put,List.setIfInBounds_toArray,List.set_cons_zero,List.set_cons_succ,i64_w,i32_w]
              rfl
             refine pure_ (i:=34) (N:=some 95) (v:=?_) (a':=?_) #[true,true,true,true,true,true,true,true,true,true,true,true,true,true,true,true,true,true,true,true,true,true,true,true,true,true,true,true,false,true,false,true,true,false,true,false,false,false,false,false,false,false,false,false,false,false,false,false,false,false,false,false,false,false,false,false,false,false,false,false,false,false,false,false,false,false,false,false,false] rfl rfl (any_of HT_.out (by kernel_rfl)) (fun _ _ _ h=>h) (Or.inl ⟨by rfl,?_⟩) ?_ ?_
             rotate_left
             ·intro w'
              go_simp
              with_reducible rfl
             rotate_left
             ·simp only [Act.put,List.setIfInBounds_toArray,List.set_cons_zero,List.set_cons_succ,i64_w,i32_w]
              rfl
             refine pure_ (i:=35) (N:=some 96) (v:=?_) (a':=?_) #[true,true,true,true,true,true,true,true,true,true,true,true,true,true,true,true,true,true,true,true,true,true,true,true,true,true,true,true,false,true,false,true,true,false,true,true,false,false,false,false,false,false,false,false,false,false,false,false,false,false,false,false,false,false,false,false,false,false,false,false,false,false,false,false,false,false,false,false,false] rfl rfl (any_of HT_.out (by kernel_rfl)) (fun _ _ _ h=>h) (Or.inl ⟨by rfl,?_⟩) ?_ ?_
             rotate_left
             ·intro w'
              go_simp
              with_reducible rfl
             rotate_left
             ·simp only [Act.put,List.setIfInBounds_toArray,List.set_cons_zero,List.set_cons_succ,i64_w,i32_w]
              rfl
             refine pure_ (i:=36) (N:=some 97) (v:=?_) (a':=?_) #[true,true,true,true,true,true,true,true,true,true,true,true,true,true,true,true,true,true,true,true,true,true,true,true,true,true,true,true,false,true,false,true,true,false,true,true,true,false,false,false,false,false,false,false,false,false,false,false,false,false,false,false,false,false,false,false,false,false,false,false,false,false,false,false,false,false,false,false,false] rfl rfl (any_of HT_.out (by kernel_rfl)) (fun _ _ _ h=>h) (Or.inl ⟨by rfl,?_⟩) ?_ ?_
             rotate_left
             ·intro w'
              go_simp
              with_reducible rfl
             rotate_left
             ·simp only [Act.put,List.setIfInBounds_toArray,List.set_cons_zero,List.set_cons_succ,i64_w,i32_w]
              rfl
             refine pure_ (i:=37) (N:=some 98) (v:=?_) (a':=?_) #[true,true,true,true,true,true,true,true,true,true,true,true,true,true,true,true,true,true,true,true,true,true,true,true,true,true,true,true,false,true,false,true,true,false,true,true,true,true,false,false,false,false,false,false,false,false,false,false,false,false,false,false,false,false,false,false,false,false,false,false,false,false,false,false,false,false,false,false,false] rfl rfl (any_of HT_.out (by kernel_rfl)) (fun _ _ _ h=>h) (Or.inl ⟨by rfl,?_⟩) ?_ ?_
             rotate_left
             ·intro w'
              go_simp
              with_reducible rfl
             rotate_left
             ·simp only [Act.put,List.setIfInBounds_toArray,List.set_cons_zero,List.set_cons_succ,i64_w,i32_w]
              rfl
             refine pure_ (i:=38) (N:=some 99) (v:=?_) (a':=?_) #[true,true,true,true,true,true,true,true,true,true,true,true,true,true,true,true,true,true,true,true,true,true,true,true,true,true,true,true,false,true,false,true,true,false,true,true,true,true,true,false,false,false,false,false,false,false,false,false,false,false,false,false,false,false,false,false,false,false,false,false,false,false,false,false,false,false,false,false,false] rfl rfl (any_of HT_.out (by kernel_rfl)) (fun _ _ _ h=>h) (Or.inl ⟨by rfl,?_⟩) ?_ ?_
             rotate_left
             ·intro w'
              go_simp
              with_reducible rfl
             rotate_left
             ·simp only [Act.put,List.setIfInBounds_toArray,List.set_cons_zero,List.set_cons_succ,i64_w,i32_w]
              rfl
             refine pure_ (i:=39) (N:=some 100) (v:=?_) (a':=?_) #[true,true,true,true,true,true,true,true,true,true,true,true,true,true,true,true,true,true,true,true,true,true,true,true,true,true,true,true,false,true,false,true,true,false,true,true,true,true,true,true,false,false,false,false,false,false,false,false,false,false,false,false,false,false,false,false,false,false,false,false,false,false,false,false,false,false,false,false,false] rfl rfl (any_of HT_.out (by kernel_rfl)) (fun _ _ _ h=>h) (Or.inl ⟨by rfl,?_⟩) ?_ ?_
             rotate_left
             ·intro w'
              go_simp
              with_reducible rfl
             rotate_left
             ·simp only [Act.put,List.setIfInBounds_toArray,List.set_cons_zero,List.set_cons_succ,i64_w,i32_w]
              rfl
             have q53e:((ji22):Int)≤((t398.length:Int):Int):=of_decide_eq_true (by first|(with_reducible assumption)|assumption)
             obtain ⟨i053e,hi053e,_,hsz53e,_⟩:=info_parts info3
             have hroom53e:t398.length≤co49:=(Kd.R_reads' HO400.out).2.1
             have hcut53e:=cut_to (P:=Try.prog) 22 3 .i64 Try.underlying22 hi053e Ao49 t398.length co49 (ji22) (of_decide_eq_true (by first|(with_reducible assumption)|assumption)) q53e hroom53e
             have hy53e:y420.length=((ji22):Int).toNat:=(by rw [Ny420.out,List.length_take];omega)
             rw [← hy53e] at hcut53e
             clear hy53e q53e hroom53e
             refine pure_ (i:=40) (N:=some 101) (v:=?_) (a':=?_) #[true,true,true,true,true,true,true,true,true,true,true,true,true,true,true,true,true,true,true,true,true,true,true,true,true,true,true,true,false,true,false,true,true,false,true,true,true,true,true,true,true,false,false,false,false,false,false,false,false,false,false,false,false,false,false,false,false,false,false,false,false,false,false,false,false,false,false,false,false] rfl rfl (any_of HT_.out (by kernel_rfl)) (fun _ _ _ h=>h) (Or.inl ⟨by rfl,?_⟩) ?_ ?_
             rotate_left
             ·intro w'
              go_simp
              with_reducible rfl
             rotate_left
             ·simp only [Act.put,List.setIfInBounds_toArray,List.set_cons_zero,List.set_cons_succ,i64_w,i32_w]
              rfl
             refine take_ (i:=28) (N:=some 89) (v:=?_) (a':=?_) #[true,true,true,true,true,true,true,true,true,true,true,true,true,true,true,true,true,true,true,true,true,true,true,true,true,true,true,true,true,true,false,true,true,false,true,true,true,true,true,true,true,false,false,false,false,false,false,false,false,false,false,false,false,false,false,false,false,false,false,false,false,false,false,false,false,false,false,false,false] rfl rfl (take_ofW HT_.out HW_.out (by kernel_rfl)) (fun _ _ _ h=>h) (Or.inl ⟨by rfl,?_⟩) hHeld ?_ ?_
             rotate_left
             ·rintro w' ⟨s0,s1⟩
              go_simp
              with_reducible rfl
             rotate_left
             ·simp only [Act.put,List.setIfInBounds_toArray,List.set_cons_zero,List.set_cons_succ,i64_w,i32_w]
              rfl
             refine one_ (i:=30) (N:=some 91) #[true,true,true,true,true,true,true,true,true,true,true,true,true,true,true,true,true,true,true,true,true,true,true,true,true,true,true,true,true,true,true,true,true,false,true,true,true,true,true,true,true,false,false,false,false,false,false,false,false,false,false,false,false,false,false,false,false,false,false,false,false,false,false,false,false,false,false,false,false] rfl rfl (one_of HT_.out (by kernel_rfl)) (by decide) (fun K hK=>?_)
             refine goes_ Try.func29 (by kernel_rfl) rfl #[.agg #[.slice A0_0 l0_0.length c0_0,.slice A0_1 l0_1.length c0_1],.int .i64 a1] (by rfl) rfl rfl (by (try simp only [List.map_toArray,List.map_cons,List.map_nil]);first|done|rfl|(simp only [List.length_drop,List.length_take];rfl)) ?_
             with_reducible refine (slipwaylaw04_told.runs k _ _ l0_0 _ _ l0_1 a1 (wrap64 (a3)) t417 _ ?side1 ?side2 ?side3 ?side4 A21.out).mono ?_
             (case side1=>repeat (first|exact (Kd.C_below HR0_0.out (by repeat (first|(with_reducible first|exact HB.out|apply zlA|apply zlN|apply zlD|refine zlS ?_ GE393.out)|exact HB.out)))|(with_reducible refine Kd.C_alloc ?_ _)|(with_reducible refine Kd.C_drewN ?_ _)|(with_reducible refine Kd.C_drew ?_)))
             (case side2=>exact HC0_0.out)
             (case side3=>repeat (first|exact (Kd.C_below HR0_1.out (by repeat (first|(with_reducible first|exact HB.out|apply zlA|apply zlN|apply zlD|refine zlS ?_ GE393.out)|exact HB.out)))|(with_reducible refine Kd.C_alloc ?_ _)|(with_reducible refine Kd.C_drewN ?_ _)|(with_reducible refine Kd.C_drew ?_)))
             (case side4=>exact HC0_1.out)
             rintro e w_it102 ⟨Bs_it102,rfl,hit⟩
             refine ⟨_,rfl,?_⟩
             have HIT102:=zm hit
             clear hit
             obtain ⟨_,_,_,_,_,_,_,_,_,hbI_⟩:=HIT102.out.out;have nI393:=zbB (g:=gb393) (o:=.cells #[.slice A0_0 l0_0.length c0_0,.slice A0_1 l0_1.length c0_1] 25 (0,0)) (by (with_reducible repeat (first|refine zbN ?_ _|refine zbD ?_|refine zbA ?_ _));exact BK393.out) hbI_;refine hK.out _ _ ⟨(blk_cell nI393 0).trans rfl,(blk_cell nI393 1).trans rfl⟩ (fun hHeld=>?_);clear hbI_
             clear hK K
             refine norm_ (a':=?_) ?_ ?_
             rotate_left
             ·show Act.put _ (some 91) _=_
              simp only [Act.put,List.setIfInBounds_toArray,List.set_cons_zero,List.set_cons_succ,i64_w,i32_w]
              rfl
             refine one_ (i:=33) (N:=some 94) #[true,true,true,true,true,true,true,true,true,true,true,true,true,true,true,true,true,true,true,true,true,true,true,true,true,true,true,true,true,true,true,true,true,true,true,true,true,true,true,true,true,false,false,false,false,false,false,false,false,false,false,false,false,false,false,false,false,false,false,false,false,false,false,false,false,false,false,false,false] rfl rfl (one_of HT_.out (by kernel_rfl)) (by decide) (fun K hK=>?_)
             refine goes_ Try.func28 (by kernel_rfl) rfl #[.func (.func 52) #[] #[.pointer (some ⟨Bs_it102,0,none⟩)],.int .i64 (wrap64 (a3))] (by rfl) rfl rfl (by (try simp only [List.map_toArray,List.map_cons,List.map_nil]);first|done|rfl|(simp only [List.length_drop,List.length_take];rfl)) ?_
             with_reducible refine (slipwaylaw04_told.calls _ _ _ _ _ HIT102.out).mono ?_
             rintro e w52 ⟨v418,rfl,ho0,hb⟩
             clear HIT102
             refine ⟨_,rfl,?_⟩
             have n0_:=zm (Kd.R_elder' (by (with_reducible repeat (first|apply zrA|apply zrN|apply zrD));exact HO400.out) (Kd.R_base ho0) hb)
             have n1_:=zm (Kd.R_elder' (by (with_reducible repeat (first|apply zrA|apply zrN|apply zrD));exact HO415.out) (Kd.R_base ho0) hb)
             have n2_:=zm (Kd.R_lower (Kd.R_new' (Kd.R_new' ho0 (Kd.R_lt (by (with_reducible repeat (first|apply zrA|apply zrN|apply zrD));exact HO400.out))) (Kd.R_lt (by (with_reducible repeat (first|apply zrA|apply zrN|apply zrD));exact HO415.out))) (below_size (by repeat (first|(with_reducible first|exact HB.out|apply zlA|apply zlN|apply zlD|refine zlS ?_ GE393.out)|exact HB.out))))
             have n3_:=zm (zbB (g:=gb393) (o:=.cells #[.slice A0_0 l0_0.length c0_0,.slice A0_1 l0_1.length c0_1] 25 (0,0)) (by (with_reducible repeat (first|refine zbN ?_ _|refine zbD ?_|refine zbA ?_ _));exact BK393.out) hb)
             have n4_:=zm (below_step (by repeat (first|(with_reducible first|exact HB.out|apply zlA|apply zlN|apply zlD|refine zlS ?_ GE393.out)|exact HB.out)) hb)
             clear HO400 HO415 BK393 HB
             have HO400:=n0_
             have HO415:=n1_
             have HO419:=n2_
             have BK393:=n3_
             have HB:=n4_
             clear n0_ n1_ n2_ n3_ n4_
             (try clear hb)
             (try clear hb2)
             (try clear hk)
             (try clear hi)
             (try clear ho0)
             have q53:((ji22):Int)≤((t398.length:Int):Int):=of_decide_eq_true (by first|(with_reducible assumption)|assumption)
             obtain ⟨i053,hi053,_,hsz53,_⟩:=info_parts info3
             have hroom53:t398.length≤co49:=(Kd.R_reads' HO400.out).2.1
             have hC53:Kd.C (Kd.int .i64) _ Ao49 t398.length t398:=(Kd.R_reads' HO400.out).2.2
             have hcut53:=cut_to (P:=Try.prog) 22 3 .i64 Try.underlying22 hi053 Ao49 t398.length co49 (ji22) (of_decide_eq_true (by first|(with_reducible assumption)|assumption)) q53 hroom53
             have hr53:=Kd.C_take (m:=((ji22):Int).toNat) hC53 (by omega)
             have hy53:y420.length=((ji22):Int).toNat:=(by rw [Ny420.out,List.length_take];omega)
             rw [← Ny420.out] at hr53
             rw [← hy53] at hcut53
             have HR423:=zm hr53
             have HC423:=zm (show y420.length≤co49 from by omega)
             clear hr53 hC53 hroom53 hi053 hsz53
             have KY53:=zm hy53
             clear hy53
             have KL53:=zm (show ((ji22):Int).toNat≤t398.length from by omega)
             replace q53:=eq_true q53
             obtain ⟨Ao54,co54,eo54⟩:=Kd.R_slice HO419.out
             (first|subst eo54|(injection eo54 with f1_ f2_ f3_;have f4_:=f1_.symm;have f5_:=f3_.symm;clear f1_ f2_ f3_;subst f4_;subst f5_))
             refine hK.out _ _ ⟨(blk_cell BK393.out 0).trans rfl,(blk_cell BK393.out 1).trans rfl⟩ (fun hHeld=>?_)
             clear hK K
             refine norm_ (a':=?_) ?_ ?_
             rotate_left
             ·show Act.put _ (some 94) _=_
              simp only [Act.put,List.setIfInBounds_toArray,List.set_cons_zero,List.set_cons_succ,i64_w,i32_w]
              rfl
             refine one_ (i:=41) (N:=some 102) #[true,true,true,true,true,true,true,true,true,true,true,true,true,true,true,true,true,true,true,true,true,true,true,true,true,true,true,true,true,true,true,true,true,true,true,true,true,true,true,true,true,true,false,false,false,false,false,false,false,false,false,false,false,false,false,false,false,false,false,false,false,false,false,false,false,false,false,false,false] rfl rfl (one_of HT_.out (by kernel_rfl)) (by decide) (fun K hK=>?_)
             refine goes_ Try.func27 (by kernel_rfl) rfl #[.slice Ao54 t417.length co54,.slice Ao49 y420.length co49] (by rfl) rfl rfl (by (try simp only [List.map_toArray,List.map_cons,List.map_nil]);first|done|rfl|(simp only [List.length_drop,List.length_take];rfl)) ?_
             with_reducible refine (slices_Equal_int_int.calls k _ _ t417 _ _ y420 true _ ?side1 ?side2 ?side3 ?side4 A25.out).mono ?_
             (case side1=>repeat (first|exact (Kd.R_reads' HO419.out).2.2|(with_reducible refine Kd.C_alloc ?_ _)|(with_reducible refine Kd.C_drewN ?_ _)|(with_reducible refine Kd.C_drew ?_)))
             (case side2=>exact (Kd.R_reads' HO419.out).2.1)
             (case side3=>repeat (first|exact (by repeat (first|(with_reducible exact HR423.out)|(with_reducible refine Kd.C_alloc ?_ _)|(with_reducible refine Kd.C_drewN ?_ _)|(with_reducible refine Kd.C_drew ?_)|exact HR423.out))|(with_reducible refine Kd.C_alloc ?_ _)|(with_reducible refine Kd.C_drewN ?_ _)|(with_reducible refine Kd.C_drew ?_)))
             (case side4=>exact HC423.out)
             rintro e w' ⟨rfl,⟨nd,rfl⟩⟩
             refine ⟨_,rfl,?_⟩
             refine hK.out _ _ ⟨(blk_cell BK393.out 0).trans rfl,(blk_cell BK393.out 1).trans rfl⟩ (fun hHeld=>?_)
             clear hK K
             refine norm_ (a':=?_) ?_ ?_
             rotate_left
             ·show Act.put _ (some 102) _=_
              simp only [Act.put,List.setIfInBounds_toArray,List.set_cons_zero,List.set_cons_succ,i64_w,i32_w]
              rfl
             refine pure_ (i:=42) (N:=some 103) (v:=?_) (a':=?_) #[true,true,true,true,true,true,true,true,true,true,true,true,true,true,true,true,true,true,true,true,true,true,true,true,true,true,true,true,true,true,true,true,true,true,true,true,true,true,true,true,true,true,true,false,false,false,false,false,false,false,false,false,false,false,false,false,false,false,false,false,false,false,false,false,false,false,false,false,false] rfl rfl (any_of HT_.out (by kernel_rfl)) (fun _ _ _ h=>h) (Or.inl ⟨by rfl,?_⟩) ?_ ?_
             rotate_left
             ·intro w'
              go_simp
              with_reducible rfl
             rotate_left
             ·simp only [Act.put,List.setIfInBounds_toArray,List.set_cons_zero,List.set_cons_succ,i64_w,i32_w]
              rfl
             refine pure_ (i:=43) (N:=some 104) (v:=?_) (a':=?_) #[true,true,true,true,true,true,true,true,true,true,true,true,true,true,true,true,true,true,true,true,true,true,true,true,true,true,true,true,true,true,true,true,true,true,true,true,true,true,true,true,true,true,true,true,false,false,false,false,false,false,false,false,false,false,false,false,false,false,false,false,false,false,false,false,false,false,false,false,false] rfl rfl (any_of HT_.out (by kernel_rfl)) (fun _ _ _ h=>h) (Or.inl ⟨by rfl,?_⟩) ?_ ?_
             rotate_left
             ·intro w'
              go_simp
              with_reducible rfl
             rotate_left
             ·simp only [Act.put,List.setIfInBounds_toArray,List.set_cons_zero,List.set_cons_succ,i64_w,i32_w]
              rfl
             refine pure_ (i:=44) (N:=some 105) (v:=?_) (a':=?_) #[true,true,true,true,true,true,true,true,true,true,true,true,true,true,true,true,true,true,true,true,true,true,true,true,true,true,true,true,true,true,true,true,true,true,true,true,true,true,true,true,true,true,true,true,true,false,false,false,false,false,false,false,false,false,false,false,false,false,false,false,false,false,false,false,false,false,false,false,false] rfl rfl (any_of HT_.out (by kernel_rfl)) (fun _ _ _ h=>h) (Or.inl ⟨by rfl,?_⟩) ?_ ?_
             rotate_left
             ·intro w'
              go_simp
              with_reducible rfl
             rotate_left
             ·simp only [Act.put,List.setIfInBounds_toArray,List.set_cons_zero,List.set_cons_succ,i64_w,i32_w]
              rfl
             refine pure_ (i:=45) (N:=some 106) (v:=?_) (a':=?_) #[true,true,true,true,true,true,true,true,true,true,true,true,true,true,true,true,true,true,true,true,true,true,true,true,true,true,true,true,true,true,true,true,true,true,true,true,true,true,true,true,true,true,true,true,true,true,false,false,false,false,false,false,false,false,false,false,false,false,false,false,false,false,false,false,false,false,false,false,false] rfl rfl (any_of HT_.out (by kernel_rfl)) (fun _ _ _ h=>h) (Or.inl ⟨by rfl,?_⟩) ?_ ?_
             rotate_left
             ·intro w'
              go_simp
              with_reducible rfl
             rotate_left
             ·simp only [Act.put,List.setIfInBounds_toArray,List.set_cons_zero,List.set_cons_succ,i64_w,i32_w]
              rfl
             refine pure_ (i:=46) (N:=some 107) (v:=?_) (a':=?_) #[true,true,true,true,true,true,true,true,true,true,true,true,true,true,true,true,true,true,true,true,true,true,true,true,true,true,true,true,true,true,true,true,true,true,true,true,true,true,true,true,true,true,true,true,true,true,true,false,false,false,false,false,false,false,false,false,false,false,false,false,false,false,false,false,false,false,false,false,false] rfl rfl (any_of HT_.out (by kernel_rfl)) (fun _ _ _ h=>h) (Or.inl ⟨by rfl,?_⟩) ?_ ?_
             rotate_left
             ·intro w'
              go_simp
              with_reducible rfl
             rotate_left
             ·simp only [Act.put,List.setIfInBounds_toArray,List.set_cons_zero,List.set_cons_succ,i64_w,i32_w]
              rfl
             refine pure_ (i:=47) (N:=some 108) (v:=?_) (a':=?_) #[true,true,true,true,true,true,true,true,true,true,true,true,true,true,true,true,true,true,true,true,true,true,true,true,true,true,true,true,true,true,true,true,true,true,true,true,true,true,true,true,true,true,true,true,true,true,true,true,false,false,false,false,false,false,false,false,false,false,false,false,false,false,false,false,false,false,false,false,false] rfl rfl (any_of HT_.out (by kernel_rfl)) (fun _ _ _ h=>h) (Or.inl ⟨by rfl,?_⟩) ?_ ?_
             rotate_left
             ·intro w'
              go_simp
              with_reducible rfl
             rotate_left
             ·simp only [Act.put,List.setIfInBounds_toArray,List.set_cons_zero,List.set_cons_succ,i64_w,i32_w]
              rfl
             refine pure_ (i:=48) (N:=some 109) (v:=?_) (a':=?_) #[true,true,true,true,true,true,true,true,true,true,true,true,true,true,true,true,true,true,true,true,true,true,true,true,true,true,true,true,true,true,true,true,true,true,true,true,true,true,true,true,true,true,true,true,true,true,true,true,true,false,false,false,false,false,false,false,false,false,false,false,false,false,false,false,false,false,false,false,false] rfl rfl (any_of HT_.out (by kernel_rfl)) (fun _ _ _ h=>h) (Or.inl ⟨by rfl,?_⟩) ?_ ?_
             rotate_left
             ·intro w'
              go_simp
              with_reducible rfl
             rotate_left
             ·simp only [Act.put,List.setIfInBounds_toArray,List.set_cons_zero,List.set_cons_succ,i64_w,i32_w]
              rfl
             refine pure_ (i:=49) (N:=some 110) (v:=?_) (a':=?_) #[true,true,true,true,true,true,true,true,true,true,true,true,true,true,true,true,true,true,true,true,true,true,true,true,true,true,true,true,true,true,true,true,true,true,true,true,true,true,true,true,true,true,true,true,true,true,true,true,true,true,false,false,false,false,false,false,false,false,false,false,false,false,false,false,false,false,false,false,false] rfl rfl (any_of HT_.out (by kernel_rfl)) (fun _ _ _ h=>h) (Or.inl ⟨by rfl,?_⟩) ?_ ?_
             rotate_left
             ·intro w'
              go_simp
              with_reducible rfl
             rotate_left
             ·simp only [Act.put,List.setIfInBounds_toArray,List.set_cons_zero,List.set_cons_succ,i64_w,i32_w]
              rfl
             refine pure_ (i:=50) (N:=some 111) (v:=?_) (a':=?_) #[true,true,true,true,true,true,true,true,true,true,true,true,true,true,true,true,true,true,true,true,true,true,true,true,true,true,true,true,true,true,true,true,true,true,true,true,true,true,true,true,true,true,true,true,true,true,true,true,true,true,true,false,false,false,false,false,false,false,false,false,false,false,false,false,false,false,false,false,false] rfl rfl (any_of HT_.out (by kernel_rfl)) (fun _ _ _ h=>h) (Or.inl ⟨by rfl,?_⟩) ?_ ?_
             rotate_left
             ·intro w'
              go_simp
              with_reducible rfl
             rotate_left
             ·simp only [Act.put,List.setIfInBounds_toArray,List.set_cons_zero,List.set_cons_succ,i64_w,i32_w]
              rfl
             refine pure_ (i:=51) (N:=some 112) (v:=?_) (a':=?_) #[true,true,true,true,true,true,true,true,true,true,true,true,true,true,true,true,true,true,true,true,true,true,true,true,true,true,true,true,true,true,true,true,true,true,true,true,true,true,true,true,true,true,true,true,true,true,true,true,true,true,true,true,false,false,false,false,false,false,false,false,false,false,false,false,false,false,false,false,false] rfl rfl (any_of HT_.out (by kernel_rfl)) (fun _ _ _ h=>h) (Or.inl ⟨by rfl,?_⟩) ?_ ?_
             rotate_left
             ·intro w'
              go_simp
              with_reducible rfl
             rotate_left
             ·simp only [Act.put,List.setIfInBounds_toArray,List.set_cons_zero,List.set_cons_succ,i64_w,i32_w]
              rfl
             refine pure_ (i:=52) (N:=some 113) (v:=?_) (a':=?_) #[true,true,true,true,true,true,true,true,true,true,true,true,true,true,true,true,true,true,true,true,true,true,true,true,true,true,true,true,true,true,true,true,true,true,true,true,true,true,true,true,true,true,true,true,true,true,true,true,true,true,true,true,true,false,false,false,false,false,false,false,false,false,false,false,false,false,false,false,false] rfl rfl (any_of HT_.out (by kernel_rfl)) (fun _ _ _ h=>h) (Or.inl ⟨by rfl,?_⟩) ?_ ?_
             rotate_left
             ·intro w'
              go_simp
              with_reducible rfl
             rotate_left
             ·simp only [Act.put,List.setIfInBounds_toArray,List.set_cons_zero,List.set_cons_succ,i64_w,i32_w]
              rfl
             refine pure_ (i:=53) (N:=some 114) (v:=?_) (a':=?_) #[true,true,true,true,true,true,true,true,true,true,true,true,true,true,true,true,true,true,true,true,true,true,true,true,true,true,true,true,true,true,true,true,true,true,true,true,true,true,true,true,true,true,true,true,true,true,true,true,true,true,true,true,true,true,false,false,false,false,false,false,false,false,false,false,false,false,false,false,false] rfl rfl (any_of HT_.out (by kernel_rfl)) (fun _ _ _ h=>h) (Or.inl ⟨by rfl,?_⟩) ?_ ?_
             rotate_left
             ·intro w'
              go_simp
              with_reducible rfl
             rotate_left
             ·simp only [Act.put,List.setIfInBounds_toArray,List.set_cons_zero,List.set_cons_succ,i64_w,i32_w]
              rfl
             refine pure_ (i:=54) (N:=some 115) (v:=?_) (a':=?_) #[true,true,true,true,true,true,true,true,true,true,true,true,true,true,true,true,true,true,true,true,true,true,true,true,true,true,true,true,true,true,true,true,true,true,true,true,true,true,true,true,true,true,true,true,true,true,true,true,true,true,true,true,true,true,true,false,false,false,false,false,false,false,false,false,false,false,false,false,false] rfl rfl (any_of HT_.out (by kernel_rfl)) (fun _ _ _ h=>h) (Or.inl ⟨by rfl,?_⟩) ?_ ?_
             rotate_left
             ·intro w'
              go_simp
              with_reducible rfl
             rotate_left
             ·simp only [Act.put,List.setIfInBounds_toArray,List.set_cons_zero,List.set_cons_succ,i64_w,i32_w]
              rfl
             refine pure_ (i:=55) (N:=some 116) (v:=?_) (a':=?_) #[true,true,true,true,true,true,true,true,true,true,true,true,true,true,true,true,true,true,true,true,true,true,true,true,true,true,true,true,true,true,true,true,true,true,true,true,true,true,true,true,true,true,true,true,true,true,true,true,true,true,true,true,true,true,true,true,false,false,false,false,false,false,false,false,false,false,false,false,false] rfl rfl (any_of HT_.out (by kernel_rfl)) (fun _ _ _ h=>h) (Or.inl ⟨by rfl,?_⟩) ?_ ?_
             rotate_left
             ·intro w'
              go_simp
              with_reducible rfl
             rotate_left
             ·simp only [Act.put,List.setIfInBounds_toArray,List.set_cons_zero,List.set_cons_succ,i64_w,i32_w]
              rfl
             refine pure_ (i:=56) (N:=some 117) (v:=?_) (a':=?_) #[true,true,true,true,true,true,true,true,true,true,true,true,true,true,true,true,true,true,true,true,true,true,true,true,true,true,true,true,true,true,true,true,true,true,true,true,true,true,true,true,true,true,true,true,true,true,true,true,true,true,true,true,true,true,true,true,true,false,false,false,false,false,false,false,false,false,false,false,false] rfl rfl (any_of HT_.out (by kernel_rfl)) (fun _ _ _ h=>h) (Or.inl ⟨by rfl,?_⟩) ?_ ?_
             rotate_left
             ·intro w'
              go_simp
              with_reducible rfl
             rotate_left
             ·simp only [Act.put,List.setIfInBounds_toArray,List.set_cons_zero,List.set_cons_succ,i64_w,i32_w]
              rfl
             refine pure_ (i:=57) (N:=some 118) (v:=?_) (a':=?_) #[true,true,true,true,true,true,true,true,true,true,true,true,true,true,true,true,true,true,true,true,true,true,true,true,true,true,true,true,true,true,true,true,true,true,true,true,true,true,true,true,true,true,true,true,true,true,true,true,true,true,true,true,true,true,true,true,true,true,false,false,false,false,false,false,false,false,false,false,false] rfl rfl (any_of HT_.out (by kernel_rfl)) (fun _ _ _ h=>h) (Or.inl ⟨by rfl,?_⟩) ?_ ?_
             rotate_left
             ·intro w'
              go_simp
              with_reducible rfl
             rotate_left
             ·simp only [Act.put,List.setIfInBounds_toArray,List.set_cons_zero,List.set_cons_succ,i64_w,i32_w]
              rfl
             refine pure_ (i:=58) (N:=some 119) (v:=?_) (a':=?_) #[true,true,true,true,true,true,true,true,true,true,true,true,true,true,true,true,true,true,true,true,true,true,true,true,true,true,true,true,true,true,true,true,true,true,true,true,true,true,true,true,true,true,true,true,true,true,true,true,true,true,true,true,true,true,true,true,true,true,true,false,false,false,false,false,false,false,false,false,false] rfl rfl (any_of HT_.out (by kernel_rfl)) (fun _ _ _ h=>h) (Or.inl ⟨by rfl,?_⟩) ?_ ?_
             rotate_left
             ·intro w'
              go_simp
              with_reducible rfl
             rotate_left
             ·simp only [Act.put,List.setIfInBounds_toArray,List.set_cons_zero,List.set_cons_succ,i64_w,i32_w]
              rfl
             refine pure_ (i:=59) (N:=some 120) (v:=?_) (a':=?_) #[true,true,true,true,true,true,true,true,true,true,true,true,true,true,true,true,true,true,true,true,true,true,true,true,true,true,true,true,true,true,true,true,true,true,true,true,true,true,true,true,true,true,true,true,true,true,true,true,true,true,true,true,true,true,true,true,true,true,true,true,false,false,false,false,false,false,false,false,false] rfl rfl (any_of HT_.out (by kernel_rfl)) (fun _ _ _ h=>h) (Or.inl ⟨by rfl,?_⟩) ?_ ?_
             rotate_left
             ·intro w'
              go_simp
              with_reducible rfl
             rotate_left
             ·simp only [Act.put,List.setIfInBounds_toArray,List.set_cons_zero,List.set_cons_succ,i64_w,i32_w]
              rfl
             refine pure_ (i:=60) (N:=some 121) (v:=?_) (a':=?_) #[true,true,true,true,true,true,true,true,true,true,true,true,true,true,true,true,true,true,true,true,true,true,true,true,true,true,true,true,true,true,true,true,true,true,true,true,true,true,true,true,true,true,true,true,true,true,true,true,true,true,true,true,true,true,true,true,true,true,true,true,true,false,false,false,false,false,false,false,false] rfl rfl (any_of HT_.out (by kernel_rfl)) (fun _ _ _ h=>h) (Or.inl ⟨by rfl,?_⟩) ?_ ?_
             rotate_left
             ·intro w'
              go_simp
              with_reducible rfl
             rotate_left
             ·simp only [Act.put,List.setIfInBounds_toArray,List.set_cons_zero,List.set_cons_succ,i64_w,i32_w]
              rfl
             refine pure_ (i:=61) (N:=some 122) (v:=?_) (a':=?_) #[true,true,true,true,true,true,true,true,true,true,true,true,true,true,true,true,true,true,true,true,true,true,true,true,true,true,true,true,true,true,true,true,true,true,true,true,true,true,true,true,true,true,true,true,true,true,true,true,true,true,true,true,true,true,true,true,true,true,true,true,true,true,false,false,false,false,false,false,false] rfl rfl (any_of HT_.out (by kernel_rfl)) (fun _ _ _ h=>h) (Or.inl ⟨by rfl,?_⟩) ?_ ?_
             rotate_left
             ·intro w'
              go_simp
              with_reducible rfl
             rotate_left
             ·simp only [Act.put,List.setIfInBounds_toArray,List.set_cons_zero,List.set_cons_succ,i64_w,i32_w]
              rfl
             refine pure_ (i:=62) (N:=some 123) (v:=?_) (a':=?_) #[true,true,true,true,true,true,true,true,true,true,true,true,true,true,true,true,true,true,true,true,true,true,true,true,true,true,true,true,true,true,true,true,true,true,true,true,true,true,true,true,true,true,true,true,true,true,true,true,true,true,true,true,true,true,true,true,true,true,true,true,true,true,true,false,false,false,false,false,false] rfl rfl (any_of HT_.out (by kernel_rfl)) (fun _ _ _ h=>h) (Or.inl ⟨by rfl,?_⟩) ?_ ?_
             rotate_left
             ·intro w'
              go_simp
              with_reducible rfl
             rotate_left
             ·simp only [Act.put,List.setIfInBounds_toArray,List.set_cons_zero,List.set_cons_succ,i64_w,i32_w]
              rfl
             refine pure_ (i:=63) (N:=some 124) (v:=?_) (a':=?_) #[true,true,true,true,true,true,true,true,true,true,true,true,true,true,true,true,true,true,true,true,true,true,true,true,true,true,true,true,true,true,true,true,true,true,true,true,true,true,true,true,true,true,true,true,true,true,true,true,true,true,true,true,true,true,true,true,true,true,true,true,true,true,true,true,false,false,false,false,false] rfl rfl (any_of HT_.out (by kernel_rfl)) (fun _ _ _ h=>h) (Or.inl ⟨by rfl,?_⟩) ?_ ?_
             rotate_left
             ·intro w'
              go_simp
              with_reducible rfl
             rotate_left
             ·simp only [Act.put,List.setIfInBounds_toArray,List.set_cons_zero,List.set_cons_succ,i64_w,i32_w]
              rfl
             refine pure_ (i:=64) (N:=some 125) (v:=?_) (a':=?_) #[true,true,true,true,true,true,true,true,true,true,true,true,true,true,true,true,true,true,true,true,true,true,true,true,true,true,true,true,true,true,true,true,true,true,true,true,true,true,true,true,true,true,true,true,true,true,true,true,true,true,true,true,true,true,true,true,true,true,true,true,true,true,true,true,true,false,false,false,false] rfl rfl (any_of HT_.out (by kernel_rfl)) (fun _ _ _ h=>h) (Or.inl ⟨by rfl,?_⟩) ?_ ?_
             rotate_left
             ·intro w'
              go_simp
              with_reducible rfl
             rotate_left
             ·simp only [Act.put,List.setIfInBounds_toArray,List.set_cons_zero,List.set_cons_succ,i64_w,i32_w]
              rfl
             refine pure_ (i:=65) (N:=some 126) (v:=?_) (a':=?_) #[true,true,true,true,true,true,true,true,true,true,true,true,true,true,true,true,true,true,true,true,true,true,true,true,true,true,true,true,true,true,true,true,true,true,true,true,true,true,true,true,true,true,true,true,true,true,true,true,true,true,true,true,true,true,true,true,true,true,true,true,true,true,true,true,true,true,false,false,false] rfl rfl (any_of HT_.out (by kernel_rfl)) (fun _ _ _ h=>h) (Or.inl ⟨by rfl,?_⟩) ?_ ?_
             rotate_left
             ·intro w'
              go_simp
              with_reducible rfl
             rotate_left
             ·simp only [Act.put,List.setIfInBounds_toArray,List.set_cons_zero,List.set_cons_succ,i64_w,i32_w]
              rfl
             refine pure_ (i:=66) (N:=some 127) (v:=?_) (a':=?_) #[true,true,true,true,true,true,true,true,true,true,true,true,true,true,true,true,true,true,true,true,true,true,true,true,true,true,true,true,true,true,true,true,true,true,true,true,true,true,true,true,true,true,true,true,true,true,true,true,true,true,true,true,true,true,true,true,true,true,true,true,true,true,true,true,true,true,true,false,false] rfl rfl (any_of HT_.out (by kernel_rfl)) (fun _ _ _ h=>h) (Or.inl ⟨by rfl,?_⟩) ?_ ?_
             rotate_left
             ·intro w'
              go_simp
              with_reducible rfl
             rotate_left
             ·simp only [Act.put,List.setIfInBounds_toArray,List.set_cons_zero,List.set_cons_succ,i64_w,i32_w]
              rfl
             refine pure_ (i:=67) (N:=some 128) (v:=?_) (a':=?_) #[true,true,true,true,true,true,true,true,true,true,true,true,true,true,true,true,true,true,true,true,true,true,true,true,true,true,true,true,true,true,true,true,true,true,true,true,true,true,true,true,true,true,true,true,true,true,true,true,true,true,true,true,true,true,true,true,true,true,true,true,true,true,true,true,true,true,true,true,false] rfl rfl (any_of HT_.out (by kernel_rfl)) (fun _ _ _ h=>h) (Or.inl ⟨by rfl,?_⟩) ?_ ?_
             rotate_left
             ·intro w'
              go_simp
              with_reducible rfl
             rotate_left
             ·simp only [Act.put,List.setIfInBounds_toArray,List.set_cons_zero,List.set_cons_succ,i64_w,i32_w]
              rfl
             refine pure_ (i:=68) (N:=some 8) (v:=?_) (a':=?_) #[true,true,true,true,true,true,true,true,true,true,true,true,true,true,true,true,true,true,true,true,true,true,true,true,true,true,true,true,true,true,true,true,true,true,true,true,true,true,true,true,true,true,true,true,true,true,true,true,true,true,true,true,true,true,true,true,true,true,true,true,true,true,true,true,true,true,true,true,true] rfl rfl (any_of HT_.out (by kernel_rfl)) (fun _ _ _ h=>h) (Or.inl ⟨by rfl,?_⟩) ?_ ?_
             rotate_left
             ·intro w'
              go_simp
              with_reducible rfl
             rotate_left
             ·simp only [Act.put,List.setIfInBounds_toArray,List.set_cons_zero,List.set_cons_succ,i64_w,i32_w]
              rfl
             refine done_ (done_of HT_.out (by kernel_rfl)) ?_
             try go_wp2
             go_ret
             exact ⟨by first|rfl|(simp [errW_none,errW_some] <;> rfl)|(simp only [← hji22];first|rfl|(simp [errW_none,errW_some] <;> rfl))|(simp [*,errW_none,errW_some] <;> rfl),by repeat (first|(with_reducible first|exact HB.out|apply zlA|apply zlN|apply zlD|refine zlS ?_ GE393.out)|exact HB.out)⟩
            ·rw [if_neg c30] at H
             have c30b0:(t406 == t409)=false:=beq_eq_false_iff_ne.mpr c30
             have c30b1:(t406 != t409)=true:=bne_iff_ne.mpr c30
             exact absurd H (by simp)
           ·rw [if_neg c29] at H
            have c29b0:(t405 == t408)=false:=beq_eq_false_iff_ne.mpr c29
            have c29b1:(t405 != t408)=true:=bne_iff_ne.mpr c29
            exact absurd H (by simp)
          ·rw [if_neg c28] at H
           have c28b0:(t402 == t404)=false:=beq_eq_false_iff_ne.mpr c28
           have c28b1:(t402 != t404)=true:=bne_iff_ne.mpr c28
           exact absurd H (by simp)
         ·rw [if_neg c27] at H
          have c27b0:(t401 == t403)=false:=beq_eq_false_iff_ne.mpr c27
          have c27b1:(t401 != t403)=true:=bne_iff_ne.mpr c27
          exact absurd H (by simp)
        ·replace c26:=Bool.eq_false_iff.mpr c26
         subst c26
         have H1:(none)=some r:=by rw [if_neg (show ¬ (false=true) by decide)] at H;exact H
         clear H
         have H:=H1
         clear H1
         exact absurd H (by simp)
       ·rw [if_neg c24] at H
        exact absurd H (by simp)
      ·rw [if_neg c23] at H
       exact absurd H (by simp)
     ·replace c20:=Bool.eq_false_iff.mpr c20
      subst c20
      have H1:(none)=some r:=by rw [if_neg (show ¬ (false=true) by decide)] at H;exact H
      clear H
      have H:=H1
      clear H1
      exact absurd H (by simp)
    ·rw [if_neg c17] at H
     have c17b0:(t412 == (t398.length:Int))=false:=beq_eq_false_iff_ne.mpr c17
     have c17b1:(t412 != (t398.length:Int))=true:=bne_iff_ne.mpr c17
     exact absurd H (by simp)
   ·rw [if_neg c15] at H
    have c15b0:(t395 == t397)=false:=by simpa using c15
    (try (have c15b1:decide (t395=t397)=false:=by simpa using c15))
    (try (have c15b2:(t395 == t397)=false:=by simpa using c15))
    (try (have c15b3:¬ (t395=t397):=by simpa using c15))
    clear c15
    exact absurd H (by simp)
  ·rw [if_neg c14] at H
   have c14b0:(t394 == t396)=false:=beq_eq_false_iff_ne.mpr c14
   have c14b1:(t394 != t396)=true:=bne_iff_ne.mpr c14
   exact absurd H (by simp)
 ·replace c13:=Bool.eq_false_iff.mpr c13
  subst c13
  have H1:(none)=some r:=by rw [if_neg (show ¬ (false=true) by decide)] at H;exact H
  clear H
  have H:=H1
  clear H1
  exact absurd H (by simp)
def slipwaylaw04_PoolTells.Pure:Prop:=∀ (l0_0:List Int) (l0_1:List Int) (a1:Int) (a2:Int) (a3:Int),(l0_0.length≤maxLen∧l0_0.length * 8≤140737488351232∧∀ x ∈ l0_0,(Lit.int .i64 x).wf=true) → (l0_1.length≤maxLen∧l0_1.length * 8≤140737488351232∧∀ x ∈ l0_1,(Lit.int .i64 x).wf=true) → (Lit.int .i64 a1).wf=true → (Lit.int .i64 a2).wf=true → (Lit.int .u8 a3).wf=true → ∃ k,slipwaylaw04_PoolTells.f k l0_0 l0_1 a1 a2 a3=some true
theorem slipwaylaw04_PoolTells.walk (P:slipwaylaw04_PoolTells.Pure) (A0_0:Option Addr) (c0_0:Nat) (l0_0:List Int) (A0_1:Option Addr) (c0_1:Nat) (l0_1:List Int) (a1:Int) (a2:Int) (a3:Int) (w:World) (hr0_0:Kd.C (Kd.int .i64) w A0_0 l0_0.length l0_0) (hc0_0:l0_0.length≤c0_0) (hr0_1:Kd.C (Kd.int .i64) w A0_1 l0_1.length l0_1) (hc0_1:l0_1.length≤c0_1) (w0_0:(l0_0.length≤maxLen∧l0_0.length * 8≤140737488351232∧∀ x ∈ l0_0,(Lit.int .i64 x).wf=true)) (w0_1:(l0_1.length≤maxLen∧l0_1.length * 8≤140737488351232∧∀ x ∈ l0_1,(Lit.int .i64 x).wf=true)) (w1:(Lit.int .i64 a1).wf=true) (w2:(Lit.int .i64 a2).wf=true) (w3:(Lit.int .u8 a3).wf=true) :
  Calls Try.prog 6 #[.agg #[.slice A0_0 l0_0.length c0_0,.slice A0_1 l0_1.length c0_1],.int .i64 a1,.int .i64 a2,.int .u8 a3] w fun e w'=>e=.returned (.bool true)∧Below w.heap.size w w':=by
 obtain ⟨k,h⟩:=P l0_0 l0_1 a1 a2 a3 w0_0 w0_1 w1 w2 w3
 refine (slipwaylaw04_PoolTells.calls k A0_0 c0_0 l0_0 A0_1 c0_1 l0_1 a1 a2 a3 true w hr0_0 hc0_0 hr0_1 hc0_1 h).mono ?_
 rintro e w' ⟨rfl,hd⟩
 exact ⟨rfl,hd⟩
end Go.Proofs.Ytlegmnpngcadhaa.Print
end
