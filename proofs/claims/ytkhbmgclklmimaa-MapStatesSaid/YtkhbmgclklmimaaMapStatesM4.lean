/- Texts of the proof of MapStates, part 4. -/
import Derived.Test.YtkhbmgclklmimaaMapStatesM1
import Derived.Test.YtkhbmgclklmimaaMapStatesM2
import Derived.Test.YtkhbmgclklmimaaMapStatesM3
section
namespace Go.Proofs.Ytkhbmgclklmimaa.Print
open Go.RowKit Go.Proofs.YtkhbmgclklmimaaW.PrintWords Go.Proofs.YtkhbmgclklmimaaW.PrintLast Go.Proofs.YtkhbmgclklmimaaW.PrintMore
attribute [local go_sem] max2_int min2_int max_two min_two max_three min_three max_four min_four   -- for this text's walks alone
attribute [local go_sem ↓] Go.Proofs.Ytkhbmgclklmimaa.Sem.isSome_setCell
attribute [local go_sem] Go.Instr.field Go.asAgg
set_option linter.unusedVariables false
set_option linter.unusedSimpArgs false
def slipwaylaw06_MapStates.f (k:Nat) (l0_0:List Bool) (l0_1:List Int) (a0_2:Int) (l1_0:List Bool) (l1_1:List Int) (a1_2:Int) (a2:Int):Option (Bool):=(mapjnl_New.f a2).bind fun bt299=>((slipwayref06_New.f a2).bind fun bt308=>((mapjnl_Join.f k l0_0 l0_1 a0_2 l1_0 l1_1 a1_2).bind fun bt317=>((slipwayref06_Join.f k l0_0 l0_1 a0_2 l1_0 l1_1 a1_2).bind fun bt326=>((slipwaylaw06_begun.f k).bind fun t335=>(if t335=true then ((slipwayref06_Same.f k bt299.1 bt299.2.1 bt299.2.2.1 bt308.1 bt308.2.1 bt308.2.2.1).bind fun t336=>(if t336=true then (if bt299.2.2.2=bt308.2.2.2 then ((mapjnl_Check.f k l0_0 l0_1 a0_2).bind fun t337=>((slipwayref06_Check.f k l0_0 l0_1 a0_2).bind fun t338=>(if t337=t338 then ((slipwayref06_Same.f k bt317.1 bt317.2.1 bt317.2.2.1 bt326.1 bt326.2.1 bt326.2.2.1).bind fun t339=>(if t339=true then (if bt317.2.2.2=bt326.2.2.2 then ((mapjnl_Covers.f k l0_0 l0_1 a0_2 l1_0 l1_1 a1_2).bind fun t340=>((slipwayref06_Covers.f k l0_0 l0_1 a0_2 l1_0 l1_1 a1_2).bind fun t341=>(if (t340 == t341)=true then ((mapjnl_Same.f k l0_0 l0_1 a0_2 l1_0 l1_1 a1_2).bind fun t342=>((slipwayref06_Same.f k l0_0 l0_1 a0_2 l1_0 l1_1 a1_2).bind fun t343=>(if (t342 == t343)=true then ((mapjnl_Same.f k l0_0 l0_1 a0_2 l0_0 l0_1 a0_2).bind fun t344=>(some t344)) else (none)))) else (none)))) else (none)) else (none))) else (none)))) else (none)) else (none))) else (none))))))
def slipwaylaw06_MapStates.T5:Bool × List (List Nat × List Nat):=(true,[([],[]),([0,0],[0]),([1],[1]),([1],[1]),([2,3,1,1],[1,2,3]),([1,4],[1,4]),([5,4],[5]),([6],[6]),([6],[6]),([7,8,6],[6,7,8]),([6,9],[6,9]),([10,6],[10]),([11],[11]),([12,11,11],[11,12]),([11],[11]),([14,13,11],[11,14]),([13,15,11],[11,13,15]),([11,16],[11,16]),([17,15],[17]),([18],[18]),([18],[18]),([19,20,18,18],[18,19,20]),([18,21],[18,21]),([22,21],[22]),([23],[23]),([23],[23]),([24,25,23],[23,24,25]),([23,26],[23,26]),([27,23],[27]),([28],[28]),([28],[28]),([29,30,28,28],[28,29,30]),([28],[28]),([28],[28]),([32,33,31,28],[28,32,33]),([31,34,28],[28,31,34]),([28,35],[28,35]),([36,34],[36]),([37],[37]),([37],[37]),([38,39,37,37],[37,38,39]),([37],[37]),([37],[37]),([41,42,40,37],[37,41,42]),([40,43,37],[37,40,43]),([37,44],[37,44]),([45,43],[45]),([46],[46]),([46],[46]),([47,48,46,46],[46,47,48]),([46,49],[46,49]),([50,49,0,1,2,3,4,5,6,7,8,9,10,11,12,13,14,15,16,17,18,19,20,21,22,23,24,25,26,27,28,29,30,31,32,33,34,35,36,37,38,39,40,41,42,43,44,45,46,47,48,49,50],[50])])
def slipwaylaw06_MapStates.B5:List Nat:=[0,1,3,3,15,31,63,127,127,511,1023,2047,4095,8191,4095,32767,65535,131071,262143,524287,524287,2097151,4194303,8388607,16777215,16777215,67108863,134217727,268435455,536870911,536870911,2147483647,536870911,536870911,17179869183,34359738367,68719476735,137438953471,274877906943,274877906943,1099511627775,274877906943,274877906943,8796093022207,17592186044415,35184372088831,70368744177663,140737488355327,140737488355327,562949953421311,1125899906842623,2251799813685247]
theorem slipwaylaw06_MapStates.tab5:rtab .any (opsOf Try.f3 5)=slipwaylaw06_MapStates.T5:=by kernel_rfl
theorem slipwaylaw06_MapStates.bits5:waitsOk slipwaylaw06_MapStates.T5.2 slipwaylaw06_MapStates.B5=true:=by kernel_rfl
set_option maxHeartbeats 8000000 in
set_option maxRecDepth 100000 in
theorem slipwaylaw06_MapStates.calls (k:Nat) (A0_0:Option Addr) (c0_0:Nat) (l0_0:List Bool) (A0_1:Option Addr) (c0_1:Nat) (l0_1:List Int) (a0_2:Int) (A1_0:Option Addr) (c1_0:Nat) (l1_0:List Bool) (A1_1:Option Addr) (c1_1:Nat) (l1_1:List Int) (a1_2:Int) (a2:Int) (r:Bool) (w:World) (hr0_0:Kd.C Kd.bool w A0_0 l0_0.length l0_0) (hc0_0:l0_0.length≤c0_0) (hr0_1:Kd.C (Kd.int .i64) w A0_1 l0_1.length l0_1) (hc0_1:l0_1.length≤c0_1) (hr1_0:Kd.C Kd.bool w A1_0 l1_0.length l1_0) (hc1_0:l1_0.length≤c1_0) (hr1_1:Kd.C (Kd.int .i64) w A1_1 l1_1.length l1_1) (hc1_1:l1_1.length≤c1_1) (h:slipwaylaw06_MapStates.f k l0_0 l0_1 a0_2 l1_0 l1_1 a1_2 a2=some r) :
  Calls Try.prog 3 #[.agg #[.slice A0_0 l0_0.length c0_0,.slice A0_1 l0_1.length c0_1,.int .i64 a0_2],.agg #[.slice A1_0 l1_0.length c1_0,.slice A1_1 l1_1.length c1_1,.int .i64 a1_2],.int .i64 a2] w fun e w'=>e=.returned (.bool r)∧Below w.heap.size w w':=by
 have hu25:=Try.underlying25
 have HR0_0:=Aside0.mk hr0_0
 have HC0_0:=Aside0.mk hc0_0
 clear hr0_0 hc0_0
 have HR0_1:=Aside0.mk hr0_1
 have HC0_1:=Aside0.mk hc0_1
 clear hr0_1 hc0_1
 have HR1_0:=Aside0.mk hr1_0
 have HC1_0:=Aside0.mk hc1_0
 clear hr1_0 hc1_0
 have HR1_1:=Aside0.mk hr1_1
 have HC1_1:=Aside0.mk hc1_1
 clear hr1_1 hc1_1
 have HB:=Aside0.mk (Below.refl w.heap.size w)
 have H:((mapjnl_New.f a2).bind fun bt299=>((slipwayref06_New.f a2).bind fun bt308=>((mapjnl_Join.f k l0_0 l0_1 a0_2 l1_0 l1_1 a1_2).bind fun bt317=>((slipwayref06_Join.f k l0_0 l0_1 a0_2 l1_0 l1_1 a1_2).bind fun bt326=>((slipwaylaw06_begun.f k).bind fun t335=>(if t335=true then ((slipwayref06_Same.f k bt299.1 bt299.2.1 bt299.2.2.1 bt308.1 bt308.2.1 bt308.2.2.1).bind fun t336=>(if t336=true then (if bt299.2.2.2=bt308.2.2.2 then ((mapjnl_Check.f k l0_0 l0_1 a0_2).bind fun t337=>((slipwayref06_Check.f k l0_0 l0_1 a0_2).bind fun t338=>(if t337=t338 then ((slipwayref06_Same.f k bt317.1 bt317.2.1 bt317.2.2.1 bt326.1 bt326.2.1 bt326.2.2.1).bind fun t339=>(if t339=true then (if bt317.2.2.2=bt326.2.2.2 then ((mapjnl_Covers.f k l0_0 l0_1 a0_2 l1_0 l1_1 a1_2).bind fun t340=>((slipwayref06_Covers.f k l0_0 l0_1 a0_2 l1_0 l1_1 a1_2).bind fun t341=>(if (t340 == t341)=true then ((mapjnl_Same.f k l0_0 l0_1 a0_2 l1_0 l1_1 a1_2).bind fun t342=>((slipwayref06_Same.f k l0_0 l0_1 a0_2 l1_0 l1_1 a1_2).bind fun t343=>(if (t342 == t343)=true then ((mapjnl_Same.f k l0_0 l0_1 a0_2 l0_0 l0_1 a0_2).bind fun t344=>(some t344)) else (none)))) else (none)))) else (none)) else (none))) else (none)))) else (none)) else (none))) else (none)))))))=some r:=h
 clear h
 replace H:=Option.bind_eq_some_iff.mp H
 obtain ⟨⟨t299,t302,t305,t306⟩,A40,H⟩:=H
 replace H:((slipwayref06_New.f a2).bind fun bt308=>((mapjnl_Join.f k l0_0 l0_1 a0_2 l1_0 l1_1 a1_2).bind fun bt317=>((slipwayref06_Join.f k l0_0 l0_1 a0_2 l1_0 l1_1 a1_2).bind fun bt326=>((slipwaylaw06_begun.f k).bind fun t335=>(if t335=true then ((slipwayref06_Same.f k t299 t302 t305 bt308.1 bt308.2.1 bt308.2.2.1).bind fun t336=>(if t336=true then (if t306=bt308.2.2.2 then ((mapjnl_Check.f k l0_0 l0_1 a0_2).bind fun t337=>((slipwayref06_Check.f k l0_0 l0_1 a0_2).bind fun t338=>(if t337=t338 then ((slipwayref06_Same.f k bt317.1 bt317.2.1 bt317.2.2.1 bt326.1 bt326.2.1 bt326.2.2.1).bind fun t339=>(if t339=true then (if bt317.2.2.2=bt326.2.2.2 then ((mapjnl_Covers.f k l0_0 l0_1 a0_2 l1_0 l1_1 a1_2).bind fun t340=>((slipwayref06_Covers.f k l0_0 l0_1 a0_2 l1_0 l1_1 a1_2).bind fun t341=>(if (t340 == t341)=true then ((mapjnl_Same.f k l0_0 l0_1 a0_2 l1_0 l1_1 a1_2).bind fun t342=>((slipwayref06_Same.f k l0_0 l0_1 a0_2 l1_0 l1_1 a1_2).bind fun t343=>(if (t342 == t343)=true then ((mapjnl_Same.f k l0_0 l0_1 a0_2 l0_0 l0_1 a0_2).bind fun t344=>(some t344)) else (none)))) else (none)))) else (none)) else (none))) else (none)))) else (none)) else (none))) else (none))))))=some r:=H
 have A4:=Aside0.mk A40
 clear A40
 replace H:=Option.bind_eq_some_iff.mp H
 obtain ⟨⟨t308,t311,t314,t315⟩,A50,H⟩:=H
 replace H:((mapjnl_Join.f k l0_0 l0_1 a0_2 l1_0 l1_1 a1_2).bind fun bt317=>((slipwayref06_Join.f k l0_0 l0_1 a0_2 l1_0 l1_1 a1_2).bind fun bt326=>((slipwaylaw06_begun.f k).bind fun t335=>(if t335=true then ((slipwayref06_Same.f k t299 t302 t305 t308 t311 t314).bind fun t336=>(if t336=true then (if t306=t315 then ((mapjnl_Check.f k l0_0 l0_1 a0_2).bind fun t337=>((slipwayref06_Check.f k l0_0 l0_1 a0_2).bind fun t338=>(if t337=t338 then ((slipwayref06_Same.f k bt317.1 bt317.2.1 bt317.2.2.1 bt326.1 bt326.2.1 bt326.2.2.1).bind fun t339=>(if t339=true then (if bt317.2.2.2=bt326.2.2.2 then ((mapjnl_Covers.f k l0_0 l0_1 a0_2 l1_0 l1_1 a1_2).bind fun t340=>((slipwayref06_Covers.f k l0_0 l0_1 a0_2 l1_0 l1_1 a1_2).bind fun t341=>(if (t340 == t341)=true then ((mapjnl_Same.f k l0_0 l0_1 a0_2 l1_0 l1_1 a1_2).bind fun t342=>((slipwayref06_Same.f k l0_0 l0_1 a0_2 l1_0 l1_1 a1_2).bind fun t343=>(if (t342 == t343)=true then ((mapjnl_Same.f k l0_0 l0_1 a0_2 l0_0 l0_1 a0_2).bind fun t344=>(some t344)) else (none)))) else (none)))) else (none)) else (none))) else (none)))) else (none)) else (none))) else (none)))))=some r:=H
 have A5:=Aside0.mk A50
 clear A50
 replace H:=Option.bind_eq_some_iff.mp H
 obtain ⟨⟨t317,t320,t323,t324⟩,A60,H⟩:=H
 replace H:((slipwayref06_Join.f k l0_0 l0_1 a0_2 l1_0 l1_1 a1_2).bind fun bt326=>((slipwaylaw06_begun.f k).bind fun t335=>(if t335=true then ((slipwayref06_Same.f k t299 t302 t305 t308 t311 t314).bind fun t336=>(if t336=true then (if t306=t315 then ((mapjnl_Check.f k l0_0 l0_1 a0_2).bind fun t337=>((slipwayref06_Check.f k l0_0 l0_1 a0_2).bind fun t338=>(if t337=t338 then ((slipwayref06_Same.f k t317 t320 t323 bt326.1 bt326.2.1 bt326.2.2.1).bind fun t339=>(if t339=true then (if t324=bt326.2.2.2 then ((mapjnl_Covers.f k l0_0 l0_1 a0_2 l1_0 l1_1 a1_2).bind fun t340=>((slipwayref06_Covers.f k l0_0 l0_1 a0_2 l1_0 l1_1 a1_2).bind fun t341=>(if (t340 == t341)=true then ((mapjnl_Same.f k l0_0 l0_1 a0_2 l1_0 l1_1 a1_2).bind fun t342=>((slipwayref06_Same.f k l0_0 l0_1 a0_2 l1_0 l1_1 a1_2).bind fun t343=>(if (t342 == t343)=true then ((mapjnl_Same.f k l0_0 l0_1 a0_2 l0_0 l0_1 a0_2).bind fun t344=>(some t344)) else (none)))) else (none)))) else (none)) else (none))) else (none)))) else (none)) else (none))) else (none))))=some r:=H
 have A6:=Aside0.mk A60
 clear A60
 replace H:=Option.bind_eq_some_iff.mp H
 obtain ⟨⟨t326,t329,t332,t333⟩,A70,H⟩:=H
 replace H:((slipwaylaw06_begun.f k).bind fun t335=>(if t335=true then ((slipwayref06_Same.f k t299 t302 t305 t308 t311 t314).bind fun t336=>(if t336=true then (if t306=t315 then ((mapjnl_Check.f k l0_0 l0_1 a0_2).bind fun t337=>((slipwayref06_Check.f k l0_0 l0_1 a0_2).bind fun t338=>(if t337=t338 then ((slipwayref06_Same.f k t317 t320 t323 t326 t329 t332).bind fun t339=>(if t339=true then (if t324=t333 then ((mapjnl_Covers.f k l0_0 l0_1 a0_2 l1_0 l1_1 a1_2).bind fun t340=>((slipwayref06_Covers.f k l0_0 l0_1 a0_2 l1_0 l1_1 a1_2).bind fun t341=>(if (t340 == t341)=true then ((mapjnl_Same.f k l0_0 l0_1 a0_2 l1_0 l1_1 a1_2).bind fun t342=>((slipwayref06_Same.f k l0_0 l0_1 a0_2 l1_0 l1_1 a1_2).bind fun t343=>(if (t342 == t343)=true then ((mapjnl_Same.f k l0_0 l0_1 a0_2 l0_0 l0_1 a0_2).bind fun t344=>(some t344)) else (none)))) else (none)))) else (none)) else (none))) else (none)))) else (none)) else (none))) else (none)))=some r:=H
 have A7:=Aside0.mk A70
 clear A70
 replace H:=Option.bind_eq_some_iff.mp H
 obtain ⟨t335,A80,H⟩:=H
 replace H:(if t335=true then ((slipwayref06_Same.f k t299 t302 t305 t308 t311 t314).bind fun t336=>(if t336=true then (if t306=t315 then ((mapjnl_Check.f k l0_0 l0_1 a0_2).bind fun t337=>((slipwayref06_Check.f k l0_0 l0_1 a0_2).bind fun t338=>(if t337=t338 then ((slipwayref06_Same.f k t317 t320 t323 t326 t329 t332).bind fun t339=>(if t339=true then (if t324=t333 then ((mapjnl_Covers.f k l0_0 l0_1 a0_2 l1_0 l1_1 a1_2).bind fun t340=>((slipwayref06_Covers.f k l0_0 l0_1 a0_2 l1_0 l1_1 a1_2).bind fun t341=>(if (t340 == t341)=true then ((mapjnl_Same.f k l0_0 l0_1 a0_2 l1_0 l1_1 a1_2).bind fun t342=>((slipwayref06_Same.f k l0_0 l0_1 a0_2 l1_0 l1_1 a1_2).bind fun t343=>(if (t342 == t343)=true then ((mapjnl_Same.f k l0_0 l0_1 a0_2 l0_0 l0_1 a0_2).bind fun t344=>(some t344)) else (none)))) else (none)))) else (none)) else (none))) else (none)))) else (none)) else (none))) else (none))=some r:=H
 have A8:=Aside0.mk A80
 clear A80
 by_cases c9:t335=true
 ·subst c9
  have H1:((slipwayref06_Same.f k t299 t302 t305 t308 t311 t314).bind fun t336=>(if t336=true then (if t306=t315 then ((mapjnl_Check.f k l0_0 l0_1 a0_2).bind fun t337=>((slipwayref06_Check.f k l0_0 l0_1 a0_2).bind fun t338=>(if t337=t338 then ((slipwayref06_Same.f k t317 t320 t323 t326 t329 t332).bind fun t339=>(if t339=true then (if t324=t333 then ((mapjnl_Covers.f k l0_0 l0_1 a0_2 l1_0 l1_1 a1_2).bind fun t340=>((slipwayref06_Covers.f k l0_0 l0_1 a0_2 l1_0 l1_1 a1_2).bind fun t341=>(if (t340 == t341)=true then ((mapjnl_Same.f k l0_0 l0_1 a0_2 l1_0 l1_1 a1_2).bind fun t342=>((slipwayref06_Same.f k l0_0 l0_1 a0_2 l1_0 l1_1 a1_2).bind fun t343=>(if (t342 == t343)=true then ((mapjnl_Same.f k l0_0 l0_1 a0_2 l0_0 l0_1 a0_2).bind fun t344=>(some t344)) else (none)))) else (none)))) else (none)) else (none))) else (none)))) else (none)) else (none)))=some r:=by rw [if_pos rfl] at H;exact H
  clear H
  have H:=H1
  clear H1
  replace H:=Option.bind_eq_some_iff.mp H
  obtain ⟨t336,A100,H⟩:=H
  replace H:(if t336=true then (if t306=t315 then ((mapjnl_Check.f k l0_0 l0_1 a0_2).bind fun t337=>((slipwayref06_Check.f k l0_0 l0_1 a0_2).bind fun t338=>(if t337=t338 then ((slipwayref06_Same.f k t317 t320 t323 t326 t329 t332).bind fun t339=>(if t339=true then (if t324=t333 then ((mapjnl_Covers.f k l0_0 l0_1 a0_2 l1_0 l1_1 a1_2).bind fun t340=>((slipwayref06_Covers.f k l0_0 l0_1 a0_2 l1_0 l1_1 a1_2).bind fun t341=>(if (t340 == t341)=true then ((mapjnl_Same.f k l0_0 l0_1 a0_2 l1_0 l1_1 a1_2).bind fun t342=>((slipwayref06_Same.f k l0_0 l0_1 a0_2 l1_0 l1_1 a1_2).bind fun t343=>(if (t342 == t343)=true then ((mapjnl_Same.f k l0_0 l0_1 a0_2 l0_0 l0_1 a0_2).bind fun t344=>(some t344)) else (none)))) else (none)))) else (none)) else (none))) else (none)))) else (none)) else (none))=some r:=H
  have A10:=Aside0.mk A100
  clear A100
  by_cases c11:t336=true
  ·subst c11
   have H1:(if t306=t315 then ((mapjnl_Check.f k l0_0 l0_1 a0_2).bind fun t337=>((slipwayref06_Check.f k l0_0 l0_1 a0_2).bind fun t338=>(if t337=t338 then ((slipwayref06_Same.f k t317 t320 t323 t326 t329 t332).bind fun t339=>(if t339=true then (if t324=t333 then ((mapjnl_Covers.f k l0_0 l0_1 a0_2 l1_0 l1_1 a1_2).bind fun t340=>((slipwayref06_Covers.f k l0_0 l0_1 a0_2 l1_0 l1_1 a1_2).bind fun t341=>(if (t340 == t341)=true then ((mapjnl_Same.f k l0_0 l0_1 a0_2 l1_0 l1_1 a1_2).bind fun t342=>((slipwayref06_Same.f k l0_0 l0_1 a0_2 l1_0 l1_1 a1_2).bind fun t343=>(if (t342 == t343)=true then ((mapjnl_Same.f k l0_0 l0_1 a0_2 l0_0 l0_1 a0_2).bind fun t344=>(some t344)) else (none)))) else (none)))) else (none)) else (none))) else (none)))) else (none))=some r:=by rw [if_pos rfl] at H;exact H
   clear H
   have H:=H1
   clear H1
   by_cases c12:t306=t315
   ·rw [if_pos c12] at H
    have c12b0:(t306 == t315)=true:=beq_iff_eq.mpr c12
    have c12b1:(t306 != t315)=false:=bne_eq_false_iff_eq.mpr c12
    clear c12
    replace H:=Option.bind_eq_some_iff.mp H
    obtain ⟨t337,A130,H⟩:=H
    replace H:((slipwayref06_Check.f k l0_0 l0_1 a0_2).bind fun t338=>(if t337=t338 then ((slipwayref06_Same.f k t317 t320 t323 t326 t329 t332).bind fun t339=>(if t339=true then (if t324=t333 then ((mapjnl_Covers.f k l0_0 l0_1 a0_2 l1_0 l1_1 a1_2).bind fun t340=>((slipwayref06_Covers.f k l0_0 l0_1 a0_2 l1_0 l1_1 a1_2).bind fun t341=>(if (t340 == t341)=true then ((mapjnl_Same.f k l0_0 l0_1 a0_2 l1_0 l1_1 a1_2).bind fun t342=>((slipwayref06_Same.f k l0_0 l0_1 a0_2 l1_0 l1_1 a1_2).bind fun t343=>(if (t342 == t343)=true then ((mapjnl_Same.f k l0_0 l0_1 a0_2 l0_0 l0_1 a0_2).bind fun t344=>(some t344)) else (none)))) else (none)))) else (none)) else (none))) else (none)))=some r:=H
    have A13:=Aside0.mk A130
    clear A130
    replace H:=Option.bind_eq_some_iff.mp H
    obtain ⟨t338,A140,H⟩:=H
    replace H:(if t337=t338 then ((slipwayref06_Same.f k t317 t320 t323 t326 t329 t332).bind fun t339=>(if t339=true then (if t324=t333 then ((mapjnl_Covers.f k l0_0 l0_1 a0_2 l1_0 l1_1 a1_2).bind fun t340=>((slipwayref06_Covers.f k l0_0 l0_1 a0_2 l1_0 l1_1 a1_2).bind fun t341=>(if (t340 == t341)=true then ((mapjnl_Same.f k l0_0 l0_1 a0_2 l1_0 l1_1 a1_2).bind fun t342=>((slipwayref06_Same.f k l0_0 l0_1 a0_2 l1_0 l1_1 a1_2).bind fun t343=>(if (t342 == t343)=true then ((mapjnl_Same.f k l0_0 l0_1 a0_2 l0_0 l0_1 a0_2).bind fun t344=>(some t344)) else (none)))) else (none)))) else (none)) else (none))) else (none))=some r:=H
    have A14:=Aside0.mk A140
    clear A140
    by_cases c15:t337=t338
    ·rw [if_pos c15] at H
     have c15b0:(t337 == t338)=true:=beq_iff_eq.mpr c15
     have c15b1:(t337 != t338)=false:=bne_eq_false_iff_eq.mpr c15
     clear c15
     replace H:=Option.bind_eq_some_iff.mp H
     obtain ⟨t339,A160,H⟩:=H
     replace H:(if t339=true then (if t324=t333 then ((mapjnl_Covers.f k l0_0 l0_1 a0_2 l1_0 l1_1 a1_2).bind fun t340=>((slipwayref06_Covers.f k l0_0 l0_1 a0_2 l1_0 l1_1 a1_2).bind fun t341=>(if (t340 == t341)=true then ((mapjnl_Same.f k l0_0 l0_1 a0_2 l1_0 l1_1 a1_2).bind fun t342=>((slipwayref06_Same.f k l0_0 l0_1 a0_2 l1_0 l1_1 a1_2).bind fun t343=>(if (t342 == t343)=true then ((mapjnl_Same.f k l0_0 l0_1 a0_2 l0_0 l0_1 a0_2).bind fun t344=>(some t344)) else (none)))) else (none)))) else (none)) else (none))=some r:=H
     have A16:=Aside0.mk A160
     clear A160
     by_cases c17:t339=true
     ·subst c17
      have H1:(if t324=t333 then ((mapjnl_Covers.f k l0_0 l0_1 a0_2 l1_0 l1_1 a1_2).bind fun t340=>((slipwayref06_Covers.f k l0_0 l0_1 a0_2 l1_0 l1_1 a1_2).bind fun t341=>(if (t340 == t341)=true then ((mapjnl_Same.f k l0_0 l0_1 a0_2 l1_0 l1_1 a1_2).bind fun t342=>((slipwayref06_Same.f k l0_0 l0_1 a0_2 l1_0 l1_1 a1_2).bind fun t343=>(if (t342 == t343)=true then ((mapjnl_Same.f k l0_0 l0_1 a0_2 l0_0 l0_1 a0_2).bind fun t344=>(some t344)) else (none)))) else (none)))) else (none))=some r:=by rw [if_pos rfl] at H;exact H
      clear H
      have H:=H1
      clear H1
      by_cases c18:t324=t333
      ·rw [if_pos c18] at H
       have c18b0:(t324 == t333)=true:=beq_iff_eq.mpr c18
       have c18b1:(t324 != t333)=false:=bne_eq_false_iff_eq.mpr c18
       clear c18
       replace H:=Option.bind_eq_some_iff.mp H
       obtain ⟨t340,A190,H⟩:=H
       replace H:((slipwayref06_Covers.f k l0_0 l0_1 a0_2 l1_0 l1_1 a1_2).bind fun t341=>(if (t340 == t341)=true then ((mapjnl_Same.f k l0_0 l0_1 a0_2 l1_0 l1_1 a1_2).bind fun t342=>((slipwayref06_Same.f k l0_0 l0_1 a0_2 l1_0 l1_1 a1_2).bind fun t343=>(if (t342 == t343)=true then ((mapjnl_Same.f k l0_0 l0_1 a0_2 l0_0 l0_1 a0_2).bind fun t344=>(some t344)) else (none)))) else (none)))=some r:=H
       have A19:=Aside0.mk A190
       clear A190
       replace H:=Option.bind_eq_some_iff.mp H
       obtain ⟨t341,A200,H⟩:=H
       replace H:(if (t340 == t341)=true then ((mapjnl_Same.f k l0_0 l0_1 a0_2 l1_0 l1_1 a1_2).bind fun t342=>((slipwayref06_Same.f k l0_0 l0_1 a0_2 l1_0 l1_1 a1_2).bind fun t343=>(if (t342 == t343)=true then ((mapjnl_Same.f k l0_0 l0_1 a0_2 l0_0 l0_1 a0_2).bind fun t344=>(some t344)) else (none)))) else (none))=some r:=H
       have A20:=Aside0.mk A200
       clear A200
       by_cases c21:(t340 == t341)=true
       ·rw [if_pos c21] at H
        have c21b0:(t340 == t341)=true:=c21
        (try (have c21b1:decide (t340=t341)=true:=by simpa using c21))
        (try (have c21b2:(t340 == t341)=true:=by simpa using c21))
        clear c21
        replace H:=Option.bind_eq_some_iff.mp H
        obtain ⟨t342,A220,H⟩:=H
        replace H:((slipwayref06_Same.f k l0_0 l0_1 a0_2 l1_0 l1_1 a1_2).bind fun t343=>(if (t342 == t343)=true then ((mapjnl_Same.f k l0_0 l0_1 a0_2 l0_0 l0_1 a0_2).bind fun t344=>(some t344)) else (none)))=some r:=H
        have A22:=Aside0.mk A220
        clear A220
        replace H:=Option.bind_eq_some_iff.mp H
        obtain ⟨t343,A230,H⟩:=H
        replace H:(if (t342 == t343)=true then ((mapjnl_Same.f k l0_0 l0_1 a0_2 l0_0 l0_1 a0_2).bind fun t344=>(some t344)) else (none))=some r:=H
        have A23:=Aside0.mk A230
        clear A230
        by_cases c24:(t342 == t343)=true
        ·rw [if_pos c24] at H
         have c24b0:(t342 == t343)=true:=c24
         (try (have c24b1:decide (t342=t343)=true:=by simpa using c24))
         (try (have c24b2:(t342 == t343)=true:=by simpa using c24))
         clear c24
         replace H:=Option.bind_eq_some_iff.mp H
         obtain ⟨t344,A250,H⟩:=H
         replace H:(some t344)=some r:=H
         have A25:=Aside0.mk A250
         clear A250
         obtain rfl:=Option.some.inj H
         go_enter Try.func3,Try.ntmps3
         try go_wp2_with (first|((with_reducible refine gate_dst (N:=3) rfl ?_);refine box_event ?hg (N:=3) ?hd (cs:=#[.slice A0_0 l0_0.length c0_0,.slice A0_1 l0_1.length c0_1,.int .i64 a0_2]) (t:=25) ?hr ?_;(case hd=>rfl);(case hg=>rfl);(case hr=>first|(go_simp;done)|(go_simp;rfl));intro gb297 hg w26 hbox hb;have n0_:=Aside0.mk (below_step (by repeat (first|(with_reducible first|exact HB.out|apply below_alloc|apply pw_below_drewN|apply below_drew1)|exact HB.out)) hb);have n1_:=Aside0.mk (hbox);have n2_:=Aside0.mk ((by rw [hg];exact (below_size (by repeat (first|(with_reducible first|exact HB.out|apply below_alloc|apply pw_below_drewN|apply below_drew1)|exact HB.out))):w.heap.size≤gb297));have n3_:=Aside0.mk ((by rw [hg];exact (below_size (by repeat (first|(with_reducible first|exact HB.out|apply below_alloc|apply pw_below_drewN|apply below_drew1)|exact HB.out))):w.heap.size≤gb297));clear HB;have HB:=n0_;have BK297:=n1_;have GW297:=n2_;have GE297:=n3_;clear n0_ n1_ n2_ n3_;clear hb hbox hg)|((with_reducible refine gate_dst (N:=4) rfl ?_);refine box_event ?hg (N:=4) ?hd (cs:=#[.slice A1_0 l1_0.length c1_0,.slice A1_1 l1_1.length c1_1,.int .i64 a1_2]) (t:=25) ?hr ?_;(case hd=>rfl);(case hg=>rfl);(case hr=>first|(go_simp;done)|(go_simp;rfl));intro gb298 hg w27 hbox hb;have n0_:=Aside0.mk (blk_below (g:=gb297) (o:=.cells #[.slice A0_0 l0_0.length c0_0,.slice A0_1 l0_1.length c0_1,.int .i64 a0_2] 25 (0,0)) (by (with_reducible repeat (first|refine blk_drewN ?_ _|refine blk_drew ?_|refine blk_alloc ?_ _));exact BK297.out) hb);have n1_:=Aside0.mk (below_step (by repeat (first|(with_reducible first|exact HB.out|apply below_alloc|apply pw_below_drewN|apply below_drew1|refine below_set ?_ GE297.out)|exact HB.out)) hb);have n2_:=Aside0.mk (hbox);have n3_:=Aside0.mk ((by rw [hg];exact (below_size (by repeat (first|(with_reducible first|exact HB.out|apply below_alloc|apply pw_below_drewN|apply below_drew1|refine below_set ?_ GE297.out)|exact HB.out))):w.heap.size≤gb298));have n4_:=Aside0.mk ((by rw [hg];exact (below_size (by repeat (first|(with_reducible first|exact HB.out|apply below_alloc|apply pw_below_drewN|apply below_drew1|refine below_set ?_ GE297.out)|exact HB.out))):w.heap.size≤gb298));have n5_:=Aside0.mk ((by rw [hg];exact Nat.ne_of_lt (blk_lt (g:=gb297) (o:=.cells #[.slice A0_0 l0_0.length c0_0,.slice A0_1 l0_1.length c0_1,.int .i64 a0_2] 25 (0,0)) (by (with_reducible repeat (first|refine blk_drewN ?_ _|refine blk_drew ?_|refine blk_alloc ?_ _));exact BK297.out)):gb297≠gb298));have n6_:=Aside0.mk ((by rw [hg];exact Nat.ne_of_gt (blk_lt (g:=gb297) (o:=.cells #[.slice A0_0 l0_0.length c0_0,.slice A0_1 l0_1.length c0_1,.int .i64 a0_2] 25 (0,0)) (by (with_reducible repeat (first|refine blk_drewN ?_ _|refine blk_drew ?_|refine blk_alloc ?_ _));exact BK297.out)):gb298≠gb297));clear BK297 HB;have BK297:=n0_;have HB:=n1_;have BK298:=n2_;have GW298:=n3_;have GE298:=n4_;have NB297_298:=n5_;have NB298_297:=n6_;clear n0_ n1_ n2_ n3_ n4_ n5_ n6_;clear hb hbox hg)|((with_reducible refine gate_callee (f:=11) rfl ?_);refine goesL_ (some 17) rfl rfl Try.func11 (by kernel_rfl) rfl #[.int .i64 a2] rfl (by (try simp only [List.map_toArray,List.map_cons,List.map_nil]);first|done|rfl|(simp only [List.length_drop,List.length_take];rfl)) ?_;(with_reducible refine (mapjnl_New.calls a2 t299 t302 t305 t306 _ A4.out).mono ?_);rintro e w28 ⟨v300,v303,rfl,ho0,ho1,hb⟩;refine ⟨_,rfl,?_⟩;have n0_:=Aside0.mk (Kd.R_lower ho0 (below_size (by repeat (first|(with_reducible first|exact HB.out|apply below_alloc|apply pw_below_drewN|apply below_drew1|refine below_set ?_ GE297.out|refine below_set ?_ GE298.out)|exact HB.out))));have n1_:=Aside0.mk (Kd.R_lower ho1 (below_size (by repeat (first|(with_reducible first|exact HB.out|apply below_alloc|apply pw_below_drewN|apply below_drew1|refine below_set ?_ GE297.out|refine below_set ?_ GE298.out)|exact HB.out))));have n2_:=Aside0.mk (blk_below (g:=gb297) (o:=.cells #[.slice A0_0 l0_0.length c0_0,.slice A0_1 l0_1.length c0_1,.int .i64 a0_2] 25 (0,0)) (by (with_reducible repeat (first|refine blk_drewN ?_ _|refine blk_drew ?_|refine blk_alloc ?_ _));exact BK297.out) hb);have n3_:=Aside0.mk (blk_below (g:=gb298) (o:=.cells #[.slice A1_0 l1_0.length c1_0,.slice A1_1 l1_1.length c1_1,.int .i64 a1_2] 25 (0,0)) (by (with_reducible repeat (first|refine blk_drewN ?_ _|refine blk_drew ?_|refine blk_alloc ?_ _));exact BK298.out) hb);have n4_:=Aside0.mk (below_step (by repeat (first|(with_reducible first|exact HB.out|apply below_alloc|apply pw_below_drewN|apply below_drew1|refine below_set ?_ GE297.out|refine below_set ?_ GE298.out)|exact HB.out)) hb);clear BK297 BK298 HB;have HO301:=n0_;have HO304:=n1_;have BK297:=n2_;have BK298:=n3_;have HB:=n4_;clear n0_ n1_ n2_ n3_ n4_;(try clear hb);(try clear hb2);(try clear hk);(try clear hi);(try clear ho0);(try clear ho1))|((with_reducible refine gate_dst (N:=7) rfl ?_);refine box_event ?hg (N:=7) ?hd (cs:=#[.slice none 0 0,.slice none 0 0,.int .i64 0]) (t:=25) ?hr ?_;(case hd=>rfl);(case hg=>rfl);(case hr=>first|(go_simp;done)|(go_simp;rfl));intro gb307 hg w29 hbox hb;have n0_:=Aside0.mk (Kd.R_below (by (with_reducible repeat (first|apply Kd.R_alloc|apply Kd.R_drewN|apply Kd.R_drew));exact HO301.out) hb);have n1_:=Aside0.mk (Kd.R_below (by (with_reducible repeat (first|apply Kd.R_alloc|apply Kd.R_drewN|apply Kd.R_drew));exact HO304.out) hb);have n2_:=Aside0.mk (blk_below (g:=gb297) (o:=.cells #[.slice A0_0 l0_0.length c0_0,.slice A0_1 l0_1.length c0_1,.int .i64 a0_2] 25 (0,0)) (by (with_reducible repeat (first|refine blk_drewN ?_ _|refine blk_drew ?_|refine blk_alloc ?_ _));exact BK297.out) hb);have n3_:=Aside0.mk (blk_below (g:=gb298) (o:=.cells #[.slice A1_0 l1_0.length c1_0,.slice A1_1 l1_1.length c1_1,.int .i64 a1_2] 25 (0,0)) (by (with_reducible repeat (first|refine blk_drewN ?_ _|refine blk_drew ?_|refine blk_alloc ?_ _));exact BK298.out) hb);have n4_:=Aside0.mk (below_step (by repeat (first|(with_reducible first|exact HB.out|apply below_alloc|apply pw_below_drewN|apply below_drew1|refine below_set ?_ GE297.out|refine below_set ?_ GE298.out)|exact HB.out)) hb);have n5_:=Aside0.mk (hbox);have n6_:=Aside0.mk ((by rw [hg];exact (below_size (by repeat (first|(with_reducible first|exact HB.out|apply below_alloc|apply pw_below_drewN|apply below_drew1|refine below_set ?_ GE297.out|refine below_set ?_ GE298.out)|exact HB.out))):w.heap.size≤gb307));have n7_:=Aside0.mk ((by rw [hg];exact (below_size (by repeat (first|(with_reducible first|exact HB.out|apply below_alloc|apply pw_below_drewN|apply below_drew1|refine below_set ?_ GE297.out|refine below_set ?_ GE298.out)|exact HB.out))):w.heap.size≤gb307));have n8_:=Aside0.mk ((by rw [hg];exact Nat.ne_of_lt (blk_lt (g:=gb297) (o:=.cells #[.slice A0_0 l0_0.length c0_0,.slice A0_1 l0_1.length c0_1,.int .i64 a0_2] 25 (0,0)) (by (with_reducible repeat (first|refine blk_drewN ?_ _|refine blk_drew ?_|refine blk_alloc ?_ _));exact BK297.out)):gb297≠gb307));have n9_:=Aside0.mk ((by rw [hg];exact Nat.ne_of_gt (blk_lt (g:=gb297) (o:=.cells #[.slice A0_0 l0_0.length c0_0,.slice A0_1 l0_1.length c0_1,.int .i64 a0_2] 25 (0,0)) (by (with_reducible repeat (first|refine blk_drewN ?_ _|refine blk_drew ?_|refine blk_alloc ?_ _));exact BK297.out)):gb307≠gb297));have n10_:=Aside0.mk ((by rw [hg];exact Nat.ne_of_lt (blk_lt (g:=gb298) (o:=.cells #[.slice A1_0 l1_0.length c1_0,.slice A1_1 l1_1.length c1_1,.int .i64 a1_2] 25 (0,0)) (by (with_reducible repeat (first|refine blk_drewN ?_ _|refine blk_drew ?_|refine blk_alloc ?_ _));exact BK298.out)):gb298≠gb307));have n11_:=Aside0.mk ((by rw [hg];exact Nat.ne_of_gt (blk_lt (g:=gb298) (o:=.cells #[.slice A1_0 l1_0.length c1_0,.slice A1_1 l1_1.length c1_1,.int .i64 a1_2] 25 (0,0)) (by (with_reducible repeat (first|refine blk_drewN ?_ _|refine blk_drew ?_|refine blk_alloc ?_ _));exact BK298.out)):gb307≠gb298));clear HO301 HO304 BK297 BK298 HB;have HO301:=n0_;have HO304:=n1_;have BK297:=n2_;have BK298:=n3_;have HB:=n4_;have BK307:=n5_;have GW307:=n6_;have GE307:=n7_;have NB297_307:=n8_;have NB307_297:=n9_;have NB298_307:=n10_;have NB307_298:=n11_;clear n0_ n1_ n2_ n3_ n4_ n5_ n6_ n7_ n8_ n9_ n10_ n11_;clear hb hbox hg;obtain ⟨Ao30,co30,eo30⟩:=Kd.R_slice HO301.out;subst eo30;have hnb31:=NB307_297.out;have hnc31:=NB297_307.out;have hnb32:=NB307_298.out;have hnc32:=NB298_307.out;have hcz33_0:w29.cell? ⟨gb307,0,none⟩=some (.slice none 0 0):=(blk_cell BK307.out 0).trans rfl;have hcz33_1:w29.cell? ⟨gb307,1,none⟩=some (.slice none 0 0):=(blk_cell BK307.out 1).trans rfl;have hcz33_2:w29.cell? ⟨gb307,2,none⟩=some (.int .i64 0):=(blk_cell BK307.out 2).trans rfl;have hfz33_0:=blk_frozen BK307.out 0;have hfz33_1:=blk_frozen BK307.out 1;have hfz33_2:=blk_frozen BK307.out 2;obtain ⟨Ao34,co34,eo34⟩:=Kd.R_slice HO304.out;subst eo34)|((with_reducible refine gate_callee (f:=12) rfl ?_);refine goesL_ (some 22) rfl rfl Try.func12 (by kernel_rfl) rfl #[.int .i64 a2] rfl (by (try simp only [List.map_toArray,List.map_cons,List.map_nil]);first|done|rfl|(simp only [List.length_drop,List.length_take];rfl)) ?_;(with_reducible refine (slipwayref06_New.calls a2 t308 t311 t314 t315 _ A5.out).mono ?_);rintro e w35 ⟨v309,v312,rfl,ho0,ho1,hb⟩;refine ⟨_,rfl,?_⟩;have n0_:=Aside0.mk (Kd.R_elder' (by (with_reducible repeat (first|apply Kd.R_alloc|apply Kd.R_drewN|apply Kd.R_drew));exact (Kd.R_mono (Kd.R_far (p:=⟨gb307,2,none⟩) (Kd.R_far (p:=⟨gb307,1,none⟩) (Kd.R_far (p:=⟨gb307,0,none⟩) (Kd.R_types HO301.out BK307.out (by decide)) (fun _ hk=>hk.2) (.slice Ao30 t299.length co30)) (fun _ hk=>hk.2) (.slice Ao34 t302.length co34)) (fun _ hk=>hk.2) (.int .i64 t305)) (fun _ h_=>h_.1))) (Kd.R_base ho0) hb);have n1_:=Aside0.mk (Kd.R_elder' (by (with_reducible repeat (first|apply Kd.R_alloc|apply Kd.R_drewN|apply Kd.R_drew));exact (Kd.R_mono (Kd.R_far (p:=⟨gb307,2,none⟩) (Kd.R_far (p:=⟨gb307,1,none⟩) (Kd.R_far (p:=⟨gb307,0,none⟩) (Kd.R_types HO304.out BK307.out (by decide)) (fun _ hk=>hk.2) (.slice Ao30 t299.length co30)) (fun _ hk=>hk.2) (.slice Ao34 t302.length co34)) (fun _ hk=>hk.2) (.int .i64 t305)) (fun _ h_=>h_.1))) (Kd.R_base ho1) hb);have n2_:=Aside0.mk (Kd.R_lower (Kd.R_new' ho0 (Kd.R_lt (by (with_reducible repeat (first|apply Kd.R_alloc|apply Kd.R_drewN|apply Kd.R_drew));exact (Kd.R_mono (Kd.R_far (p:=⟨gb307,2,none⟩) (Kd.R_far (p:=⟨gb307,1,none⟩) (Kd.R_far (p:=⟨gb307,0,none⟩) (Kd.R_types HO301.out BK307.out (by decide)) (fun _ hk=>hk.2) (.slice Ao30 t299.length co30)) (fun _ hk=>hk.2) (.slice Ao34 t302.length co34)) (fun _ hk=>hk.2) (.int .i64 t305)) (fun _ h_=>h_.1))))) (below_size (by repeat (first|(with_reducible first|exact HB.out|apply below_alloc|apply pw_below_drewN|apply below_drew1|refine below_set ?_ GE297.out|refine below_set ?_ GE298.out|refine below_set ?_ GE307.out)|exact HB.out))));have n3_:=Aside0.mk (Kd.R_lower (Kd.R_new' ho1 (Kd.R_lt (by (with_reducible repeat (first|apply Kd.R_alloc|apply Kd.R_drewN|apply Kd.R_drew));exact (Kd.R_mono (Kd.R_far (p:=⟨gb307,2,none⟩) (Kd.R_far (p:=⟨gb307,1,none⟩) (Kd.R_far (p:=⟨gb307,0,none⟩) (Kd.R_types HO304.out BK307.out (by decide)) (fun _ hk=>hk.2) (.slice Ao30 t299.length co30)) (fun _ hk=>hk.2) (.slice Ao34 t302.length co34)) (fun _ hk=>hk.2) (.int .i64 t305)) (fun _ h_=>h_.1))))) (below_size (by repeat (first|(with_reducible first|exact HB.out|apply below_alloc|apply pw_below_drewN|apply below_drew1|refine below_set ?_ GE297.out|refine below_set ?_ GE298.out|refine below_set ?_ GE307.out)|exact HB.out))));have n4_:=Aside0.mk (blk_below (g:=gb297) (o:=.cells #[.slice A0_0 l0_0.length c0_0,.slice A0_1 l0_1.length c0_1,.int .i64 a0_2] 25 (0,0)) (by (with_reducible repeat (first|refine blk_drewN ?_ _|refine blk_drew ?_|refine blk_alloc ?_ _));refine blk_far ?_ NB297_307.out _;(with_reducible repeat (first|refine blk_drewN ?_ _|refine blk_drew ?_|refine blk_alloc ?_ _));refine blk_far ?_ NB297_307.out _;(with_reducible repeat (first|refine blk_drewN ?_ _|refine blk_drew ?_|refine blk_alloc ?_ _));refine blk_far ?_ NB297_307.out _;(with_reducible repeat (first|refine blk_drewN ?_ _|refine blk_drew ?_|refine blk_alloc ?_ _));exact BK297.out) hb);have n5_:=Aside0.mk (blk_below (g:=gb298) (o:=.cells #[.slice A1_0 l1_0.length c1_0,.slice A1_1 l1_1.length c1_1,.int .i64 a1_2] 25 (0,0)) (by (with_reducible repeat (first|refine blk_drewN ?_ _|refine blk_drew ?_|refine blk_alloc ?_ _));refine blk_far ?_ NB298_307.out _;(with_reducible repeat (first|refine blk_drewN ?_ _|refine blk_drew ?_|refine blk_alloc ?_ _));refine blk_far ?_ NB298_307.out _;(with_reducible repeat (first|refine blk_drewN ?_ _|refine blk_drew ?_|refine blk_alloc ?_ _));refine blk_far ?_ NB298_307.out _;(with_reducible repeat (first|refine blk_drewN ?_ _|refine blk_drew ?_|refine blk_alloc ?_ _));exact BK298.out) hb);have n6_:=Aside0.mk (blk_below (g:=gb307) (o:=.cells #[.slice Ao30 t299.length co30,.slice Ao34 t302.length co34,.int .i64 t305] 25 (0,0)) (by (with_reducible repeat (first|refine blk_drewN ?_ _|refine blk_drew ?_|refine blk_alloc ?_ _));refine blk_put (cs:=#[.slice Ao30 t299.length co30,.slice Ao34 t302.length co34,.int .i64 0]) ?_ 2 _ rfl;(with_reducible repeat (first|refine blk_drewN ?_ _|refine blk_drew ?_|refine blk_alloc ?_ _));refine blk_put (cs:=#[.slice Ao30 t299.length co30,.slice none 0 0,.int .i64 0]) ?_ 1 _ rfl;(with_reducible repeat (first|refine blk_drewN ?_ _|refine blk_drew ?_|refine blk_alloc ?_ _));refine blk_put (cs:=#[.slice none 0 0,.slice none 0 0,.int .i64 0]) ?_ 0 _ rfl;(with_reducible repeat (first|refine blk_drewN ?_ _|refine blk_drew ?_|refine blk_alloc ?_ _));exact BK307.out) hb);have n7_:=Aside0.mk (below_step (by repeat (first|(with_reducible first|exact HB.out|apply below_alloc|apply pw_below_drewN|apply below_drew1|refine below_set ?_ GE297.out|refine below_set ?_ GE298.out|refine below_set ?_ GE307.out)|exact HB.out)) hb);clear HO301 HO304 BK297 BK298 BK307 HB;have HO301:=n0_;have HO304:=n1_;have HO310:=n2_;have HO313:=n3_;have BK297:=n4_;have BK298:=n5_;have BK307:=n6_;have HB:=n7_;clear n0_ n1_ n2_ n3_ n4_ n5_ n6_ n7_;(try clear hb);(try clear hb2);(try clear hk);(try clear hi);(try clear ho0);(try clear ho1))|((with_reducible refine gate_dst (N:=9) rfl ?_);refine box_event ?hg (N:=9) ?hd (cs:=#[.slice none 0 0,.slice none 0 0,.int .i64 0]) (t:=25) ?hr ?_;(case hd=>rfl);(case hg=>rfl);(case hr=>first|(go_simp;done)|(go_simp;rfl));intro gb316 hg w36 hbox hb;have n0_:=Aside0.mk (Kd.R_below (by (with_reducible repeat (first|apply Kd.R_alloc|apply Kd.R_drewN|apply Kd.R_drew));exact HO301.out) hb);have n1_:=Aside0.mk (Kd.R_below (by (with_reducible repeat (first|apply Kd.R_alloc|apply Kd.R_drewN|apply Kd.R_drew));exact HO304.out) hb);have n2_:=Aside0.mk (Kd.R_below (by (with_reducible repeat (first|apply Kd.R_alloc|apply Kd.R_drewN|apply Kd.R_drew));exact HO310.out) hb);have n3_:=Aside0.mk (Kd.R_below (by (with_reducible repeat (first|apply Kd.R_alloc|apply Kd.R_drewN|apply Kd.R_drew));exact HO313.out) hb);have n4_:=Aside0.mk (blk_below (g:=gb297) (o:=.cells #[.slice A0_0 l0_0.length c0_0,.slice A0_1 l0_1.length c0_1,.int .i64 a0_2] 25 (0,0)) (by (with_reducible repeat (first|refine blk_drewN ?_ _|refine blk_drew ?_|refine blk_alloc ?_ _));exact BK297.out) hb);have n5_:=Aside0.mk (blk_below (g:=gb298) (o:=.cells #[.slice A1_0 l1_0.length c1_0,.slice A1_1 l1_1.length c1_1,.int .i64 a1_2] 25 (0,0)) (by (with_reducible repeat (first|refine blk_drewN ?_ _|refine blk_drew ?_|refine blk_alloc ?_ _));exact BK298.out) hb);have n6_:=Aside0.mk (blk_below (g:=gb307) (o:=.cells #[.slice Ao30 t299.length co30,.slice Ao34 t302.length co34,.int .i64 t305] 25 (0,0)) (by (with_reducible repeat (first|refine blk_drewN ?_ _|refine blk_drew ?_|refine blk_alloc ?_ _));exact BK307.out) hb);have n7_:=Aside0.mk (below_step (by repeat (first|(with_reducible first|exact HB.out|apply below_alloc|apply pw_below_drewN|apply below_drew1|refine below_set ?_ GE297.out|refine below_set ?_ GE298.out|refine below_set ?_ GE307.out)|exact HB.out)) hb);have n8_:=Aside0.mk (hbox);have n9_:=Aside0.mk ((by rw [hg];exact (below_size (by repeat (first|(with_reducible first|exact HB.out|apply below_alloc|apply pw_below_drewN|apply below_drew1|refine below_set ?_ GE297.out|refine below_set ?_ GE298.out|refine below_set ?_ GE307.out)|exact HB.out))):w.heap.size≤gb316));have n10_:=Aside0.mk ((by rw [hg];exact (below_size (by repeat (first|(with_reducible first|exact HB.out|apply below_alloc|apply pw_below_drewN|apply below_drew1|refine below_set ?_ GE297.out|refine below_set ?_ GE298.out|refine below_set ?_ GE307.out)|exact HB.out))):w.heap.size≤gb316));have n11_:=Aside0.mk ((by rw [hg];exact Nat.ne_of_lt (blk_lt (g:=gb297) (o:=.cells #[.slice A0_0 l0_0.length c0_0,.slice A0_1 l0_1.length c0_1,.int .i64 a0_2] 25 (0,0)) (by (with_reducible repeat (first|refine blk_drewN ?_ _|refine blk_drew ?_|refine blk_alloc ?_ _));exact BK297.out)):gb297≠gb316));have n12_:=Aside0.mk ((by rw [hg];exact Nat.ne_of_gt (blk_lt (g:=gb297) (o:=.cells #[.slice A0_0 l0_0.length c0_0,.slice A0_1 l0_1.length c0_1,.int .i64 a0_2] 25 (0,0)) (by (with_reducible repeat (first|refine blk_drewN ?_ _|refine blk_drew ?_|refine blk_alloc ?_ _));exact BK297.out)):gb316≠gb297));have n13_:=Aside0.mk ((by rw [hg];exact Nat.ne_of_lt (blk_lt (g:=gb298) (o:=.cells #[.slice A1_0 l1_0.length c1_0,.slice A1_1 l1_1.length c1_1,.int .i64 a1_2] 25 (0,0)) (by (with_reducible repeat (first|refine blk_drewN ?_ _|refine blk_drew ?_|refine blk_alloc ?_ _));exact BK298.out)):gb298≠gb316));have n14_:=Aside0.mk ((by rw [hg];exact Nat.ne_of_gt (blk_lt (g:=gb298) (o:=.cells #[.slice A1_0 l1_0.length c1_0,.slice A1_1 l1_1.length c1_1,.int .i64 a1_2] 25 (0,0)) (by (with_reducible repeat (first|refine blk_drewN ?_ _|refine blk_drew ?_|refine blk_alloc ?_ _));exact BK298.out)):gb316≠gb298));have n15_:=Aside0.mk ((by rw [hg];exact Nat.ne_of_lt (blk_lt (g:=gb307) (o:=.cells #[.slice Ao30 t299.length co30,.slice Ao34 t302.length co34,.int .i64 t305] 25 (0,0)) (by (with_reducible repeat (first|refine blk_drewN ?_ _|refine blk_drew ?_|refine blk_alloc ?_ _));exact BK307.out)):gb307≠gb316));have n16_:=Aside0.mk ((by rw [hg];exact Nat.ne_of_gt (blk_lt (g:=gb307) (o:=.cells #[.slice Ao30 t299.length co30,.slice Ao34 t302.length co34,.int .i64 t305] 25 (0,0)) (by (with_reducible repeat (first|refine blk_drewN ?_ _|refine blk_drew ?_|refine blk_alloc ?_ _));exact BK307.out)):gb316≠gb307));clear HO301 HO304 HO310 HO313 BK297 BK298 BK307 HB;have HO301:=n0_;have HO304:=n1_;have HO310:=n2_;have HO313:=n3_;have BK297:=n4_;have BK298:=n5_;have BK307:=n6_;have HB:=n7_;have BK316:=n8_;have GW316:=n9_;have GE316:=n10_;have NB297_316:=n11_;have NB316_297:=n12_;have NB298_316:=n13_;have NB316_298:=n14_;have NB307_316:=n15_;have NB316_307:=n16_;clear n0_ n1_ n2_ n3_ n4_ n5_ n6_ n7_ n8_ n9_ n10_ n11_ n12_ n13_ n14_ n15_ n16_;clear hb hbox hg;obtain ⟨Ao37,co37,eo37⟩:=Kd.R_slice HO310.out;subst eo37;have hnb38:=NB316_297.out;have hnc38:=NB297_316.out;have hnb39:=NB316_298.out;have hnc39:=NB298_316.out;have hnb40:=NB316_307.out;have hnc40:=NB307_316.out;have hcz41_0:w36.cell? ⟨gb316,0,none⟩=some (.slice none 0 0):=(blk_cell BK316.out 0).trans rfl;have hcz41_1:w36.cell? ⟨gb316,1,none⟩=some (.slice none 0 0):=(blk_cell BK316.out 1).trans rfl;have hcz41_2:w36.cell? ⟨gb316,2,none⟩=some (.int .i64 0):=(blk_cell BK316.out 2).trans rfl;have hfz41_0:=blk_frozen BK316.out 0;have hfz41_1:=blk_frozen BK316.out 1;have hfz41_2:=blk_frozen BK316.out 2;obtain ⟨Ao42,co42,eo42⟩:=Kd.R_slice HO313.out;subst eo42;have hnb43:=NB297_298.out;have hnc43:=NB298_297.out;have hcz44_0:w36.cell? ⟨gb297,0,none⟩=some (.slice A0_0 l0_0.length c0_0):=(blk_cell BK297.out 0).trans rfl;have hcz44_1:w36.cell? ⟨gb297,1,none⟩=some (.slice A0_1 l0_1.length c0_1):=(blk_cell BK297.out 1).trans rfl;have hcz44_2:w36.cell? ⟨gb297,2,none⟩=some (.int .i64 a0_2):=(blk_cell BK297.out 2).trans rfl;have hfz44_0:=blk_frozen BK297.out 0;have hfz44_1:=blk_frozen BK297.out 1;have hfz44_2:=blk_frozen BK297.out 2;have hcz45_0:w36.cell? ⟨gb298,0,none⟩=some (.slice A1_0 l1_0.length c1_0):=(blk_cell BK298.out 0).trans rfl;have hcz45_1:w36.cell? ⟨gb298,1,none⟩=some (.slice A1_1 l1_1.length c1_1):=(blk_cell BK298.out 1).trans rfl;have hcz45_2:w36.cell? ⟨gb298,2,none⟩=some (.int .i64 a1_2):=(blk_cell BK298.out 2).trans rfl;have hfz45_0:=blk_frozen BK298.out 0;have hfz45_1:=blk_frozen BK298.out 1;have hfz45_2:=blk_frozen BK298.out 2)|((with_reducible refine gate_callee (f:=13) rfl ?_);refine goesL_ (some 28) rfl rfl Try.func13 (by kernel_rfl) rfl #[.agg #[.slice A0_0 l0_0.length c0_0,.slice A0_1 l0_1.length c0_1,.int .i64 a0_2],.agg #[.slice A1_0 l1_0.length c1_0,.slice A1_1 l1_1.length c1_1,.int .i64 a1_2]] rfl (by (try simp only [List.map_toArray,List.map_cons,List.map_nil]);first|done|rfl|(simp only [List.length_drop,List.length_take];rfl)) ?_;(with_reducible refine (mapjnl_Join.calls k _ _ l0_0 _ _ l0_1 a0_2 _ _ l1_0 _ _ l1_1 a1_2 t317 t320 t323 t324 _ ?side1 ?side2 ?side3 ?side4 ?side5 ?side6 ?side7 ?side8 A6.out).mono ?_);(case side1=>exact Kd.C_below HR0_0.out (by repeat (first|(with_reducible first|exact HB.out|apply below_alloc|apply pw_below_drewN|apply below_drew1|refine below_set ?_ GE297.out|refine below_set ?_ GE298.out|refine below_set ?_ GE307.out|refine below_set ?_ GE316.out)|exact HB.out)));(case side2=>exact HC0_0.out);(case side3=>exact Kd.C_below HR0_1.out (by repeat (first|(with_reducible first|exact HB.out|apply below_alloc|apply pw_below_drewN|apply below_drew1|refine below_set ?_ GE297.out|refine below_set ?_ GE298.out|refine below_set ?_ GE307.out|refine below_set ?_ GE316.out)|exact HB.out)));(case side4=>exact HC0_1.out);(case side5=>exact Kd.C_below HR1_0.out (by repeat (first|(with_reducible first|exact HB.out|apply below_alloc|apply pw_below_drewN|apply below_drew1|refine below_set ?_ GE297.out|refine below_set ?_ GE298.out|refine below_set ?_ GE307.out|refine below_set ?_ GE316.out)|exact HB.out)));(case side6=>exact HC1_0.out);(case side7=>exact Kd.C_below HR1_1.out (by repeat (first|(with_reducible first|exact HB.out|apply below_alloc|apply pw_below_drewN|apply below_drew1|refine below_set ?_ GE297.out|refine below_set ?_ GE298.out|refine below_set ?_ GE307.out|refine below_set ?_ GE316.out)|exact HB.out)));(case side8=>exact HC1_1.out);rintro e w46 ⟨v318,v321,rfl,ho0,ho1,hb⟩;refine ⟨_,rfl,?_⟩;have n0_:=Aside0.mk (Kd.R_elder' (by (with_reducible repeat (first|apply Kd.R_alloc|apply Kd.R_drewN|apply Kd.R_drew));exact (Kd.R_mono (Kd.R_far (p:=⟨gb316,2,none⟩) (Kd.R_far (p:=⟨gb316,1,none⟩) (Kd.R_far (p:=⟨gb316,0,none⟩) (Kd.R_types HO301.out BK316.out (by decide)) (fun _ hk=>hk.2) (.slice Ao37 t308.length co37)) (fun _ hk=>hk.2) (.slice Ao42 t311.length co42)) (fun _ hk=>hk.2) (.int .i64 t314)) (fun _ h_=>h_.1))) (Kd.R_base ho0) hb);have n1_:=Aside0.mk (Kd.R_elder' (by (with_reducible repeat (first|apply Kd.R_alloc|apply Kd.R_drewN|apply Kd.R_drew));exact (Kd.R_mono (Kd.R_far (p:=⟨gb316,2,none⟩) (Kd.R_far (p:=⟨gb316,1,none⟩) (Kd.R_far (p:=⟨gb316,0,none⟩) (Kd.R_types HO304.out BK316.out (by decide)) (fun _ hk=>hk.2) (.slice Ao37 t308.length co37)) (fun _ hk=>hk.2) (.slice Ao42 t311.length co42)) (fun _ hk=>hk.2) (.int .i64 t314)) (fun _ h_=>h_.1))) (Kd.R_base ho1) hb);have n2_:=Aside0.mk (Kd.R_elder' (by (with_reducible repeat (first|apply Kd.R_alloc|apply Kd.R_drewN|apply Kd.R_drew));exact (Kd.R_mono (Kd.R_far (p:=⟨gb316,2,none⟩) (Kd.R_far (p:=⟨gb316,1,none⟩) (Kd.R_far (p:=⟨gb316,0,none⟩) (Kd.R_types HO310.out BK316.out (by decide)) (fun _ hk=>hk.2) (.slice Ao37 t308.length co37)) (fun _ hk=>hk.2) (.slice Ao42 t311.length co42)) (fun _ hk=>hk.2) (.int .i64 t314)) (fun _ h_=>h_.1))) (Kd.R_base ho0) hb);have n3_:=Aside0.mk (Kd.R_elder' (by (with_reducible repeat (first|apply Kd.R_alloc|apply Kd.R_drewN|apply Kd.R_drew));exact (Kd.R_mono (Kd.R_far (p:=⟨gb316,2,none⟩) (Kd.R_far (p:=⟨gb316,1,none⟩) (Kd.R_far (p:=⟨gb316,0,none⟩) (Kd.R_types HO313.out BK316.out (by decide)) (fun _ hk=>hk.2) (.slice Ao37 t308.length co37)) (fun _ hk=>hk.2) (.slice Ao42 t311.length co42)) (fun _ hk=>hk.2) (.int .i64 t314)) (fun _ h_=>h_.1))) (Kd.R_base ho1) hb);have n4_:=Aside0.mk (Kd.R_lower (Kd.R_new' (Kd.R_new' ho0 (Kd.R_lt (by (with_reducible repeat (first|apply Kd.R_alloc|apply Kd.R_drewN|apply Kd.R_drew));exact (Kd.R_mono (Kd.R_far (p:=⟨gb316,2,none⟩) (Kd.R_far (p:=⟨gb316,1,none⟩) (Kd.R_far (p:=⟨gb316,0,none⟩) (Kd.R_types HO301.out BK316.out (by decide)) (fun _ hk=>hk.2) (.slice Ao37 t308.length co37)) (fun _ hk=>hk.2) (.slice Ao42 t311.length co42)) (fun _ hk=>hk.2) (.int .i64 t314)) (fun _ h_=>h_.1))))) (Kd.R_lt (by (with_reducible repeat (first|apply Kd.R_alloc|apply Kd.R_drewN|apply Kd.R_drew));exact (Kd.R_mono (Kd.R_far (p:=⟨gb316,2,none⟩) (Kd.R_far (p:=⟨gb316,1,none⟩) (Kd.R_far (p:=⟨gb316,0,none⟩) (Kd.R_types HO310.out BK316.out (by decide)) (fun _ hk=>hk.2) (.slice Ao37 t308.length co37)) (fun _ hk=>hk.2) (.slice Ao42 t311.length co42)) (fun _ hk=>hk.2) (.int .i64 t314)) (fun _ h_=>h_.1))))) (below_size (by repeat (first|(with_reducible first|exact HB.out|apply below_alloc|apply pw_below_drewN|apply below_drew1|refine below_set ?_ GE297.out|refine below_set ?_ GE298.out|refine below_set ?_ GE307.out|refine below_set ?_ GE316.out)|exact HB.out))));have n5_:=Aside0.mk (Kd.R_lower (Kd.R_new' (Kd.R_new' ho1 (Kd.R_lt (by (with_reducible repeat (first|apply Kd.R_alloc|apply Kd.R_drewN|apply Kd.R_drew));exact (Kd.R_mono (Kd.R_far (p:=⟨gb316,2,none⟩) (Kd.R_far (p:=⟨gb316,1,none⟩) (Kd.R_far (p:=⟨gb316,0,none⟩) (Kd.R_types HO304.out BK316.out (by decide)) (fun _ hk=>hk.2) (.slice Ao37 t308.length co37)) (fun _ hk=>hk.2) (.slice Ao42 t311.length co42)) (fun _ hk=>hk.2) (.int .i64 t314)) (fun _ h_=>h_.1))))) (Kd.R_lt (by (with_reducible repeat (first|apply Kd.R_alloc|apply Kd.R_drewN|apply Kd.R_drew));exact (Kd.R_mono (Kd.R_far (p:=⟨gb316,2,none⟩) (Kd.R_far (p:=⟨gb316,1,none⟩) (Kd.R_far (p:=⟨gb316,0,none⟩) (Kd.R_types HO313.out BK316.out (by decide)) (fun _ hk=>hk.2) (.slice Ao37 t308.length co37)) (fun _ hk=>hk.2) (.slice Ao42 t311.length co42)) (fun _ hk=>hk.2) (.int .i64 t314)) (fun _ h_=>h_.1))))) (below_size (by repeat (first|(with_reducible first|exact HB.out|apply below_alloc|apply pw_below_drewN|apply below_drew1|refine below_set ?_ GE297.out|refine below_set ?_ GE298.out|refine below_set ?_ GE307.out|refine below_set ?_ GE316.out)|exact HB.out))));have n6_:=Aside0.mk (blk_below (g:=gb297) (o:=.cells #[.slice A0_0 l0_0.length c0_0,.slice A0_1 l0_1.length c0_1,.int .i64 a0_2] 25 (0,0)) (by (with_reducible repeat (first|refine blk_drewN ?_ _|refine blk_drew ?_|refine blk_alloc ?_ _));refine blk_far ?_ NB297_316.out _;(with_reducible repeat (first|refine blk_drewN ?_ _|refine blk_drew ?_|refine blk_alloc ?_ _));refine blk_far ?_ NB297_316.out _;(with_reducible repeat (first|refine blk_drewN ?_ _|refine blk_drew ?_|refine blk_alloc ?_ _));refine blk_far ?_ NB297_316.out _;(with_reducible repeat (first|refine blk_drewN ?_ _|refine blk_drew ?_|refine blk_alloc ?_ _));exact BK297.out) hb);have n7_:=Aside0.mk (blk_below (g:=gb298) (o:=.cells #[.slice A1_0 l1_0.length c1_0,.slice A1_1 l1_1.length c1_1,.int .i64 a1_2] 25 (0,0)) (by (with_reducible repeat (first|refine blk_drewN ?_ _|refine blk_drew ?_|refine blk_alloc ?_ _));refine blk_far ?_ NB298_316.out _;(with_reducible repeat (first|refine blk_drewN ?_ _|refine blk_drew ?_|refine blk_alloc ?_ _));refine blk_far ?_ NB298_316.out _;(with_reducible repeat (first|refine blk_drewN ?_ _|refine blk_drew ?_|refine blk_alloc ?_ _));refine blk_far ?_ NB298_316.out _;(with_reducible repeat (first|refine blk_drewN ?_ _|refine blk_drew ?_|refine blk_alloc ?_ _));exact BK298.out) hb);have n8_:=Aside0.mk (blk_below (g:=gb307) (o:=.cells #[.slice Ao30 t299.length co30,.slice Ao34 t302.length co34,.int .i64 t305] 25 (0,0)) (by (with_reducible repeat (first|refine blk_drewN ?_ _|refine blk_drew ?_|refine blk_alloc ?_ _));refine blk_far ?_ NB307_316.out _;(with_reducible repeat (first|refine blk_drewN ?_ _|refine blk_drew ?_|refine blk_alloc ?_ _));refine blk_far ?_ NB307_316.out _;(with_reducible repeat (first|refine blk_drewN ?_ _|refine blk_drew ?_|refine blk_alloc ?_ _));refine blk_far ?_ NB307_316.out _;(with_reducible repeat (first|refine blk_drewN ?_ _|refine blk_drew ?_|refine blk_alloc ?_ _));exact BK307.out) hb);have n9_:=Aside0.mk (blk_below (g:=gb316) (o:=.cells #[.slice Ao37 t308.length co37,.slice Ao42 t311.length co42,.int .i64 t314] 25 (0,0)) (by (with_reducible repeat (first|refine blk_drewN ?_ _|refine blk_drew ?_|refine blk_alloc ?_ _));refine blk_put (cs:=#[.slice Ao37 t308.length co37,.slice Ao42 t311.length co42,.int .i64 0]) ?_ 2 _ rfl;(with_reducible repeat (first|refine blk_drewN ?_ _|refine blk_drew ?_|refine blk_alloc ?_ _));refine blk_put (cs:=#[.slice Ao37 t308.length co37,.slice none 0 0,.int .i64 0]) ?_ 1 _ rfl;(with_reducible repeat (first|refine blk_drewN ?_ _|refine blk_drew ?_|refine blk_alloc ?_ _));refine blk_put (cs:=#[.slice none 0 0,.slice none 0 0,.int .i64 0]) ?_ 0 _ rfl;(with_reducible repeat (first|refine blk_drewN ?_ _|refine blk_drew ?_|refine blk_alloc ?_ _));exact BK316.out) hb);have n10_:=Aside0.mk (below_step (by repeat (first|(with_reducible first|exact HB.out|apply below_alloc|apply pw_below_drewN|apply below_drew1|refine below_set ?_ GE297.out|refine below_set ?_ GE298.out|refine below_set ?_ GE307.out|refine below_set ?_ GE316.out)|exact HB.out)) hb);clear HO301 HO304 HO310 HO313 BK297 BK298 BK307 BK316 HB;have HO301:=n0_;have HO304:=n1_;have HO310:=n2_;have HO313:=n3_;have HO319:=n4_;have HO322:=n5_;have BK297:=n6_;have BK298:=n7_;have BK307:=n8_;have BK316:=n9_;have HB:=n10_;clear n0_ n1_ n2_ n3_ n4_ n5_ n6_ n7_ n8_ n9_ n10_;(try clear hb);(try clear hb2);(try clear hk);(try clear hi);(try clear ho0);(try clear ho1))|((with_reducible refine gate_dst (N:=11) rfl ?_);refine box_event ?hg (N:=11) ?hd (cs:=#[.slice none 0 0,.slice none 0 0,.int .i64 0]) (t:=25) ?hr ?_;(case hd=>rfl);(case hg=>rfl);(case hr=>first|(go_simp;done)|(go_simp;rfl));intro gb325 hg w47 hbox hb;have n0_:=Aside0.mk (Kd.R_below (by (with_reducible repeat (first|apply Kd.R_alloc|apply Kd.R_drewN|apply Kd.R_drew));exact HO301.out) hb);have n1_:=Aside0.mk (Kd.R_below (by (with_reducible repeat (first|apply Kd.R_alloc|apply Kd.R_drewN|apply Kd.R_drew));exact HO304.out) hb);have n2_:=Aside0.mk (Kd.R_below (by (with_reducible repeat (first|apply Kd.R_alloc|apply Kd.R_drewN|apply Kd.R_drew));exact HO310.out) hb);have n3_:=Aside0.mk (Kd.R_below (by (with_reducible repeat (first|apply Kd.R_alloc|apply Kd.R_drewN|apply Kd.R_drew));exact HO313.out) hb);have n4_:=Aside0.mk (Kd.R_below (by (with_reducible repeat (first|apply Kd.R_alloc|apply Kd.R_drewN|apply Kd.R_drew));exact HO319.out) hb);have n5_:=Aside0.mk (Kd.R_below (by (with_reducible repeat (first|apply Kd.R_alloc|apply Kd.R_drewN|apply Kd.R_drew));exact HO322.out) hb);have n6_:=Aside0.mk (blk_below (g:=gb297) (o:=.cells #[.slice A0_0 l0_0.length c0_0,.slice A0_1 l0_1.length c0_1,.int .i64 a0_2] 25 (0,0)) (by (with_reducible repeat (first|refine blk_drewN ?_ _|refine blk_drew ?_|refine blk_alloc ?_ _));exact BK297.out) hb);have n7_:=Aside0.mk (blk_below (g:=gb298) (o:=.cells #[.slice A1_0 l1_0.length c1_0,.slice A1_1 l1_1.length c1_1,.int .i64 a1_2] 25 (0,0)) (by (with_reducible repeat (first|refine blk_drewN ?_ _|refine blk_drew ?_|refine blk_alloc ?_ _));exact BK298.out) hb);have n8_:=Aside0.mk (blk_below (g:=gb307) (o:=.cells #[.slice Ao30 t299.length co30,.slice Ao34 t302.length co34,.int .i64 t305] 25 (0,0)) (by (with_reducible repeat (first|refine blk_drewN ?_ _|refine blk_drew ?_|refine blk_alloc ?_ _));exact BK307.out) hb);have n9_:=Aside0.mk (blk_below (g:=gb316) (o:=.cells #[.slice Ao37 t308.length co37,.slice Ao42 t311.length co42,.int .i64 t314] 25 (0,0)) (by (with_reducible repeat (first|refine blk_drewN ?_ _|refine blk_drew ?_|refine blk_alloc ?_ _));exact BK316.out) hb);have n10_:=Aside0.mk (below_step (by repeat (first|(with_reducible first|exact HB.out|apply below_alloc|apply pw_below_drewN|apply below_drew1|refine below_set ?_ GE297.out|refine below_set ?_ GE298.out|refine below_set ?_ GE307.out|refine below_set ?_ GE316.out)|exact HB.out)) hb);have n11_:=Aside0.mk (hbox);have n12_:=Aside0.mk ((by rw [hg];exact (below_size (by repeat (first|(with_reducible first|exact HB.out|apply below_alloc|apply pw_below_drewN|apply below_drew1|refine below_set ?_ GE297.out|refine below_set ?_ GE298.out|refine below_set ?_ GE307.out|refine below_set ?_ GE316.out)|exact HB.out))):w.heap.size≤gb325));have n13_:=Aside0.mk ((by rw [hg];exact (below_size (by repeat (first|(with_reducible first|exact HB.out|apply below_alloc|apply pw_below_drewN|apply below_drew1|refine below_set ?_ GE297.out|refine below_set ?_ GE298.out|refine below_set ?_ GE307.out|refine below_set ?_ GE316.out)|exact HB.out))):w.heap.size≤gb325));have n14_:=Aside0.mk ((by rw [hg];exact Nat.ne_of_lt (blk_lt (g:=gb297) (o:=.cells #[.slice A0_0 l0_0.length c0_0,.slice A0_1 l0_1.length c0_1,.int .i64 a0_2] 25 (0,0)) (by (with_reducible repeat (first|refine blk_drewN ?_ _|refine blk_drew ?_|refine blk_alloc ?_ _));exact BK297.out)):gb297≠gb325));have n15_:=Aside0.mk ((by rw [hg];exact Nat.ne_of_gt (blk_lt (g:=gb297) (o:=.cells #[.slice A0_0 l0_0.length c0_0,.slice A0_1 l0_1.length c0_1,.int .i64 a0_2] 25 (0,0)) (by (with_reducible repeat (first|refine blk_drewN ?_ _|refine blk_drew ?_|refine blk_alloc ?_ _));exact BK297.out)):gb325≠gb297));have n16_:=Aside0.mk ((by rw [hg];exact Nat.ne_of_lt (blk_lt (g:=gb298) (o:=.cells #[.slice A1_0 l1_0.length c1_0,.slice A1_1 l1_1.length c1_1,.int .i64 a1_2] 25 (0,0)) (by (with_reducible repeat (first|refine blk_drewN ?_ _|refine blk_drew ?_|refine blk_alloc ?_ _));exact BK298.out)):gb298≠gb325));have n17_:=Aside0.mk ((by rw [hg];exact Nat.ne_of_gt (blk_lt (g:=gb298) (o:=.cells #[.slice A1_0 l1_0.length c1_0,.slice A1_1 l1_1.length c1_1,.int .i64 a1_2] 25 (0,0)) (by (with_reducible repeat (first|refine blk_drewN ?_ _|refine blk_drew ?_|refine blk_alloc ?_ _));exact BK298.out)):gb325≠gb298));have n18_:=Aside0.mk ((by rw [hg];exact Nat.ne_of_lt (blk_lt (g:=gb307) (o:=.cells #[.slice Ao30 t299.length co30,.slice Ao34 t302.length co34,.int .i64 t305] 25 (0,0)) (by (with_reducible repeat (first|refine blk_drewN ?_ _|refine blk_drew ?_|refine blk_alloc ?_ _));exact BK307.out)):gb307≠gb325));have n19_:=Aside0.mk ((by rw [hg];exact Nat.ne_of_gt (blk_lt (g:=gb307) (o:=.cells #[.slice Ao30 t299.length co30,.slice Ao34 t302.length co34,.int .i64 t305] 25 (0,0)) (by (with_reducible repeat (first|refine blk_drewN ?_ _|refine blk_drew ?_|refine blk_alloc ?_ _));exact BK307.out)):gb325≠gb307));have n20_:=Aside0.mk ((by rw [hg];exact Nat.ne_of_lt (blk_lt (g:=gb316) (o:=.cells #[.slice Ao37 t308.length co37,.slice Ao42 t311.length co42,.int .i64 t314] 25 (0,0)) (by (with_reducible repeat (first|refine blk_drewN ?_ _|refine blk_drew ?_|refine blk_alloc ?_ _));exact BK316.out)):gb316≠gb325));have n21_:=Aside0.mk ((by rw [hg];exact Nat.ne_of_gt (blk_lt (g:=gb316) (o:=.cells #[.slice Ao37 t308.length co37,.slice Ao42 t311.length co42,.int .i64 t314] 25 (0,0)) (by (with_reducible repeat (first|refine blk_drewN ?_ _|refine blk_drew ?_|refine blk_alloc ?_ _));exact BK316.out)):gb325≠gb316));clear HO301 HO304 HO310 HO313 HO319 HO322 BK297 BK298 BK307 BK316 HB;have HO301:=n0_;have HO304:=n1_;have HO310:=n2_;have HO313:=n3_;have HO319:=n4_;have HO322:=n5_;have BK297:=n6_;have BK298:=n7_;have BK307:=n8_;have BK316:=n9_;have HB:=n10_;have BK325:=n11_;have GW325:=n12_;have GE325:=n13_;have NB297_325:=n14_;have NB325_297:=n15_;have NB298_325:=n16_;have NB325_298:=n17_;have NB307_325:=n18_;have NB325_307:=n19_;have NB316_325:=n20_;have NB325_316:=n21_;clear n0_ n1_ n2_ n3_ n4_ n5_ n6_ n7_ n8_ n9_ n10_ n11_ n12_ n13_ n14_ n15_ n16_ n17_ n18_ n19_ n20_ n21_;clear hb hbox hg;obtain ⟨Ao48,co48,eo48⟩:=Kd.R_slice HO319.out;subst eo48;have hnb49:=NB325_297.out;have hnc49:=NB297_325.out;have hnb50:=NB325_298.out;have hnc50:=NB298_325.out;have hnb51:=NB325_307.out;have hnc51:=NB307_325.out;have hnb52:=NB325_316.out;have hnc52:=NB316_325.out;have hcz53_0:w47.cell? ⟨gb325,0,none⟩=some (.slice none 0 0):=(blk_cell BK325.out 0).trans rfl;have hcz53_1:w47.cell? ⟨gb325,1,none⟩=some (.slice none 0 0):=(blk_cell BK325.out 1).trans rfl;have hcz53_2:w47.cell? ⟨gb325,2,none⟩=some (.int .i64 0):=(blk_cell BK325.out 2).trans rfl;have hfz53_0:=blk_frozen BK325.out 0;have hfz53_1:=blk_frozen BK325.out 1;have hfz53_2:=blk_frozen BK325.out 2;obtain ⟨Ao54,co54,eo54⟩:=Kd.R_slice HO322.out;subst eo54;have hcz55_0:w47.cell? ⟨gb297,0,none⟩=some (.slice A0_0 l0_0.length c0_0):=(blk_cell BK297.out 0).trans rfl;have hcz55_1:w47.cell? ⟨gb297,1,none⟩=some (.slice A0_1 l0_1.length c0_1):=(blk_cell BK297.out 1).trans rfl;have hcz55_2:w47.cell? ⟨gb297,2,none⟩=some (.int .i64 a0_2):=(blk_cell BK297.out 2).trans rfl;have hfz55_0:=blk_frozen BK297.out 0;have hfz55_1:=blk_frozen BK297.out 1;have hfz55_2:=blk_frozen BK297.out 2;have hcz56_0:w47.cell? ⟨gb298,0,none⟩=some (.slice A1_0 l1_0.length c1_0):=(blk_cell BK298.out 0).trans rfl;have hcz56_1:w47.cell? ⟨gb298,1,none⟩=some (.slice A1_1 l1_1.length c1_1):=(blk_cell BK298.out 1).trans rfl;have hcz56_2:w47.cell? ⟨gb298,2,none⟩=some (.int .i64 a1_2):=(blk_cell BK298.out 2).trans rfl;have hfz56_0:=blk_frozen BK298.out 0;have hfz56_1:=blk_frozen BK298.out 1;have hfz56_2:=blk_frozen BK298.out 2)|((with_reducible refine gate_callee (f:=14) rfl ?_);refine goesL_ (some 34) rfl rfl Try.func14 (by kernel_rfl) rfl #[.agg #[.slice A0_0 l0_0.length c0_0,.slice A0_1 l0_1.length c0_1,.int .i64 a0_2],.agg #[.slice A1_0 l1_0.length c1_0,.slice A1_1 l1_1.length c1_1,.int .i64 a1_2]] rfl (by (try simp only [List.map_toArray,List.map_cons,List.map_nil]);first|done|rfl|(simp only [List.length_drop,List.length_take];rfl)) ?_;(with_reducible refine (slipwayref06_Join.calls k _ _ l0_0 _ _ l0_1 a0_2 _ _ l1_0 _ _ l1_1 a1_2 t326 t329 t332 t333 _ ?side1 ?side2 ?side3 ?side4 ?side5 ?side6 ?side7 ?side8 A7.out).mono ?_);(case side1=>exact Kd.C_below HR0_0.out (by repeat (first|(with_reducible first|exact HB.out|apply below_alloc|apply pw_below_drewN|apply below_drew1|refine below_set ?_ GE297.out|refine below_set ?_ GE298.out|refine below_set ?_ GE307.out|refine below_set ?_ GE316.out|refine below_set ?_ GE325.out)|exact HB.out)));(case side2=>exact HC0_0.out);(case side3=>exact Kd.C_below HR0_1.out (by repeat (first|(with_reducible first|exact HB.out|apply below_alloc|apply pw_below_drewN|apply below_drew1|refine below_set ?_ GE297.out|refine below_set ?_ GE298.out|refine below_set ?_ GE307.out|refine below_set ?_ GE316.out|refine below_set ?_ GE325.out)|exact HB.out)));(case side4=>exact HC0_1.out);(case side5=>exact Kd.C_below HR1_0.out (by repeat (first|(with_reducible first|exact HB.out|apply below_alloc|apply pw_below_drewN|apply below_drew1|refine below_set ?_ GE297.out|refine below_set ?_ GE298.out|refine below_set ?_ GE307.out|refine below_set ?_ GE316.out|refine below_set ?_ GE325.out)|exact HB.out)));(case side6=>exact HC1_0.out);(case side7=>exact Kd.C_below HR1_1.out (by repeat (first|(with_reducible first|exact HB.out|apply below_alloc|apply pw_below_drewN|apply below_drew1|refine below_set ?_ GE297.out|refine below_set ?_ GE298.out|refine below_set ?_ GE307.out|refine below_set ?_ GE316.out|refine below_set ?_ GE325.out)|exact HB.out)));(case side8=>exact HC1_1.out);rintro e w57 ⟨v327,v330,rfl,ho0,ho1,hb⟩;refine ⟨_,rfl,?_⟩;have n0_:=Aside0.mk (Kd.R_elder' (by (with_reducible repeat (first|apply Kd.R_alloc|apply Kd.R_drewN|apply Kd.R_drew));exact (Kd.R_mono (Kd.R_far (p:=⟨gb325,2,none⟩) (Kd.R_far (p:=⟨gb325,1,none⟩) (Kd.R_far (p:=⟨gb325,0,none⟩) (Kd.R_types HO301.out BK325.out (by decide)) (fun _ hk=>hk.2) (.slice Ao48 t317.length co48)) (fun _ hk=>hk.2) (.slice Ao54 t320.length co54)) (fun _ hk=>hk.2) (.int .i64 t323)) (fun _ h_=>h_.1))) (Kd.R_base ho0) hb);have n1_:=Aside0.mk (Kd.R_elder' (by (with_reducible repeat (first|apply Kd.R_alloc|apply Kd.R_drewN|apply Kd.R_drew));exact (Kd.R_mono (Kd.R_far (p:=⟨gb325,2,none⟩) (Kd.R_far (p:=⟨gb325,1,none⟩) (Kd.R_far (p:=⟨gb325,0,none⟩) (Kd.R_types HO304.out BK325.out (by decide)) (fun _ hk=>hk.2) (.slice Ao48 t317.length co48)) (fun _ hk=>hk.2) (.slice Ao54 t320.length co54)) (fun _ hk=>hk.2) (.int .i64 t323)) (fun _ h_=>h_.1))) (Kd.R_base ho1) hb);have n2_:=Aside0.mk (Kd.R_elder' (by (with_reducible repeat (first|apply Kd.R_alloc|apply Kd.R_drewN|apply Kd.R_drew));exact (Kd.R_mono (Kd.R_far (p:=⟨gb325,2,none⟩) (Kd.R_far (p:=⟨gb325,1,none⟩) (Kd.R_far (p:=⟨gb325,0,none⟩) (Kd.R_types HO310.out BK325.out (by decide)) (fun _ hk=>hk.2) (.slice Ao48 t317.length co48)) (fun _ hk=>hk.2) (.slice Ao54 t320.length co54)) (fun _ hk=>hk.2) (.int .i64 t323)) (fun _ h_=>h_.1))) (Kd.R_base ho0) hb);have n3_:=Aside0.mk (Kd.R_elder' (by (with_reducible repeat (first|apply Kd.R_alloc|apply Kd.R_drewN|apply Kd.R_drew));exact (Kd.R_mono (Kd.R_far (p:=⟨gb325,2,none⟩) (Kd.R_far (p:=⟨gb325,1,none⟩) (Kd.R_far (p:=⟨gb325,0,none⟩) (Kd.R_types HO313.out BK325.out (by decide)) (fun _ hk=>hk.2) (.slice Ao48 t317.length co48)) (fun _ hk=>hk.2) (.slice Ao54 t320.length co54)) (fun _ hk=>hk.2) (.int .i64 t323)) (fun _ h_=>h_.1))) (Kd.R_base ho1) hb);have n4_:=Aside0.mk (Kd.R_elder' (by (with_reducible repeat (first|apply Kd.R_alloc|apply Kd.R_drewN|apply Kd.R_drew));exact (Kd.R_mono (Kd.R_far (p:=⟨gb325,2,none⟩) (Kd.R_far (p:=⟨gb325,1,none⟩) (Kd.R_far (p:=⟨gb325,0,none⟩) (Kd.R_types HO319.out BK325.out (by decide)) (fun _ hk=>hk.2) (.slice Ao48 t317.length co48)) (fun _ hk=>hk.2) (.slice Ao54 t320.length co54)) (fun _ hk=>hk.2) (.int .i64 t323)) (fun _ h_=>h_.1))) (Kd.R_base ho0) hb);have n5_:=Aside0.mk (Kd.R_elder' (by (with_reducible repeat (first|apply Kd.R_alloc|apply Kd.R_drewN|apply Kd.R_drew));exact (Kd.R_mono (Kd.R_far (p:=⟨gb325,2,none⟩) (Kd.R_far (p:=⟨gb325,1,none⟩) (Kd.R_far (p:=⟨gb325,0,none⟩) (Kd.R_types HO322.out BK325.out (by decide)) (fun _ hk=>hk.2) (.slice Ao48 t317.length co48)) (fun _ hk=>hk.2) (.slice Ao54 t320.length co54)) (fun _ hk=>hk.2) (.int .i64 t323)) (fun _ h_=>h_.1))) (Kd.R_base ho1) hb);have n6_:=Aside0.mk (Kd.R_lower (Kd.R_new' (Kd.R_new' (Kd.R_new' ho0 (Kd.R_lt (by (with_reducible repeat (first|apply Kd.R_alloc|apply Kd.R_drewN|apply Kd.R_drew));exact (Kd.R_mono (Kd.R_far (p:=⟨gb325,2,none⟩) (Kd.R_far (p:=⟨gb325,1,none⟩) (Kd.R_far (p:=⟨gb325,0,none⟩) (Kd.R_types HO301.out BK325.out (by decide)) (fun _ hk=>hk.2) (.slice Ao48 t317.length co48)) (fun _ hk=>hk.2) (.slice Ao54 t320.length co54)) (fun _ hk=>hk.2) (.int .i64 t323)) (fun _ h_=>h_.1))))) (Kd.R_lt (by (with_reducible repeat (first|apply Kd.R_alloc|apply Kd.R_drewN|apply Kd.R_drew));exact (Kd.R_mono (Kd.R_far (p:=⟨gb325,2,none⟩) (Kd.R_far (p:=⟨gb325,1,none⟩) (Kd.R_far (p:=⟨gb325,0,none⟩) (Kd.R_types HO310.out BK325.out (by decide)) (fun _ hk=>hk.2) (.slice Ao48 t317.length co48)) (fun _ hk=>hk.2) (.slice Ao54 t320.length co54)) (fun _ hk=>hk.2) (.int .i64 t323)) (fun _ h_=>h_.1))))) (Kd.R_lt (by (with_reducible repeat (first|apply Kd.R_alloc|apply Kd.R_drewN|apply Kd.R_drew));exact (Kd.R_mono (Kd.R_far (p:=⟨gb325,2,none⟩) (Kd.R_far (p:=⟨gb325,1,none⟩) (Kd.R_far (p:=⟨gb325,0,none⟩) (Kd.R_types HO319.out BK325.out (by decide)) (fun _ hk=>hk.2) (.slice Ao48 t317.length co48)) (fun _ hk=>hk.2) (.slice Ao54 t320.length co54)) (fun _ hk=>hk.2) (.int .i64 t323)) (fun _ h_=>h_.1))))) (below_size (by repeat (first|(with_reducible first|exact HB.out|apply below_alloc|apply pw_below_drewN|apply below_drew1|refine below_set ?_ GE297.out|refine below_set ?_ GE298.out|refine below_set ?_ GE307.out|refine below_set ?_ GE316.out|refine below_set ?_ GE325.out)|exact HB.out))));have n7_:=Aside0.mk (Kd.R_lower (Kd.R_new' (Kd.R_new' (Kd.R_new' ho1 (Kd.R_lt (by (with_reducible repeat (first|apply Kd.R_alloc|apply Kd.R_drewN|apply Kd.R_drew));exact (Kd.R_mono (Kd.R_far (p:=⟨gb325,2,none⟩) (Kd.R_far (p:=⟨gb325,1,none⟩) (Kd.R_far (p:=⟨gb325,0,none⟩) (Kd.R_types HO304.out BK325.out (by decide)) (fun _ hk=>hk.2) (.slice Ao48 t317.length co48)) (fun _ hk=>hk.2) (.slice Ao54 t320.length co54)) (fun _ hk=>hk.2) (.int .i64 t323)) (fun _ h_=>h_.1))))) (Kd.R_lt (by (with_reducible repeat (first|apply Kd.R_alloc|apply Kd.R_drewN|apply Kd.R_drew));exact (Kd.R_mono (Kd.R_far (p:=⟨gb325,2,none⟩) (Kd.R_far (p:=⟨gb325,1,none⟩) (Kd.R_far (p:=⟨gb325,0,none⟩) (Kd.R_types HO313.out BK325.out (by decide)) (fun _ hk=>hk.2) (.slice Ao48 t317.length co48)) (fun _ hk=>hk.2) (.slice Ao54 t320.length co54)) (fun _ hk=>hk.2) (.int .i64 t323)) (fun _ h_=>h_.1))))) (Kd.R_lt (by (with_reducible repeat (first|apply Kd.R_alloc|apply Kd.R_drewN|apply Kd.R_drew));exact (Kd.R_mono (Kd.R_far (p:=⟨gb325,2,none⟩) (Kd.R_far (p:=⟨gb325,1,none⟩) (Kd.R_far (p:=⟨gb325,0,none⟩) (Kd.R_types HO322.out BK325.out (by decide)) (fun _ hk=>hk.2) (.slice Ao48 t317.length co48)) (fun _ hk=>hk.2) (.slice Ao54 t320.length co54)) (fun _ hk=>hk.2) (.int .i64 t323)) (fun _ h_=>h_.1))))) (below_size (by repeat (first|(with_reducible first|exact HB.out|apply below_alloc|apply pw_below_drewN|apply below_drew1|refine below_set ?_ GE297.out|refine below_set ?_ GE298.out|refine below_set ?_ GE307.out|refine below_set ?_ GE316.out|refine below_set ?_ GE325.out)|exact HB.out))));have n8_:=Aside0.mk (blk_below (g:=gb297) (o:=.cells #[.slice A0_0 l0_0.length c0_0,.slice A0_1 l0_1.length c0_1,.int .i64 a0_2] 25 (0,0)) (by (with_reducible repeat (first|refine blk_drewN ?_ _|refine blk_drew ?_|refine blk_alloc ?_ _));refine blk_far ?_ NB297_325.out _;(with_reducible repeat (first|refine blk_drewN ?_ _|refine blk_drew ?_|refine blk_alloc ?_ _));refine blk_far ?_ NB297_325.out _;(with_reducible repeat (first|refine blk_drewN ?_ _|refine blk_drew ?_|refine blk_alloc ?_ _));refine blk_far ?_ NB297_325.out _;(with_reducible repeat (first|refine blk_drewN ?_ _|refine blk_drew ?_|refine blk_alloc ?_ _));exact BK297.out) hb);have n9_:=Aside0.mk (blk_below (g:=gb298) (o:=.cells #[.slice A1_0 l1_0.length c1_0,.slice A1_1 l1_1.length c1_1,.int .i64 a1_2] 25 (0,0)) (by (with_reducible repeat (first|refine blk_drewN ?_ _|refine blk_drew ?_|refine blk_alloc ?_ _));refine blk_far ?_ NB298_325.out _;(with_reducible repeat (first|refine blk_drewN ?_ _|refine blk_drew ?_|refine blk_alloc ?_ _));refine blk_far ?_ NB298_325.out _;(with_reducible repeat (first|refine blk_drewN ?_ _|refine blk_drew ?_|refine blk_alloc ?_ _));refine blk_far ?_ NB298_325.out _;(with_reducible repeat (first|refine blk_drewN ?_ _|refine blk_drew ?_|refine blk_alloc ?_ _));exact BK298.out) hb);have n10_:=Aside0.mk (blk_below (g:=gb307) (o:=.cells #[.slice Ao30 t299.length co30,.slice Ao34 t302.length co34,.int .i64 t305] 25 (0,0)) (by (with_reducible repeat (first|refine blk_drewN ?_ _|refine blk_drew ?_|refine blk_alloc ?_ _));refine blk_far ?_ NB307_325.out _;(with_reducible repeat (first|refine blk_drewN ?_ _|refine blk_drew ?_|refine blk_alloc ?_ _));refine blk_far ?_ NB307_325.out _;(with_reducible repeat (first|refine blk_drewN ?_ _|refine blk_drew ?_|refine blk_alloc ?_ _));refine blk_far ?_ NB307_325.out _;(with_reducible repeat (first|refine blk_drewN ?_ _|refine blk_drew ?_|refine blk_alloc ?_ _));exact BK307.out) hb);have n11_:=Aside0.mk (blk_below (g:=gb316) (o:=.cells #[.slice Ao37 t308.length co37,.slice Ao42 t311.length co42,.int .i64 t314] 25 (0,0)) (by (with_reducible repeat (first|refine blk_drewN ?_ _|refine blk_drew ?_|refine blk_alloc ?_ _));refine blk_far ?_ NB316_325.out _;(with_reducible repeat (first|refine blk_drewN ?_ _|refine blk_drew ?_|refine blk_alloc ?_ _));refine blk_far ?_ NB316_325.out _;(with_reducible repeat (first|refine blk_drewN ?_ _|refine blk_drew ?_|refine blk_alloc ?_ _));refine blk_far ?_ NB316_325.out _;(with_reducible repeat (first|refine blk_drewN ?_ _|refine blk_drew ?_|refine blk_alloc ?_ _));exact BK316.out) hb);have n12_:=Aside0.mk (blk_below (g:=gb325) (o:=.cells #[.slice Ao48 t317.length co48,.slice Ao54 t320.length co54,.int .i64 t323] 25 (0,0)) (by (with_reducible repeat (first|refine blk_drewN ?_ _|refine blk_drew ?_|refine blk_alloc ?_ _));refine blk_put (cs:=#[.slice Ao48 t317.length co48,.slice Ao54 t320.length co54,.int .i64 0]) ?_ 2 _ rfl;(with_reducible repeat (first|refine blk_drewN ?_ _|refine blk_drew ?_|refine blk_alloc ?_ _));refine blk_put (cs:=#[.slice Ao48 t317.length co48,.slice none 0 0,.int .i64 0]) ?_ 1 _ rfl;(with_reducible repeat (first|refine blk_drewN ?_ _|refine blk_drew ?_|refine blk_alloc ?_ _));refine blk_put (cs:=#[.slice none 0 0,.slice none 0 0,.int .i64 0]) ?_ 0 _ rfl;(with_reducible repeat (first|refine blk_drewN ?_ _|refine blk_drew ?_|refine blk_alloc ?_ _));exact BK325.out) hb);have n13_:=Aside0.mk (below_step (by repeat (first|(with_reducible first|exact HB.out|apply below_alloc|apply pw_below_drewN|apply below_drew1|refine below_set ?_ GE297.out|refine below_set ?_ GE298.out|refine below_set ?_ GE307.out|refine below_set ?_ GE316.out|refine below_set ?_ GE325.out)|exact HB.out)) hb);clear HO301 HO304 HO310 HO313 HO319 HO322 BK297 BK298 BK307 BK316 BK325 HB;have HO301:=n0_;have HO304:=n1_;have HO310:=n2_;have HO313:=n3_;have HO319:=n4_;have HO322:=n5_;have HO328:=n6_;have HO331:=n7_;have BK297:=n8_;have BK298:=n9_;have BK307:=n10_;have BK316:=n11_;have BK325:=n12_;have HB:=n13_;clear n0_ n1_ n2_ n3_ n4_ n5_ n6_ n7_ n8_ n9_ n10_ n11_ n12_ n13_;(try clear hb);(try clear hb2);(try clear hk);(try clear hi);(try clear ho0);(try clear ho1))|((with_reducible refine gate_dst (N:=13) rfl ?_);refine box_event ?hg (N:=13) ?hd (cs:=#[.slice none 0 0,.slice none 0 0,.int .i64 0]) (t:=25) ?hr ?_;(case hd=>rfl);(case hg=>rfl);(case hr=>first|(go_simp;done)|(go_simp;rfl));intro gb334 hg w58 hbox hb;have n0_:=Aside0.mk (Kd.R_below (by (with_reducible repeat (first|apply Kd.R_alloc|apply Kd.R_drewN|apply Kd.R_drew));exact HO301.out) hb);have n1_:=Aside0.mk (Kd.R_below (by (with_reducible repeat (first|apply Kd.R_alloc|apply Kd.R_drewN|apply Kd.R_drew));exact HO304.out) hb);have n2_:=Aside0.mk (Kd.R_below (by (with_reducible repeat (first|apply Kd.R_alloc|apply Kd.R_drewN|apply Kd.R_drew));exact HO310.out) hb);have n3_:=Aside0.mk (Kd.R_below (by (with_reducible repeat (first|apply Kd.R_alloc|apply Kd.R_drewN|apply Kd.R_drew));exact HO313.out) hb);have n4_:=Aside0.mk (Kd.R_below (by (with_reducible repeat (first|apply Kd.R_alloc|apply Kd.R_drewN|apply Kd.R_drew));exact HO319.out) hb);have n5_:=Aside0.mk (Kd.R_below (by (with_reducible repeat (first|apply Kd.R_alloc|apply Kd.R_drewN|apply Kd.R_drew));exact HO322.out) hb);have n6_:=Aside0.mk (Kd.R_below (by (with_reducible repeat (first|apply Kd.R_alloc|apply Kd.R_drewN|apply Kd.R_drew));exact HO328.out) hb);have n7_:=Aside0.mk (Kd.R_below (by (with_reducible repeat (first|apply Kd.R_alloc|apply Kd.R_drewN|apply Kd.R_drew));exact HO331.out) hb);have n8_:=Aside0.mk (blk_below (g:=gb297) (o:=.cells #[.slice A0_0 l0_0.length c0_0,.slice A0_1 l0_1.length c0_1,.int .i64 a0_2] 25 (0,0)) (by (with_reducible repeat (first|refine blk_drewN ?_ _|refine blk_drew ?_|refine blk_alloc ?_ _));exact BK297.out) hb);have n9_:=Aside0.mk (blk_below (g:=gb298) (o:=.cells #[.slice A1_0 l1_0.length c1_0,.slice A1_1 l1_1.length c1_1,.int .i64 a1_2] 25 (0,0)) (by (with_reducible repeat (first|refine blk_drewN ?_ _|refine blk_drew ?_|refine blk_alloc ?_ _));exact BK298.out) hb);have n10_:=Aside0.mk (blk_below (g:=gb307) (o:=.cells #[.slice Ao30 t299.length co30,.slice Ao34 t302.length co34,.int .i64 t305] 25 (0,0)) (by (with_reducible repeat (first|refine blk_drewN ?_ _|refine blk_drew ?_|refine blk_alloc ?_ _));exact BK307.out) hb);have n11_:=Aside0.mk (blk_below (g:=gb316) (o:=.cells #[.slice Ao37 t308.length co37,.slice Ao42 t311.length co42,.int .i64 t314] 25 (0,0)) (by (with_reducible repeat (first|refine blk_drewN ?_ _|refine blk_drew ?_|refine blk_alloc ?_ _));exact BK316.out) hb);have n12_:=Aside0.mk (blk_below (g:=gb325) (o:=.cells #[.slice Ao48 t317.length co48,.slice Ao54 t320.length co54,.int .i64 t323] 25 (0,0)) (by (with_reducible repeat (first|refine blk_drewN ?_ _|refine blk_drew ?_|refine blk_alloc ?_ _));exact BK325.out) hb);have n13_:=Aside0.mk (below_step (by repeat (first|(with_reducible first|exact HB.out|apply below_alloc|apply pw_below_drewN|apply below_drew1|refine below_set ?_ GE297.out|refine below_set ?_ GE298.out|refine below_set ?_ GE307.out|refine below_set ?_ GE316.out|refine below_set ?_ GE325.out)|exact HB.out)) hb);have n14_:=Aside0.mk (hbox);have n15_:=Aside0.mk ((by rw [hg];exact (below_size (by repeat (first|(with_reducible first|exact HB.out|apply below_alloc|apply pw_below_drewN|apply below_drew1|refine below_set ?_ GE297.out|refine below_set ?_ GE298.out|refine below_set ?_ GE307.out|refine below_set ?_ GE316.out|refine below_set ?_ GE325.out)|exact HB.out))):w.heap.size≤gb334));have n16_:=Aside0.mk ((by rw [hg];exact (below_size (by repeat (first|(with_reducible first|exact HB.out|apply below_alloc|apply pw_below_drewN|apply below_drew1|refine below_set ?_ GE297.out|refine below_set ?_ GE298.out|refine below_set ?_ GE307.out|refine below_set ?_ GE316.out|refine below_set ?_ GE325.out)|exact HB.out))):w.heap.size≤gb334));have n17_:=Aside0.mk ((by rw [hg];exact Nat.ne_of_lt (blk_lt (g:=gb297) (o:=.cells #[.slice A0_0 l0_0.length c0_0,.slice A0_1 l0_1.length c0_1,.int .i64 a0_2] 25 (0,0)) (by (with_reducible repeat (first|refine blk_drewN ?_ _|refine blk_drew ?_|refine blk_alloc ?_ _));exact BK297.out)):gb297≠gb334));have n18_:=Aside0.mk ((by rw [hg];exact Nat.ne_of_gt (blk_lt (g:=gb297) (o:=.cells #[.slice A0_0 l0_0.length c0_0,.slice A0_1 l0_1.length c0_1,.int .i64 a0_2] 25 (0,0)) (by (with_reducible repeat (first|refine blk_drewN ?_ _|refine blk_drew ?_|refine blk_alloc ?_ _));exact BK297.out)):gb334≠gb297));have n19_:=Aside0.mk ((by rw [hg];exact Nat.ne_of_lt (blk_lt (g:=gb298) (o:=.cells #[.slice A1_0 l1_0.length c1_0,.slice A1_1 l1_1.length c1_1,.int .i64 a1_2] 25 (0,0)) (by (with_reducible repeat (first|refine blk_drewN ?_ _|refine blk_drew ?_|refine blk_alloc ?_ _));exact BK298.out)):gb298≠gb334));have n20_:=Aside0.mk ((by rw [hg];exact Nat.ne_of_gt (blk_lt (g:=gb298) (o:=.cells #[.slice A1_0 l1_0.length c1_0,.slice A1_1 l1_1.length c1_1,.int .i64 a1_2] 25 (0,0)) (by (with_reducible repeat (first|refine blk_drewN ?_ _|refine blk_drew ?_|refine blk_alloc ?_ _));exact BK298.out)):gb334≠gb298));have n21_:=Aside0.mk ((by rw [hg];exact Nat.ne_of_lt (blk_lt (g:=gb307) (o:=.cells #[.slice Ao30 t299.length co30,.slice Ao34 t302.length co34,.int .i64 t305] 25 (0,0)) (by (with_reducible repeat (first|refine blk_drewN ?_ _|refine blk_drew ?_|refine blk_alloc ?_ _));exact BK307.out)):gb307≠gb334));have n22_:=Aside0.mk ((by rw [hg];exact Nat.ne_of_gt (blk_lt (g:=gb307) (o:=.cells #[.slice Ao30 t299.length co30,.slice Ao34 t302.length co34,.int .i64 t305] 25 (0,0)) (by (with_reducible repeat (first|refine blk_drewN ?_ _|refine blk_drew ?_|refine blk_alloc ?_ _));exact BK307.out)):gb334≠gb307));have n23_:=Aside0.mk ((by rw [hg];exact Nat.ne_of_lt (blk_lt (g:=gb316) (o:=.cells #[.slice Ao37 t308.length co37,.slice Ao42 t311.length co42,.int .i64 t314] 25 (0,0)) (by (with_reducible repeat (first|refine blk_drewN ?_ _|refine blk_drew ?_|refine blk_alloc ?_ _));exact BK316.out)):gb316≠gb334));have n24_:=Aside0.mk ((by rw [hg];exact Nat.ne_of_gt (blk_lt (g:=gb316) (o:=.cells #[.slice Ao37 t308.length co37,.slice Ao42 t311.length co42,.int .i64 t314] 25 (0,0)) (by (with_reducible repeat (first|refine blk_drewN ?_ _|refine blk_drew ?_|refine blk_alloc ?_ _));exact BK316.out)):gb334≠gb316));have n25_:=Aside0.mk ((by rw [hg];exact Nat.ne_of_lt (blk_lt (g:=gb325) (o:=.cells #[.slice Ao48 t317.length co48,.slice Ao54 t320.length co54,.int .i64 t323] 25 (0,0)) (by (with_reducible repeat (first|refine blk_drewN ?_ _|refine blk_drew ?_|refine blk_alloc ?_ _));exact BK325.out)):gb325≠gb334));have n26_:=Aside0.mk ((by rw [hg];exact Nat.ne_of_gt (blk_lt (g:=gb325) (o:=.cells #[.slice Ao48 t317.length co48,.slice Ao54 t320.length co54,.int .i64 t323] 25 (0,0)) (by (with_reducible repeat (first|refine blk_drewN ?_ _|refine blk_drew ?_|refine blk_alloc ?_ _));exact BK325.out)):gb334≠gb325));clear HO301 HO304 HO310 HO313 HO319 HO322 HO328 HO331 BK297 BK298 BK307 BK316 BK325 HB;have HO301:=n0_;have HO304:=n1_;have HO310:=n2_;have HO313:=n3_;have HO319:=n4_;have HO322:=n5_;have HO328:=n6_;have HO331:=n7_;have BK297:=n8_;have BK298:=n9_;have BK307:=n10_;have BK316:=n11_;have BK325:=n12_;have HB:=n13_;have BK334:=n14_;have GW334:=n15_;have GE334:=n16_;have NB297_334:=n17_;have NB334_297:=n18_;have NB298_334:=n19_;have NB334_298:=n20_;have NB307_334:=n21_;have NB334_307:=n22_;have NB316_334:=n23_;have NB334_316:=n24_;have NB325_334:=n25_;have NB334_325:=n26_;clear n0_ n1_ n2_ n3_ n4_ n5_ n6_ n7_ n8_ n9_ n10_ n11_ n12_ n13_ n14_ n15_ n16_ n17_ n18_ n19_ n20_ n21_ n22_ n23_ n24_ n25_ n26_;clear hb hbox hg;obtain ⟨Ao59,co59,eo59⟩:=Kd.R_slice HO328.out;subst eo59;have hnb60:=NB334_297.out;have hnc60:=NB297_334.out;have hnb61:=NB334_298.out;have hnc61:=NB298_334.out;have hnb62:=NB334_307.out;have hnc62:=NB307_334.out;have hnb63:=NB334_316.out;have hnc63:=NB316_334.out;have hnb64:=NB334_325.out;have hnc64:=NB325_334.out;have hcz65_0:w58.cell? ⟨gb334,0,none⟩=some (.slice none 0 0):=(blk_cell BK334.out 0).trans rfl;have hcz65_1:w58.cell? ⟨gb334,1,none⟩=some (.slice none 0 0):=(blk_cell BK334.out 1).trans rfl;have hcz65_2:w58.cell? ⟨gb334,2,none⟩=some (.int .i64 0):=(blk_cell BK334.out 2).trans rfl;have hfz65_0:=blk_frozen BK334.out 0;have hfz65_1:=blk_frozen BK334.out 1;have hfz65_2:=blk_frozen BK334.out 2;obtain ⟨Ao66,co66,eo66⟩:=Kd.R_slice HO331.out;subst eo66))
         have n0_:Aside0 (Kd.R Kd.bool 4 (((w58.setCell ⟨gb334,0,none⟩ (.slice Ao59 t326.length co59)).setCell ⟨gb334,1,none⟩ (.slice Ao66 t329.length co66)).setCell ⟨gb334,2,none⟩ (.int .i64 t332)) w.heap.size (fun k_=>some k_≠(.slice Ao37 t308.length co37:Value).ownBlock∧some k_≠(.slice Ao48 t317.length co48:Value).ownBlock∧some k_≠(.slice Ao59 t326.length co59:Value).ownBlock) (.slice Ao30 t299.length co30) t299):=⟨by (with_reducible repeat (first|apply Kd.R_alloc|apply Kd.R_drewN|apply Kd.R_drew));exact Kd.R_mono (Kd.R_far (p:=⟨gb334,2,none⟩) (Kd.R_far (p:=⟨gb334,1,none⟩) (Kd.R_far (p:=⟨gb334,0,none⟩) (Kd.R_types HO301.out BK334.out (by decide)) (fun _ hk=>hk.2) (.slice Ao59 t326.length co59)) (fun _ hk=>hk.2) (.slice Ao66 t329.length co66)) (fun _ hk=>hk.2) (.int .i64 t332)) (fun _ hk=>⟨hk.1.1.1.2,⟨hk.1.1.2,hk.1.2⟩⟩)⟩
         have n1_:Aside0 (Kd.R (Kd.int .i64) 2 (((w58.setCell ⟨gb334,0,none⟩ (.slice Ao59 t326.length co59)).setCell ⟨gb334,1,none⟩ (.slice Ao66 t329.length co66)).setCell ⟨gb334,2,none⟩ (.int .i64 t332)) w.heap.size (fun k_=>some k_≠(.slice Ao42 t311.length co42:Value).ownBlock∧some k_≠(.slice Ao54 t320.length co54:Value).ownBlock∧some k_≠(.slice Ao66 t329.length co66:Value).ownBlock) (.slice Ao34 t302.length co34) t302):=⟨by (with_reducible repeat (first|apply Kd.R_alloc|apply Kd.R_drewN|apply Kd.R_drew));exact Kd.R_mono (Kd.R_far (p:=⟨gb334,2,none⟩) (Kd.R_far (p:=⟨gb334,1,none⟩) (Kd.R_far (p:=⟨gb334,0,none⟩) (Kd.R_types HO304.out BK334.out (by decide)) (fun _ hk=>hk.2) (.slice Ao59 t326.length co59)) (fun _ hk=>hk.2) (.slice Ao66 t329.length co66)) (fun _ hk=>hk.2) (.int .i64 t332)) (fun _ hk=>⟨hk.1.1.1.2,⟨hk.1.1.2,hk.1.2⟩⟩)⟩
         have n2_:Aside0 (Kd.R Kd.bool 4 (((w58.setCell ⟨gb334,0,none⟩ (.slice Ao59 t326.length co59)).setCell ⟨gb334,1,none⟩ (.slice Ao66 t329.length co66)).setCell ⟨gb334,2,none⟩ (.int .i64 t332)) w.heap.size (fun k_=>some k_≠(.slice Ao30 t299.length co30:Value).ownBlock∧some k_≠(.slice Ao48 t317.length co48:Value).ownBlock∧some k_≠(.slice Ao59 t326.length co59:Value).ownBlock) (.slice Ao37 t308.length co37) t308):=⟨by (with_reducible repeat (first|apply Kd.R_alloc|apply Kd.R_drewN|apply Kd.R_drew));exact Kd.R_mono (Kd.R_far (p:=⟨gb334,2,none⟩) (Kd.R_far (p:=⟨gb334,1,none⟩) (Kd.R_far (p:=⟨gb334,0,none⟩) (Kd.R_types HO310.out BK334.out (by decide)) (fun _ hk=>hk.2) (.slice Ao59 t326.length co59)) (fun _ hk=>hk.2) (.slice Ao66 t329.length co66)) (fun _ hk=>hk.2) (.int .i64 t332)) (fun _ hk=>⟨hk.1.1.1.2,⟨hk.1.1.2,hk.1.2⟩⟩)⟩
         have n3_:Aside0 (Kd.R (Kd.int .i64) 2 (((w58.setCell ⟨gb334,0,none⟩ (.slice Ao59 t326.length co59)).setCell ⟨gb334,1,none⟩ (.slice Ao66 t329.length co66)).setCell ⟨gb334,2,none⟩ (.int .i64 t332)) w.heap.size (fun k_=>some k_≠(.slice Ao34 t302.length co34:Value).ownBlock∧some k_≠(.slice Ao54 t320.length co54:Value).ownBlock∧some k_≠(.slice Ao66 t329.length co66:Value).ownBlock) (.slice Ao42 t311.length co42) t311):=⟨by (with_reducible repeat (first|apply Kd.R_alloc|apply Kd.R_drewN|apply Kd.R_drew));exact Kd.R_mono (Kd.R_far (p:=⟨gb334,2,none⟩) (Kd.R_far (p:=⟨gb334,1,none⟩) (Kd.R_far (p:=⟨gb334,0,none⟩) (Kd.R_types HO313.out BK334.out (by decide)) (fun _ hk=>hk.2) (.slice Ao59 t326.length co59)) (fun _ hk=>hk.2) (.slice Ao66 t329.length co66)) (fun _ hk=>hk.2) (.int .i64 t332)) (fun _ hk=>⟨hk.1.1.1.2,⟨hk.1.1.2,hk.1.2⟩⟩)⟩
         have n4_:Aside0 (Kd.R Kd.bool 4 (((w58.setCell ⟨gb334,0,none⟩ (.slice Ao59 t326.length co59)).setCell ⟨gb334,1,none⟩ (.slice Ao66 t329.length co66)).setCell ⟨gb334,2,none⟩ (.int .i64 t332)) w.heap.size (fun k_=>some k_≠(.slice Ao30 t299.length co30:Value).ownBlock∧some k_≠(.slice Ao37 t308.length co37:Value).ownBlock∧some k_≠(.slice Ao59 t326.length co59:Value).ownBlock) (.slice Ao48 t317.length co48) t317):=⟨by (with_reducible repeat (first|apply Kd.R_alloc|apply Kd.R_drewN|apply Kd.R_drew));exact Kd.R_mono (Kd.R_far (p:=⟨gb334,2,none⟩) (Kd.R_far (p:=⟨gb334,1,none⟩) (Kd.R_far (p:=⟨gb334,0,none⟩) (Kd.R_types HO319.out BK334.out (by decide)) (fun _ hk=>hk.2) (.slice Ao59 t326.length co59)) (fun _ hk=>hk.2) (.slice Ao66 t329.length co66)) (fun _ hk=>hk.2) (.int .i64 t332)) (fun _ hk=>⟨hk.1.1.1.2,⟨hk.1.1.2,hk.1.2⟩⟩)⟩
         have n5_:Aside0 (Kd.R (Kd.int .i64) 2 (((w58.setCell ⟨gb334,0,none⟩ (.slice Ao59 t326.length co59)).setCell ⟨gb334,1,none⟩ (.slice Ao66 t329.length co66)).setCell ⟨gb334,2,none⟩ (.int .i64 t332)) w.heap.size (fun k_=>some k_≠(.slice Ao34 t302.length co34:Value).ownBlock∧some k_≠(.slice Ao42 t311.length co42:Value).ownBlock∧some k_≠(.slice Ao66 t329.length co66:Value).ownBlock) (.slice Ao54 t320.length co54) t320):=⟨by (with_reducible repeat (first|apply Kd.R_alloc|apply Kd.R_drewN|apply Kd.R_drew));exact Kd.R_mono (Kd.R_far (p:=⟨gb334,2,none⟩) (Kd.R_far (p:=⟨gb334,1,none⟩) (Kd.R_far (p:=⟨gb334,0,none⟩) (Kd.R_types HO322.out BK334.out (by decide)) (fun _ hk=>hk.2) (.slice Ao59 t326.length co59)) (fun _ hk=>hk.2) (.slice Ao66 t329.length co66)) (fun _ hk=>hk.2) (.int .i64 t332)) (fun _ hk=>⟨hk.1.1.1.2,⟨hk.1.1.2,hk.1.2⟩⟩)⟩
         have n6_:Aside0 (Kd.R Kd.bool 4 (((w58.setCell ⟨gb334,0,none⟩ (.slice Ao59 t326.length co59)).setCell ⟨gb334,1,none⟩ (.slice Ao66 t329.length co66)).setCell ⟨gb334,2,none⟩ (.int .i64 t332)) w.heap.size (fun k_=>some k_≠(.slice Ao30 t299.length co30:Value).ownBlock∧some k_≠(.slice Ao37 t308.length co37:Value).ownBlock∧some k_≠(.slice Ao48 t317.length co48:Value).ownBlock) (.slice Ao59 t326.length co59) t326):=⟨by (with_reducible repeat (first|apply Kd.R_alloc|apply Kd.R_drewN|apply Kd.R_drew));exact Kd.R_mono (Kd.R_far (p:=⟨gb334,2,none⟩) (Kd.R_far (p:=⟨gb334,1,none⟩) (Kd.R_far (p:=⟨gb334,0,none⟩) (Kd.R_types HO328.out BK334.out (by decide)) (fun _ hk=>hk.2) (.slice Ao59 t326.length co59)) (fun _ hk=>hk.2) (.slice Ao66 t329.length co66)) (fun _ hk=>hk.2) (.int .i64 t332)) (fun _ hk=>⟨hk.1.1.1.2,⟨hk.1.1.2,hk.1.2⟩⟩)⟩
         have n7_:Aside0 (Kd.R (Kd.int .i64) 2 (((w58.setCell ⟨gb334,0,none⟩ (.slice Ao59 t326.length co59)).setCell ⟨gb334,1,none⟩ (.slice Ao66 t329.length co66)).setCell ⟨gb334,2,none⟩ (.int .i64 t332)) w.heap.size (fun k_=>some k_≠(.slice Ao34 t302.length co34:Value).ownBlock∧some k_≠(.slice Ao42 t311.length co42:Value).ownBlock∧some k_≠(.slice Ao54 t320.length co54:Value).ownBlock) (.slice Ao66 t329.length co66) t329):=⟨by (with_reducible repeat (first|apply Kd.R_alloc|apply Kd.R_drewN|apply Kd.R_drew));exact Kd.R_mono (Kd.R_far (p:=⟨gb334,2,none⟩) (Kd.R_far (p:=⟨gb334,1,none⟩) (Kd.R_far (p:=⟨gb334,0,none⟩) (Kd.R_types HO331.out BK334.out (by decide)) (fun _ hk=>hk.2) (.slice Ao59 t326.length co59)) (fun _ hk=>hk.2) (.slice Ao66 t329.length co66)) (fun _ hk=>hk.2) (.int .i64 t332)) (fun _ hk=>⟨hk.1.1.1.2,⟨hk.1.1.2,hk.1.2⟩⟩)⟩
         have n8_:Aside0 ((((w58.setCell ⟨gb334,0,none⟩ (.slice Ao59 t326.length co59)).setCell ⟨gb334,1,none⟩ (.slice Ao66 t329.length co66)).setCell ⟨gb334,2,none⟩ (.int .i64 t332)).heap[gb297]?=some (.cells #[.slice A0_0 l0_0.length c0_0,.slice A0_1 l0_1.length c0_1,.int .i64 a0_2] 25 (0,0))):=⟨by (with_reducible repeat (first|refine blk_drewN ?_ _|refine blk_drew ?_|refine blk_alloc ?_ _));refine blk_far ?_ NB297_334.out _;(with_reducible repeat (first|refine blk_drewN ?_ _|refine blk_drew ?_|refine blk_alloc ?_ _));refine blk_far ?_ NB297_334.out _;(with_reducible repeat (first|refine blk_drewN ?_ _|refine blk_drew ?_|refine blk_alloc ?_ _));refine blk_far ?_ NB297_334.out _;(with_reducible repeat (first|refine blk_drewN ?_ _|refine blk_drew ?_|refine blk_alloc ?_ _));exact BK297.out⟩
         have n9_:Aside0 ((((w58.setCell ⟨gb334,0,none⟩ (.slice Ao59 t326.length co59)).setCell ⟨gb334,1,none⟩ (.slice Ao66 t329.length co66)).setCell ⟨gb334,2,none⟩ (.int .i64 t332)).heap[gb298]?=some (.cells #[.slice A1_0 l1_0.length c1_0,.slice A1_1 l1_1.length c1_1,.int .i64 a1_2] 25 (0,0))):=⟨by (with_reducible repeat (first|refine blk_drewN ?_ _|refine blk_drew ?_|refine blk_alloc ?_ _));refine blk_far ?_ NB298_334.out _;(with_reducible repeat (first|refine blk_drewN ?_ _|refine blk_drew ?_|refine blk_alloc ?_ _));refine blk_far ?_ NB298_334.out _;(with_reducible repeat (first|refine blk_drewN ?_ _|refine blk_drew ?_|refine blk_alloc ?_ _));refine blk_far ?_ NB298_334.out _;(with_reducible repeat (first|refine blk_drewN ?_ _|refine blk_drew ?_|refine blk_alloc ?_ _));exact BK298.out⟩
         have n10_:Aside0 ((((w58.setCell ⟨gb334,0,none⟩ (.slice Ao59 t326.length co59)).setCell ⟨gb334,1,none⟩ (.slice Ao66 t329.length co66)).setCell ⟨gb334,2,none⟩ (.int .i64 t332)).heap[gb307]?=some (.cells #[.slice Ao30 t299.length co30,.slice Ao34 t302.length co34,.int .i64 t305] 25 (0,0))):=⟨by (with_reducible repeat (first|refine blk_drewN ?_ _|refine blk_drew ?_|refine blk_alloc ?_ _));refine blk_far ?_ NB307_334.out _;(with_reducible repeat (first|refine blk_drewN ?_ _|refine blk_drew ?_|refine blk_alloc ?_ _));refine blk_far ?_ NB307_334.out _;(with_reducible repeat (first|refine blk_drewN ?_ _|refine blk_drew ?_|refine blk_alloc ?_ _));refine blk_far ?_ NB307_334.out _;(with_reducible repeat (first|refine blk_drewN ?_ _|refine blk_drew ?_|refine blk_alloc ?_ _));exact BK307.out⟩
         have n11_:Aside0 ((((w58.setCell ⟨gb334,0,none⟩ (.slice Ao59 t326.length co59)).setCell ⟨gb334,1,none⟩ (.slice Ao66 t329.length co66)).setCell ⟨gb334,2,none⟩ (.int .i64 t332)).heap[gb316]?=some (.cells #[.slice Ao37 t308.length co37,.slice Ao42 t311.length co42,.int .i64 t314] 25 (0,0))):=⟨by (with_reducible repeat (first|refine blk_drewN ?_ _|refine blk_drew ?_|refine blk_alloc ?_ _));refine blk_far ?_ NB316_334.out _;(with_reducible repeat (first|refine blk_drewN ?_ _|refine blk_drew ?_|refine blk_alloc ?_ _));refine blk_far ?_ NB316_334.out _;(with_reducible repeat (first|refine blk_drewN ?_ _|refine blk_drew ?_|refine blk_alloc ?_ _));refine blk_far ?_ NB316_334.out _;(with_reducible repeat (first|refine blk_drewN ?_ _|refine blk_drew ?_|refine blk_alloc ?_ _));exact BK316.out⟩
         have n12_:Aside0 ((((w58.setCell ⟨gb334,0,none⟩ (.slice Ao59 t326.length co59)).setCell ⟨gb334,1,none⟩ (.slice Ao66 t329.length co66)).setCell ⟨gb334,2,none⟩ (.int .i64 t332)).heap[gb325]?=some (.cells #[.slice Ao48 t317.length co48,.slice Ao54 t320.length co54,.int .i64 t323] 25 (0,0))):=⟨by (with_reducible repeat (first|refine blk_drewN ?_ _|refine blk_drew ?_|refine blk_alloc ?_ _));refine blk_far ?_ NB325_334.out _;(with_reducible repeat (first|refine blk_drewN ?_ _|refine blk_drew ?_|refine blk_alloc ?_ _));refine blk_far ?_ NB325_334.out _;(with_reducible repeat (first|refine blk_drewN ?_ _|refine blk_drew ?_|refine blk_alloc ?_ _));refine blk_far ?_ NB325_334.out _;(with_reducible repeat (first|refine blk_drewN ?_ _|refine blk_drew ?_|refine blk_alloc ?_ _));exact BK325.out⟩
         have n13_:Aside0 ((((w58.setCell ⟨gb334,0,none⟩ (.slice Ao59 t326.length co59)).setCell ⟨gb334,1,none⟩ (.slice Ao66 t329.length co66)).setCell ⟨gb334,2,none⟩ (.int .i64 t332)).heap[gb334]?=some (.cells #[.slice Ao59 t326.length co59,.slice Ao66 t329.length co66,.int .i64 t332] 25 (0,0))):=⟨by (with_reducible repeat (first|refine blk_drewN ?_ _|refine blk_drew ?_|refine blk_alloc ?_ _));refine blk_put (cs:=#[.slice Ao59 t326.length co59,.slice Ao66 t329.length co66,.int .i64 0]) ?_ 2 _ rfl;(with_reducible repeat (first|refine blk_drewN ?_ _|refine blk_drew ?_|refine blk_alloc ?_ _));refine blk_put (cs:=#[.slice Ao59 t326.length co59,.slice none 0 0,.int .i64 0]) ?_ 1 _ rfl;(with_reducible repeat (first|refine blk_drewN ?_ _|refine blk_drew ?_|refine blk_alloc ?_ _));refine blk_put (cs:=#[.slice none 0 0,.slice none 0 0,.int .i64 0]) ?_ 0 _ rfl;(with_reducible repeat (first|refine blk_drewN ?_ _|refine blk_drew ?_|refine blk_alloc ?_ _));exact BK334.out⟩
         have n14_:Aside0 (Below w.heap.size w (((w58.setCell ⟨gb334,0,none⟩ (.slice Ao59 t326.length co59)).setCell ⟨gb334,1,none⟩ (.slice Ao66 t329.length co66)).setCell ⟨gb334,2,none⟩ (.int .i64 t332))):=⟨by repeat (first|(with_reducible first|exact HB.out|apply below_alloc|apply pw_below_drewN|apply below_drew1|refine below_set ?_ GE297.out|refine below_set ?_ GE298.out|refine below_set ?_ GE307.out|refine below_set ?_ GE316.out|refine below_set ?_ GE325.out|refine below_set ?_ GE334.out)|exact HB.out)⟩
         (try clear HO301)
         (try clear HO304)
         (try clear HO310)
         (try clear HO313)
         (try clear HO319)
         (try clear HO322)
         (try clear HO328)
         (try clear HO331)
         (try clear BK297)
         (try clear BK298)
         (try clear BK307)
         (try clear BK316)
         (try clear BK325)
         (try clear BK334)
         (try clear HB)
         generalize (((w58.setCell ⟨gb334,0,none⟩ (.slice Ao59 t326.length co59)).setCell ⟨gb334,1,none⟩ (.slice Ao66 t329.length co66)).setCell ⟨gb334,2,none⟩ (.int .i64 t332))=w67 at n0_ n1_ n2_ n3_ n4_ n5_ n6_ n7_ n8_ n9_ n10_ n11_ n12_ n13_ n14_ ⊢
         have HO301:=n0_
         have HO304:=n1_
         have HO310:=n2_
         have HO313:=n3_
         have HO319:=n4_
         have HO322:=n5_
         have HO328:=n6_
         have HO331:=n7_
         have BK297:=n8_
         have BK298:=n9_
         have BK307:=n10_
         have BK316:=n11_
         have BK325:=n12_
         have BK334:=n13_
         have HB:=n14_
         clear n0_ n1_ n2_ n3_ n4_ n5_ n6_ n7_ n8_ n9_ n10_ n11_ n12_ n13_ n14_
         have n0_:=Aside0.mk (Kd.R_drew HO301.out)
         have n1_:=Aside0.mk (Kd.R_drew HO304.out)
         have n2_:=Aside0.mk (Kd.R_drew HO310.out)
         have n3_:=Aside0.mk (Kd.R_drew HO313.out)
         have n4_:=Aside0.mk (Kd.R_drew HO319.out)
         have n5_:=Aside0.mk (Kd.R_drew HO322.out)
         have n6_:=Aside0.mk (Kd.R_drew HO328.out)
         have n7_:=Aside0.mk (Kd.R_drew HO331.out)
         have n8_:=Aside0.mk (blk_drew BK297.out)
         have n9_:=Aside0.mk (blk_drew BK298.out)
         have n10_:=Aside0.mk (blk_drew BK307.out)
         have n11_:=Aside0.mk (blk_drew BK316.out)
         have n12_:=Aside0.mk (blk_drew BK325.out)
         have n13_:=Aside0.mk (blk_drew BK334.out)
         have n14_:=Aside0.mk (below_drew1 HB.out)
         clear HO301 HO304 HO310 HO313 HO319 HO322 HO328 HO331 BK297 BK298 BK307 BK316 BK325 BK334 HB
         have HO301:=n0_
         have HO304:=n1_
         have HO310:=n2_
         have HO313:=n3_
         have HO319:=n4_
         have HO322:=n5_
         have HO328:=n6_
         have HO331:=n7_
         have BK297:=n8_
         have BK298:=n9_
         have BK307:=n10_
         have BK316:=n11_
         have BK325:=n12_
         have BK334:=n13_
         have HB:=n14_
         clear n0_ n1_ n2_ n3_ n4_ n5_ n6_ n7_ n8_ n9_ n10_ n11_ n12_ n13_ n14_
         refine start_ (n:=52) (S:=fun w'=>w'.cell? ⟨gb307,0,none⟩=some (.slice Ao30 t299.length co30)∧w'.cell? ⟨gb307,1,none⟩=some (.slice Ao34 t302.length co34)∧w'.cell? ⟨gb307,2,none⟩=some (.int .i64 t305)∧w'.cell? ⟨gb316,0,none⟩=some (.slice Ao37 t308.length co37)∧w'.cell? ⟨gb316,1,none⟩=some (.slice Ao42 t311.length co42)∧w'.cell? ⟨gb316,2,none⟩=some (.int .i64 t314)∧w'.cell? ⟨gb297,0,none⟩=some (.slice A0_0 l0_0.length c0_0)∧w'.cell? ⟨gb297,1,none⟩=some (.slice A0_1 l0_1.length c0_1)∧w'.cell? ⟨gb297,2,none⟩=some (.int .i64 a0_2)∧w'.cell? ⟨gb325,0,none⟩=some (.slice Ao48 t317.length co48)∧w'.cell? ⟨gb325,1,none⟩=some (.slice Ao54 t320.length co54)∧w'.cell? ⟨gb325,2,none⟩=some (.int .i64 t323)∧w'.cell? ⟨gb334,0,none⟩=some (.slice Ao59 t326.length co59)∧w'.cell? ⟨gb334,1,none⟩=some (.slice Ao66 t329.length co66)∧w'.cell? ⟨gb334,2,none⟩=some (.int .i64 t332)∧w'.cell? ⟨gb298,0,none⟩=some (.slice A1_0 l1_0.length c1_0)∧w'.cell? ⟨gb298,1,none⟩=some (.slice A1_1 l1_1.length c1_1)∧w'.cell? ⟨gb298,2,none⟩=some (.int .i64 a1_2)) (ds:=[]) #[false,false,false,false,false,false,false,false,false,false,false,false,false,false,false,false,false,false,false,false,false,false,false,false,false,false,false,false,false,false,false,false,false,false,false,false,false,false,false,false,false,false,false,false,false,false,false,false,false,false,false,false] (by kernel_rfl) rfl rfl ⟨(blk_cell BK307.out 0).trans rfl,(blk_cell BK307.out 1).trans rfl,(blk_cell BK307.out 2).trans rfl,(blk_cell BK316.out 0).trans rfl,(blk_cell BK316.out 1).trans rfl,(blk_cell BK316.out 2).trans rfl,(blk_cell BK297.out 0).trans rfl,(blk_cell BK297.out 1).trans rfl,(blk_cell BK297.out 2).trans rfl,(blk_cell BK325.out 0).trans rfl,(blk_cell BK325.out 1).trans rfl,(blk_cell BK325.out 2).trans rfl,(blk_cell BK334.out 0).trans rfl,(blk_cell BK334.out 1).trans rfl,(blk_cell BK334.out 2).trans rfl,(blk_cell BK298.out 0).trans rfl,(blk_cell BK298.out 1).trans rfl,(blk_cell BK298.out 2).trans rfl⟩ (fun hHeld=>?_);refine with_tabW slipwaylaw06_MapStates.tab5 slipwaylaw06_MapStates.bits5 (fun HT_ HW_=>?_)
         generalize w67.drew=w68 at HO301 HO304 HO310 HO313 HO319 HO322 HO328 HO331 BK297 BK298 BK307 BK316 BK325 BK334 HB hHeld ⊢
         refine one_ (i:=0) (N:=some 37) #[true,false,false,false,false,false,false,false,false,false,false,false,false,false,false,false,false,false,false,false,false,false,false,false,false,false,false,false,false,false,false,false,false,false,false,false,false,false,false,false,false,false,false,false,false,false,false,false,false,false,false,false] rfl rfl (one_of HT_.out (by kernel_rfl)) (by decide) (fun K hK=>?_)
         refine goes_ Try.func15 (by kernel_rfl) rfl #[] (by rfl) rfl rfl (by (try simp only [List.map_toArray,List.map_cons,List.map_nil]);first|done|rfl|(simp only [List.length_drop,List.length_take];rfl)) ?_
         with_reducible refine (slipwaylaw06_begun.calls k  true _ A8.out).mono ?_
         rintro e w69 ⟨rfl,hb⟩
         refine ⟨_,rfl,?_⟩
         have n0_:=Aside0.mk (Kd.R_below (by (with_reducible repeat (first|apply Kd.R_alloc|apply Kd.R_drewN|apply Kd.R_drew));exact HO301.out) hb)
         have n1_:=Aside0.mk (Kd.R_below (by (with_reducible repeat (first|apply Kd.R_alloc|apply Kd.R_drewN|apply Kd.R_drew));exact HO304.out) hb)
         have n2_:=Aside0.mk (Kd.R_below (by (with_reducible repeat (first|apply Kd.R_alloc|apply Kd.R_drewN|apply Kd.R_drew));exact HO310.out) hb)
         have n3_:=Aside0.mk (Kd.R_below (by (with_reducible repeat (first|apply Kd.R_alloc|apply Kd.R_drewN|apply Kd.R_drew));exact HO313.out) hb)
         have n4_:=Aside0.mk (Kd.R_below (by (with_reducible repeat (first|apply Kd.R_alloc|apply Kd.R_drewN|apply Kd.R_drew));exact HO319.out) hb)
         have n5_:=Aside0.mk (Kd.R_below (by (with_reducible repeat (first|apply Kd.R_alloc|apply Kd.R_drewN|apply Kd.R_drew));exact HO322.out) hb)
         have n6_:=Aside0.mk (Kd.R_below (by (with_reducible repeat (first|apply Kd.R_alloc|apply Kd.R_drewN|apply Kd.R_drew));exact HO328.out) hb)
         have n7_:=Aside0.mk (Kd.R_below (by (with_reducible repeat (first|apply Kd.R_alloc|apply Kd.R_drewN|apply Kd.R_drew));exact HO331.out) hb)
         have n8_:=Aside0.mk (blk_below (g:=gb297) (o:=.cells #[.slice A0_0 l0_0.length c0_0,.slice A0_1 l0_1.length c0_1,.int .i64 a0_2] 25 (0,0)) (by (with_reducible repeat (first|refine blk_drewN ?_ _|refine blk_drew ?_|refine blk_alloc ?_ _));exact BK297.out) hb)
         have n9_:=Aside0.mk (blk_below (g:=gb298) (o:=.cells #[.slice A1_0 l1_0.length c1_0,.slice A1_1 l1_1.length c1_1,.int .i64 a1_2] 25 (0,0)) (by (with_reducible repeat (first|refine blk_drewN ?_ _|refine blk_drew ?_|refine blk_alloc ?_ _));exact BK298.out) hb)
         have n10_:=Aside0.mk (blk_below (g:=gb307) (o:=.cells #[.slice Ao30 t299.length co30,.slice Ao34 t302.length co34,.int .i64 t305] 25 (0,0)) (by (with_reducible repeat (first|refine blk_drewN ?_ _|refine blk_drew ?_|refine blk_alloc ?_ _));exact BK307.out) hb)
         have n11_:=Aside0.mk (blk_below (g:=gb316) (o:=.cells #[.slice Ao37 t308.length co37,.slice Ao42 t311.length co42,.int .i64 t314] 25 (0,0)) (by (with_reducible repeat (first|refine blk_drewN ?_ _|refine blk_drew ?_|refine blk_alloc ?_ _));exact BK316.out) hb)
         have n12_:=Aside0.mk (blk_below (g:=gb325) (o:=.cells #[.slice Ao48 t317.length co48,.slice Ao54 t320.length co54,.int .i64 t323] 25 (0,0)) (by (with_reducible repeat (first|refine blk_drewN ?_ _|refine blk_drew ?_|refine blk_alloc ?_ _));exact BK325.out) hb)
         have n13_:=Aside0.mk (blk_below (g:=gb334) (o:=.cells #[.slice Ao59 t326.length co59,.slice Ao66 t329.length co66,.int .i64 t332] 25 (0,0)) (by (with_reducible repeat (first|refine blk_drewN ?_ _|refine blk_drew ?_|refine blk_alloc ?_ _));exact BK334.out) hb)
         have n14_:=Aside0.mk (below_step (by repeat (first|(with_reducible first|exact HB.out|apply below_alloc|apply pw_below_drewN|apply below_drew1|refine below_set ?_ GE297.out|refine below_set ?_ GE298.out|refine below_set ?_ GE307.out|refine below_set ?_ GE316.out|refine below_set ?_ GE325.out|refine below_set ?_ GE334.out)|exact HB.out)) hb)
         clear HO301 HO304 HO310 HO313 HO319 HO322 HO328 HO331 BK297 BK298 BK307 BK316 BK325 BK334 HB
         have HO301:=n0_
         have HO304:=n1_
         have HO310:=n2_
         have HO313:=n3_
         have HO319:=n4_
         have HO322:=n5_
         have HO328:=n6_
         have HO331:=n7_
         have BK297:=n8_
         have BK298:=n9_
         have BK307:=n10_
         have BK316:=n11_
         have BK325:=n12_
         have BK334:=n13_
         have HB:=n14_
         clear n0_ n1_ n2_ n3_ n4_ n5_ n6_ n7_ n8_ n9_ n10_ n11_ n12_ n13_ n14_
         (try clear hb)
         (try clear hb2)
         (try clear hk)
         (try clear hi)
         refine hK.out _ _ ⟨(blk_cell BK307.out 0).trans rfl,(blk_cell BK307.out 1).trans rfl,(blk_cell BK307.out 2).trans rfl,(blk_cell BK316.out 0).trans rfl,(blk_cell BK316.out 1).trans rfl,(blk_cell BK316.out 2).trans rfl,(blk_cell BK297.out 0).trans rfl,(blk_cell BK297.out 1).trans rfl,(blk_cell BK297.out 2).trans rfl,(blk_cell BK325.out 0).trans rfl,(blk_cell BK325.out 1).trans rfl,(blk_cell BK325.out 2).trans rfl,(blk_cell BK334.out 0).trans rfl,(blk_cell BK334.out 1).trans rfl,(blk_cell BK334.out 2).trans rfl,(blk_cell BK298.out 0).trans rfl,(blk_cell BK298.out 1).trans rfl,(blk_cell BK298.out 2).trans rfl⟩ (fun hHeld=>?_)
         clear hK K
         refine norm_ (a':=?_) ?_ ?_
         rotate_left
         ·show Act.put _ (some 37) _=_
          simp only [Act.put,List.setIfInBounds_toArray,List.set_cons_zero,List.set_cons_succ,i64_w,i32_w]
          rfl
         refine pure_ (i:=1) (N:=some 38) (v:=?_) (a':=?_) #[true,true,false,false,false,false,false,false,false,false,false,false,false,false,false,false,false,false,false,false,false,false,false,false,false,false,false,false,false,false,false,false,false,false,false,false,false,false,false,false,false,false,false,false,false,false,false,false,false,false,false,false] rfl rfl (any_of HT_.out (by kernel_rfl)) (fun _ _ _ h=>h) (Or.inl ⟨by rfl,?_⟩) ?_ ?_
         rotate_left
         ·intro w'
          go_simp
          with_reducible rfl
         rotate_left
         ·simp only [Act.put,List.setIfInBounds_toArray,List.set_cons_zero,List.set_cons_succ,i64_w,i32_w]
          rfl
         refine take_ (i:=2) (N:=some 39) (v:=?_) (a':=?_) #[true,true,true,false,false,false,false,false,false,false,false,false,false,false,false,false,false,false,false,false,false,false,false,false,false,false,false,false,false,false,false,false,false,false,false,false,false,false,false,false,false,false,false,false,false,false,false,false,false,false,false,false] rfl rfl (take_ofW HT_.out HW_.out (by kernel_rfl)) (fun _ _ _ h=>h) (Or.inl ⟨by rfl,?_⟩) hHeld ?_ ?_
         rotate_left
         ·rintro w' ⟨s0,s1,s2,s3,s4,s5,s6,s7,s8,s9,s10,s11,s12,s13,s14,s15,s16,s17⟩
          go_simp
          with_reducible rfl
         rotate_left
         ·simp only [Act.put,List.setIfInBounds_toArray,List.set_cons_zero,List.set_cons_succ,i64_w,i32_w]
          rfl
         refine take_ (i:=3) (N:=some 40) (v:=?_) (a':=?_) #[true,true,true,true,false,false,false,false,false,false,false,false,false,false,false,false,false,false,false,false,false,false,false,false,false,false,false,false,false,false,false,false,false,false,false,false,false,false,false,false,false,false,false,false,false,false,false,false,false,false,false,false] rfl rfl (take_ofW HT_.out HW_.out (by kernel_rfl)) (fun _ _ _ h=>h) (Or.inl ⟨by rfl,?_⟩) hHeld ?_ ?_
         rotate_left
         ·rintro w' ⟨s0,s1,s2,s3,s4,s5,s6,s7,s8,s9,s10,s11,s12,s13,s14,s15,s16,s17⟩
          go_simp
          with_reducible rfl
         rotate_left
         ·simp only [Act.put,List.setIfInBounds_toArray,List.set_cons_zero,List.set_cons_succ,i64_w,i32_w]
          rfl
         refine one_ (i:=4) (N:=some 41) #[true,true,true,true,true,false,false,false,false,false,false,false,false,false,false,false,false,false,false,false,false,false,false,false,false,false,false,false,false,false,false,false,false,false,false,false,false,false,false,false,false,false,false,false,false,false,false,false,false,false,false,false] rfl rfl (one_of HT_.out (by kernel_rfl)) (by decide) (fun K hK=>?_)
         refine goes_ Try.func16 (by kernel_rfl) rfl #[.agg #[.slice Ao30 t299.length co30,.slice Ao34 t302.length co34,.int .i64 t305],.agg #[.slice Ao37 t308.length co37,.slice Ao42 t311.length co42,.int .i64 t314]] (by rfl) rfl rfl (by (try simp only [List.map_toArray,List.map_cons,List.map_nil]);first|done|rfl|(simp only [List.length_drop,List.length_take];rfl)) ?_
         with_reducible refine (slipwayref06_Same.calls k _ _ t299 _ _ t302 t305 _ _ t308 _ _ t311 t314 true _ ?side1 ?side2 ?side3 ?side4 ?side5 ?side6 ?side7 ?side8 A10.out).mono ?_
         (case side1=>repeat (first|exact (Kd.R_reads' HO301.out).2.2|(with_reducible refine Kd.C_alloc ?_ _)|(with_reducible refine Kd.C_drewN ?_ _)|(with_reducible refine Kd.C_drew ?_)))
         (case side2=>exact (Kd.R_reads' HO301.out).2.1)
         (case side3=>repeat (first|exact (Kd.R_reads' HO304.out).2.2|(with_reducible refine Kd.C_alloc ?_ _)|(with_reducible refine Kd.C_drewN ?_ _)|(with_reducible refine Kd.C_drew ?_)))
         (case side4=>exact (Kd.R_reads' HO304.out).2.1)
         (case side5=>repeat (first|exact (Kd.R_reads' HO310.out).2.2|(with_reducible refine Kd.C_alloc ?_ _)|(with_reducible refine Kd.C_drewN ?_ _)|(with_reducible refine Kd.C_drew ?_)))
         (case side6=>exact (Kd.R_reads' HO310.out).2.1)
         (case side7=>repeat (first|exact (Kd.R_reads' HO313.out).2.2|(with_reducible refine Kd.C_alloc ?_ _)|(with_reducible refine Kd.C_drewN ?_ _)|(with_reducible refine Kd.C_drew ?_)))
         (case side8=>exact (Kd.R_reads' HO313.out).2.1)
         rintro e w70 ⟨rfl,hb⟩
         refine ⟨_,rfl,?_⟩
         have n0_:=Aside0.mk (Kd.R_below (by (with_reducible repeat (first|apply Kd.R_alloc|apply Kd.R_drewN|apply Kd.R_drew));exact HO301.out) hb)
         have n1_:=Aside0.mk (Kd.R_below (by (with_reducible repeat (first|apply Kd.R_alloc|apply Kd.R_drewN|apply Kd.R_drew));exact HO304.out) hb)
         have n2_:=Aside0.mk (Kd.R_below (by (with_reducible repeat (first|apply Kd.R_alloc|apply Kd.R_drewN|apply Kd.R_drew));exact HO310.out) hb)
         have n3_:=Aside0.mk (Kd.R_below (by (with_reducible repeat (first|apply Kd.R_alloc|apply Kd.R_drewN|apply Kd.R_drew));exact HO313.out) hb)
         have n4_:=Aside0.mk (Kd.R_below (by (with_reducible repeat (first|apply Kd.R_alloc|apply Kd.R_drewN|apply Kd.R_drew));exact HO319.out) hb)
         have n5_:=Aside0.mk (Kd.R_below (by (with_reducible repeat (first|apply Kd.R_alloc|apply Kd.R_drewN|apply Kd.R_drew));exact HO322.out) hb)
         have n6_:=Aside0.mk (Kd.R_below (by (with_reducible repeat (first|apply Kd.R_alloc|apply Kd.R_drewN|apply Kd.R_drew));exact HO328.out) hb)
         have n7_:=Aside0.mk (Kd.R_below (by (with_reducible repeat (first|apply Kd.R_alloc|apply Kd.R_drewN|apply Kd.R_drew));exact HO331.out) hb)
         have n8_:=Aside0.mk (blk_below (g:=gb297) (o:=.cells #[.slice A0_0 l0_0.length c0_0,.slice A0_1 l0_1.length c0_1,.int .i64 a0_2] 25 (0,0)) (by (with_reducible repeat (first|refine blk_drewN ?_ _|refine blk_drew ?_|refine blk_alloc ?_ _));exact BK297.out) hb)
         have n9_:=Aside0.mk (blk_below (g:=gb298) (o:=.cells #[.slice A1_0 l1_0.length c1_0,.slice A1_1 l1_1.length c1_1,.int .i64 a1_2] 25 (0,0)) (by (with_reducible repeat (first|refine blk_drewN ?_ _|refine blk_drew ?_|refine blk_alloc ?_ _));exact BK298.out) hb)
         have n10_:=Aside0.mk (blk_below (g:=gb307) (o:=.cells #[.slice Ao30 t299.length co30,.slice Ao34 t302.length co34,.int .i64 t305] 25 (0,0)) (by (with_reducible repeat (first|refine blk_drewN ?_ _|refine blk_drew ?_|refine blk_alloc ?_ _));exact BK307.out) hb)
         have n11_:=Aside0.mk (blk_below (g:=gb316) (o:=.cells #[.slice Ao37 t308.length co37,.slice Ao42 t311.length co42,.int .i64 t314] 25 (0,0)) (by (with_reducible repeat (first|refine blk_drewN ?_ _|refine blk_drew ?_|refine blk_alloc ?_ _));exact BK316.out) hb)
         have n12_:=Aside0.mk (blk_below (g:=gb325) (o:=.cells #[.slice Ao48 t317.length co48,.slice Ao54 t320.length co54,.int .i64 t323] 25 (0,0)) (by (with_reducible repeat (first|refine blk_drewN ?_ _|refine blk_drew ?_|refine blk_alloc ?_ _));exact BK325.out) hb)
         have n13_:=Aside0.mk (blk_below (g:=gb334) (o:=.cells #[.slice Ao59 t326.length co59,.slice Ao66 t329.length co66,.int .i64 t332] 25 (0,0)) (by (with_reducible repeat (first|refine blk_drewN ?_ _|refine blk_drew ?_|refine blk_alloc ?_ _));exact BK334.out) hb)
         have n14_:=Aside0.mk (below_step (by repeat (first|(with_reducible first|exact HB.out|apply below_alloc|apply pw_below_drewN|apply below_drew1|refine below_set ?_ GE297.out|refine below_set ?_ GE298.out|refine below_set ?_ GE307.out|refine below_set ?_ GE316.out|refine below_set ?_ GE325.out|refine below_set ?_ GE334.out)|exact HB.out)) hb)
         clear HO301 HO304 HO310 HO313 HO319 HO322 HO328 HO331 BK297 BK298 BK307 BK316 BK325 BK334 HB
         have HO301:=n0_
         have HO304:=n1_
         have HO310:=n2_
         have HO313:=n3_
         have HO319:=n4_
         have HO322:=n5_
         have HO328:=n6_
         have HO331:=n7_
         have BK297:=n8_
         have BK298:=n9_
         have BK307:=n10_
         have BK316:=n11_
         have BK325:=n12_
         have BK334:=n13_
         have HB:=n14_
         clear n0_ n1_ n2_ n3_ n4_ n5_ n6_ n7_ n8_ n9_ n10_ n11_ n12_ n13_ n14_
         (try clear hb)
         (try clear hb2)
         (try clear hk)
         (try clear hi)
         refine hK.out _ _ ⟨(blk_cell BK307.out 0).trans rfl,(blk_cell BK307.out 1).trans rfl,(blk_cell BK307.out 2).trans rfl,(blk_cell BK316.out 0).trans rfl,(blk_cell BK316.out 1).trans rfl,(blk_cell BK316.out 2).trans rfl,(blk_cell BK297.out 0).trans rfl,(blk_cell BK297.out 1).trans rfl,(blk_cell BK297.out 2).trans rfl,(blk_cell BK325.out 0).trans rfl,(blk_cell BK325.out 1).trans rfl,(blk_cell BK325.out 2).trans rfl,(blk_cell BK334.out 0).trans rfl,(blk_cell BK334.out 1).trans rfl,(blk_cell BK334.out 2).trans rfl,(blk_cell BK298.out 0).trans rfl,(blk_cell BK298.out 1).trans rfl,(blk_cell BK298.out 2).trans rfl⟩ (fun hHeld=>?_)
         clear hK K
         refine norm_ (a':=?_) ?_ ?_
         rotate_left
         ·show Act.put _ (some 41) _=_
          simp only [Act.put,List.setIfInBounds_toArray,List.set_cons_zero,List.set_cons_succ,i64_w,i32_w]
          rfl
         refine pure_ (i:=5) (N:=some 42) (v:=?_) (a':=?_) #[true,true,true,true,true,true,false,false,false,false,false,false,false,false,false,false,false,false,false,false,false,false,false,false,false,false,false,false,false,false,false,false,false,false,false,false,false,false,false,false,false,false,false,false,false,false,false,false,false,false,false,false] rfl rfl (any_of HT_.out (by kernel_rfl)) (fun _ _ _ h=>h) (Or.inl ⟨by rfl,?_⟩) ?_ ?_
         rotate_left
         ·intro w'
          go_simp
          with_reducible rfl
         rotate_left
         ·simp only [Act.put,List.setIfInBounds_toArray,List.set_cons_zero,List.set_cons_succ,i64_w,i32_w]
          rfl
         refine pure_ (i:=6) (N:=some 43) (v:=?_) (a':=?_) #[true,true,true,true,true,true,true,false,false,false,false,false,false,false,false,false,false,false,false,false,false,false,false,false,false,false,false,false,false,false,false,false,false,false,false,false,false,false,false,false,false,false,false,false,false,false,false,false,false,false,false,false] rfl rfl (any_of HT_.out (by kernel_rfl)) (fun _ _ _ h=>h) (Or.inl ⟨by rfl,?_⟩) ?_ ?_
         rotate_left
         ·intro w'
          go_simp
          with_reducible rfl
         rotate_left
         ·simp only [Act.put,List.setIfInBounds_toArray,List.set_cons_zero,List.set_cons_succ,i64_w,i32_w]
          rfl
         refine pure_ (i:=7) (N:=some 44) (v:=?_) (a':=?_) #[true,true,true,true,true,true,true,true,false,false,false,false,false,false,false,false,false,false,false,false,false,false,false,false,false,false,false,false,false,false,false,false,false,false,false,false,false,false,false,false,false,false,false,false,false,false,false,false,false,false,false,false] rfl rfl (any_of HT_.out (by kernel_rfl)) (fun _ _ _ h=>h) (Or.inl ⟨by rfl,?_⟩) ?_ ?_
         rotate_left
         ·intro w'
          go_simp
          with_reducible rfl
         rotate_left
         ·simp only [Act.put,List.setIfInBounds_toArray,List.set_cons_zero,List.set_cons_succ,i64_w,i32_w]
          rfl
         refine pure_ (i:=8) (N:=some 45) (v:=?_) (a':=?_) #[true,true,true,true,true,true,true,true,true,false,false,false,false,false,false,false,false,false,false,false,false,false,false,false,false,false,false,false,false,false,false,false,false,false,false,false,false,false,false,false,false,false,false,false,false,false,false,false,false,false,false,false] rfl rfl (any_of HT_.out (by kernel_rfl)) (fun _ _ _ h=>h) (Or.inl ⟨by rfl,?_⟩) ?_ ?_
         rotate_left
         ·intro w'
          go_simp
          with_reducible rfl
         rotate_left
         ·simp only [Act.put,List.setIfInBounds_toArray,List.set_cons_zero,List.set_cons_succ,i64_w,i32_w]
          rfl
         refine pure_ (i:=9) (N:=some 46) (v:=?_) (a':=?_) #[true,true,true,true,true,true,true,true,true,true,false,false,false,false,false,false,false,false,false,false,false,false,false,false,false,false,false,false,false,false,false,false,false,false,false,false,false,false,false,false,false,false,false,false,false,false,false,false,false,false,false,false] rfl rfl (any_of HT_.out (by kernel_rfl)) (fun _ _ _ h=>h) (Or.inl ⟨by rfl,?_⟩) ?_ ?_
         rotate_left
         ·intro w'
          go_simp
          with_reducible rfl
         rotate_left
         ·simp only [Act.put,List.setIfInBounds_toArray,List.set_cons_zero,List.set_cons_succ,i64_w,i32_w]
          rfl
         refine pure_ (i:=10) (N:=some 47) (v:=?_) (a':=?_) #[true,true,true,true,true,true,true,true,true,true,true,false,false,false,false,false,false,false,false,false,false,false,false,false,false,false,false,false,false,false,false,false,false,false,false,false,false,false,false,false,false,false,false,false,false,false,false,false,false,false,false,false] rfl rfl (any_of HT_.out (by kernel_rfl)) (fun _ _ _ h=>h) (Or.inl ⟨by rfl,?_⟩) ?_ ?_
         rotate_left
         ·intro w'
          go_simp
          with_reducible rfl
         rotate_left
         ·simp only [Act.put,List.setIfInBounds_toArray,List.set_cons_zero,List.set_cons_succ,i64_w,i32_w]
          rfl
         refine pure_ (i:=11) (N:=some 48) (v:=?_) (a':=?_) #[true,true,true,true,true,true,true,true,true,true,true,true,false,false,false,false,false,false,false,false,false,false,false,false,false,false,false,false,false,false,false,false,false,false,false,false,false,false,false,false,false,false,false,false,false,false,false,false,false,false,false,false] rfl rfl (any_of HT_.out (by kernel_rfl)) (fun _ _ _ h=>h) (Or.inl ⟨by rfl,?_⟩) ?_ ?_
         rotate_left
         ·intro w'
          go_simp
          with_reducible rfl
         rotate_left
         ·simp only [Act.put,List.setIfInBounds_toArray,List.set_cons_zero,List.set_cons_succ,i64_w,i32_w]
          rfl
         refine take_ (i:=12) (N:=some 49) (v:=?_) (a':=?_) #[true,true,true,true,true,true,true,true,true,true,true,true,true,false,false,false,false,false,false,false,false,false,false,false,false,false,false,false,false,false,false,false,false,false,false,false,false,false,false,false,false,false,false,false,false,false,false,false,false,false,false,false] rfl rfl (take_ofW HT_.out HW_.out (by kernel_rfl)) (fun _ _ _ h=>h) (Or.inl ⟨by rfl,?_⟩) hHeld ?_ ?_
         rotate_left
         ·rintro w' ⟨s0,s1,s2,s3,s4,s5,s6,s7,s8,s9,s10,s11,s12,s13,s14,s15,s16,s17⟩
          go_simp
          with_reducible rfl
         rotate_left
         ·simp only [Act.put,List.setIfInBounds_toArray,List.set_cons_zero,List.set_cons_succ,i64_w,i32_w]
          rfl
         refine take_ (i:=14) (N:=some 51) (v:=?_) (a':=?_) #[true,true,true,true,true,true,true,true,true,true,true,true,true,false,true,false,false,false,false,false,false,false,false,false,false,false,false,false,false,false,false,false,false,false,false,false,false,false,false,false,false,false,false,false,false,false,false,false,false,false,false,false] rfl rfl (take_ofW HT_.out HW_.out (by kernel_rfl)) (fun _ _ _ h=>h) (Or.inl ⟨by rfl,?_⟩) hHeld ?_ ?_
         rotate_left
         ·rintro w' ⟨s0,s1,s2,s3,s4,s5,s6,s7,s8,s9,s10,s11,s12,s13,s14,s15,s16,s17⟩
          go_simp
          with_reducible rfl
         rotate_left
         ·simp only [Act.put,List.setIfInBounds_toArray,List.set_cons_zero,List.set_cons_succ,i64_w,i32_w]
          rfl
         refine one_ (i:=13) (N:=some 50) #[true,true,true,true,true,true,true,true,true,true,true,true,true,true,true,false,false,false,false,false,false,false,false,false,false,false,false,false,false,false,false,false,false,false,false,false,false,false,false,false,false,false,false,false,false,false,false,false,false,false,false,false] rfl rfl (one_of HT_.out (by kernel_rfl)) (by decide) (fun K hK=>?_)
         refine goes_ Try.func17 (by kernel_rfl) rfl #[.agg #[.slice A0_0 l0_0.length c0_0,.slice A0_1 l0_1.length c0_1,.int .i64 a0_2]] (by rfl) rfl rfl (by (try simp only [List.map_toArray,List.map_cons,List.map_nil]);first|done|rfl|(simp only [List.length_drop,List.length_take];rfl)) ?_
         with_reducible refine (mapjnl_Check.calls k _ _ l0_0 _ _ l0_1 a0_2 t337 _ ?side1 ?side2 ?side3 ?side4 A13.out).mono ?_
         (case side1=>repeat (first|exact (Kd.C_below HR0_0.out HB.out)|(with_reducible refine Kd.C_alloc ?_ _)|(with_reducible refine Kd.C_drewN ?_ _)|(with_reducible refine Kd.C_drew ?_)))
         (case side2=>exact HC0_0.out)
         (case side3=>repeat (first|exact (Kd.C_below HR0_1.out HB.out)|(with_reducible refine Kd.C_alloc ?_ _)|(with_reducible refine Kd.C_drewN ?_ _)|(with_reducible refine Kd.C_drew ?_)))
         (case side4=>exact HC0_1.out)
         rintro e w71 ⟨rfl,hb⟩
         refine ⟨_,rfl,?_⟩
         have n0_:=Aside0.mk (Kd.R_below (by (with_reducible repeat (first|apply Kd.R_alloc|apply Kd.R_drewN|apply Kd.R_drew));exact HO301.out) hb)
         have n1_:=Aside0.mk (Kd.R_below (by (with_reducible repeat (first|apply Kd.R_alloc|apply Kd.R_drewN|apply Kd.R_drew));exact HO304.out) hb)
         have n2_:=Aside0.mk (Kd.R_below (by (with_reducible repeat (first|apply Kd.R_alloc|apply Kd.R_drewN|apply Kd.R_drew));exact HO310.out) hb)
         have n3_:=Aside0.mk (Kd.R_below (by (with_reducible repeat (first|apply Kd.R_alloc|apply Kd.R_drewN|apply Kd.R_drew));exact HO313.out) hb)
         have n4_:=Aside0.mk (Kd.R_below (by (with_reducible repeat (first|apply Kd.R_alloc|apply Kd.R_drewN|apply Kd.R_drew));exact HO319.out) hb)
         have n5_:=Aside0.mk (Kd.R_below (by (with_reducible repeat (first|apply Kd.R_alloc|apply Kd.R_drewN|apply Kd.R_drew));exact HO322.out) hb)
         have n6_:=Aside0.mk (Kd.R_below (by (with_reducible repeat (first|apply Kd.R_alloc|apply Kd.R_drewN|apply Kd.R_drew));exact HO328.out) hb)
         have n7_:=Aside0.mk (Kd.R_below (by (with_reducible repeat (first|apply Kd.R_alloc|apply Kd.R_drewN|apply Kd.R_drew));exact HO331.out) hb)
         have n8_:=Aside0.mk (blk_below (g:=gb297) (o:=.cells #[.slice A0_0 l0_0.length c0_0,.slice A0_1 l0_1.length c0_1,.int .i64 a0_2] 25 (0,0)) (by (with_reducible repeat (first|refine blk_drewN ?_ _|refine blk_drew ?_|refine blk_alloc ?_ _));exact BK297.out) hb)
         have n9_:=Aside0.mk (blk_below (g:=gb298) (o:=.cells #[.slice A1_0 l1_0.length c1_0,.slice A1_1 l1_1.length c1_1,.int .i64 a1_2] 25 (0,0)) (by (with_reducible repeat (first|refine blk_drewN ?_ _|refine blk_drew ?_|refine blk_alloc ?_ _));exact BK298.out) hb)
         have n10_:=Aside0.mk (blk_below (g:=gb307) (o:=.cells #[.slice Ao30 t299.length co30,.slice Ao34 t302.length co34,.int .i64 t305] 25 (0,0)) (by (with_reducible repeat (first|refine blk_drewN ?_ _|refine blk_drew ?_|refine blk_alloc ?_ _));exact BK307.out) hb)
         have n11_:=Aside0.mk (blk_below (g:=gb316) (o:=.cells #[.slice Ao37 t308.length co37,.slice Ao42 t311.length co42,.int .i64 t314] 25 (0,0)) (by (with_reducible repeat (first|refine blk_drewN ?_ _|refine blk_drew ?_|refine blk_alloc ?_ _));exact BK316.out) hb)
         have n12_:=Aside0.mk (blk_below (g:=gb325) (o:=.cells #[.slice Ao48 t317.length co48,.slice Ao54 t320.length co54,.int .i64 t323] 25 (0,0)) (by (with_reducible repeat (first|refine blk_drewN ?_ _|refine blk_drew ?_|refine blk_alloc ?_ _));exact BK325.out) hb)
         have n13_:=Aside0.mk (blk_below (g:=gb334) (o:=.cells #[.slice Ao59 t326.length co59,.slice Ao66 t329.length co66,.int .i64 t332] 25 (0,0)) (by (with_reducible repeat (first|refine blk_drewN ?_ _|refine blk_drew ?_|refine blk_alloc ?_ _));exact BK334.out) hb)
         have n14_:=Aside0.mk (below_step (by repeat (first|(with_reducible first|exact HB.out|apply below_alloc|apply pw_below_drewN|apply below_drew1|refine below_set ?_ GE297.out|refine below_set ?_ GE298.out|refine below_set ?_ GE307.out|refine below_set ?_ GE316.out|refine below_set ?_ GE325.out|refine below_set ?_ GE334.out)|exact HB.out)) hb)
         clear HO301 HO304 HO310 HO313 HO319 HO322 HO328 HO331 BK297 BK298 BK307 BK316 BK325 BK334 HB
         have HO301:=n0_
         have HO304:=n1_
         have HO310:=n2_
         have HO313:=n3_
         have HO319:=n4_
         have HO322:=n5_
         have HO328:=n6_
         have HO331:=n7_
         have BK297:=n8_
         have BK298:=n9_
         have BK307:=n10_
         have BK316:=n11_
         have BK325:=n12_
         have BK334:=n13_
         have HB:=n14_
         clear n0_ n1_ n2_ n3_ n4_ n5_ n6_ n7_ n8_ n9_ n10_ n11_ n12_ n13_ n14_
         (try clear hb)
         (try clear hb2)
         (try clear hk)
         (try clear hi)
         refine hK.out _ _ ⟨(blk_cell BK307.out 0).trans rfl,(blk_cell BK307.out 1).trans rfl,(blk_cell BK307.out 2).trans rfl,(blk_cell BK316.out 0).trans rfl,(blk_cell BK316.out 1).trans rfl,(blk_cell BK316.out 2).trans rfl,(blk_cell BK297.out 0).trans rfl,(blk_cell BK297.out 1).trans rfl,(blk_cell BK297.out 2).trans rfl,(blk_cell BK325.out 0).trans rfl,(blk_cell BK325.out 1).trans rfl,(blk_cell BK325.out 2).trans rfl,(blk_cell BK334.out 0).trans rfl,(blk_cell BK334.out 1).trans rfl,(blk_cell BK334.out 2).trans rfl,(blk_cell BK298.out 0).trans rfl,(blk_cell BK298.out 1).trans rfl,(blk_cell BK298.out 2).trans rfl⟩ (fun hHeld=>?_)
         clear hK K
         refine norm_ (a':=?_) ?_ ?_
         rotate_left
         ·show Act.put _ (some 50) _=_
          simp only [Act.put,List.setIfInBounds_toArray,List.set_cons_zero,List.set_cons_succ,i64_w,i32_w]
          rfl
         refine one_ (i:=15) (N:=some 52) #[true,true,true,true,true,true,true,true,true,true,true,true,true,true,true,true,false,false,false,false,false,false,false,false,false,false,false,false,false,false,false,false,false,false,false,false,false,false,false,false,false,false,false,false,false,false,false,false,false,false,false,false] rfl rfl (one_of HT_.out (by kernel_rfl)) (by decide) (fun K hK=>?_)
         refine goes_ Try.func18 (by kernel_rfl) rfl #[.agg #[.slice A0_0 l0_0.length c0_0,.slice A0_1 l0_1.length c0_1,.int .i64 a0_2]] (by rfl) rfl rfl (by (try simp only [List.map_toArray,List.map_cons,List.map_nil]);first|done|rfl|(simp only [List.length_drop,List.length_take];rfl)) ?_
         with_reducible refine (slipwayref06_Check.calls k _ _ l0_0 _ _ l0_1 a0_2 t338 _ ?side1 ?side2 ?side3 ?side4 A14.out).mono ?_
         (case side1=>repeat (first|exact (Kd.C_below HR0_0.out HB.out)|(with_reducible refine Kd.C_alloc ?_ _)|(with_reducible refine Kd.C_drewN ?_ _)|(with_reducible refine Kd.C_drew ?_)))
         (case side2=>exact HC0_0.out)
         (case side3=>repeat (first|exact (Kd.C_below HR0_1.out HB.out)|(with_reducible refine Kd.C_alloc ?_ _)|(with_reducible refine Kd.C_drewN ?_ _)|(with_reducible refine Kd.C_drew ?_)))
         (case side4=>exact HC0_1.out)
         rintro e w72 ⟨rfl,hb⟩
         refine ⟨_,rfl,?_⟩
         have n0_:=Aside0.mk (Kd.R_below (by (with_reducible repeat (first|apply Kd.R_alloc|apply Kd.R_drewN|apply Kd.R_drew));exact HO301.out) hb)
         have n1_:=Aside0.mk (Kd.R_below (by (with_reducible repeat (first|apply Kd.R_alloc|apply Kd.R_drewN|apply Kd.R_drew));exact HO304.out) hb)
         have n2_:=Aside0.mk (Kd.R_below (by (with_reducible repeat (first|apply Kd.R_alloc|apply Kd.R_drewN|apply Kd.R_drew));exact HO310.out) hb)
         have n3_:=Aside0.mk (Kd.R_below (by (with_reducible repeat (first|apply Kd.R_alloc|apply Kd.R_drewN|apply Kd.R_drew));exact HO313.out) hb)
         have n4_:=Aside0.mk (Kd.R_below (by (with_reducible repeat (first|apply Kd.R_alloc|apply Kd.R_drewN|apply Kd.R_drew));exact HO319.out) hb)
         have n5_:=Aside0.mk (Kd.R_below (by (with_reducible repeat (first|apply Kd.R_alloc|apply Kd.R_drewN|apply Kd.R_drew));exact HO322.out) hb)
         have n6_:=Aside0.mk (Kd.R_below (by (with_reducible repeat (first|apply Kd.R_alloc|apply Kd.R_drewN|apply Kd.R_drew));exact HO328.out) hb)
         have n7_:=Aside0.mk (Kd.R_below (by (with_reducible repeat (first|apply Kd.R_alloc|apply Kd.R_drewN|apply Kd.R_drew));exact HO331.out) hb)
         have n8_:=Aside0.mk (blk_below (g:=gb297) (o:=.cells #[.slice A0_0 l0_0.length c0_0,.slice A0_1 l0_1.length c0_1,.int .i64 a0_2] 25 (0,0)) (by (with_reducible repeat (first|refine blk_drewN ?_ _|refine blk_drew ?_|refine blk_alloc ?_ _));exact BK297.out) hb)
         have n9_:=Aside0.mk (blk_below (g:=gb298) (o:=.cells #[.slice A1_0 l1_0.length c1_0,.slice A1_1 l1_1.length c1_1,.int .i64 a1_2] 25 (0,0)) (by (with_reducible repeat (first|refine blk_drewN ?_ _|refine blk_drew ?_|refine blk_alloc ?_ _));exact BK298.out) hb)
         have n10_:=Aside0.mk (blk_below (g:=gb307) (o:=.cells #[.slice Ao30 t299.length co30,.slice Ao34 t302.length co34,.int .i64 t305] 25 (0,0)) (by (with_reducible repeat (first|refine blk_drewN ?_ _|refine blk_drew ?_|refine blk_alloc ?_ _));exact BK307.out) hb)
         have n11_:=Aside0.mk (blk_below (g:=gb316) (o:=.cells #[.slice Ao37 t308.length co37,.slice Ao42 t311.length co42,.int .i64 t314] 25 (0,0)) (by (with_reducible repeat (first|refine blk_drewN ?_ _|refine blk_drew ?_|refine blk_alloc ?_ _));exact BK316.out) hb)
         have n12_:=Aside0.mk (blk_below (g:=gb325) (o:=.cells #[.slice Ao48 t317.length co48,.slice Ao54 t320.length co54,.int .i64 t323] 25 (0,0)) (by (with_reducible repeat (first|refine blk_drewN ?_ _|refine blk_drew ?_|refine blk_alloc ?_ _));exact BK325.out) hb)
         have n13_:=Aside0.mk (blk_below (g:=gb334) (o:=.cells #[.slice Ao59 t326.length co59,.slice Ao66 t329.length co66,.int .i64 t332] 25 (0,0)) (by (with_reducible repeat (first|refine blk_drewN ?_ _|refine blk_drew ?_|refine blk_alloc ?_ _));exact BK334.out) hb)
         have n14_:=Aside0.mk (below_step (by repeat (first|(with_reducible first|exact HB.out|apply below_alloc|apply pw_below_drewN|apply below_drew1|refine below_set ?_ GE297.out|refine below_set ?_ GE298.out|refine below_set ?_ GE307.out|refine below_set ?_ GE316.out|refine below_set ?_ GE325.out|refine below_set ?_ GE334.out)|exact HB.out)) hb)
         clear HO301 HO304 HO310 HO313 HO319 HO322 HO328 HO331 BK297 BK298 BK307 BK316 BK325 BK334 HB
         have HO301:=n0_
         have HO304:=n1_
         have HO310:=n2_
         have HO313:=n3_
         have HO319:=n4_
         have HO322:=n5_
         have HO328:=n6_
         have HO331:=n7_
         have BK297:=n8_
         have BK298:=n9_
         have BK307:=n10_
         have BK316:=n11_
         have BK325:=n12_
         have BK334:=n13_
         have HB:=n14_
         clear n0_ n1_ n2_ n3_ n4_ n5_ n6_ n7_ n8_ n9_ n10_ n11_ n12_ n13_ n14_
         (try clear hb)
         (try clear hb2)
         (try clear hk)
         (try clear hi)
         refine hK.out _ _ ⟨(blk_cell BK307.out 0).trans rfl,(blk_cell BK307.out 1).trans rfl,(blk_cell BK307.out 2).trans rfl,(blk_cell BK316.out 0).trans rfl,(blk_cell BK316.out 1).trans rfl,(blk_cell BK316.out 2).trans rfl,(blk_cell BK297.out 0).trans rfl,(blk_cell BK297.out 1).trans rfl,(blk_cell BK297.out 2).trans rfl,(blk_cell BK325.out 0).trans rfl,(blk_cell BK325.out 1).trans rfl,(blk_cell BK325.out 2).trans rfl,(blk_cell BK334.out 0).trans rfl,(blk_cell BK334.out 1).trans rfl,(blk_cell BK334.out 2).trans rfl,(blk_cell BK298.out 0).trans rfl,(blk_cell BK298.out 1).trans rfl,(blk_cell BK298.out 2).trans rfl⟩ (fun hHeld=>?_)
         clear hK K
         refine norm_ (a':=?_) ?_ ?_
         rotate_left
         ·show Act.put _ (some 52) _=_
          simp only [Act.put,List.setIfInBounds_toArray,List.set_cons_zero,List.set_cons_succ,i64_w,i32_w]
          rfl
         refine pure_ (i:=16) (N:=some 53) (v:=?_) (a':=?_) #[true,true,true,true,true,true,true,true,true,true,true,true,true,true,true,true,true,false,false,false,false,false,false,false,false,false,false,false,false,false,false,false,false,false,false,false,false,false,false,false,false,false,false,false,false,false,false,false,false,false,false,false] rfl rfl (any_of HT_.out (by kernel_rfl)) (fun _ _ _ h=>h) (Or.inl ⟨by rfl,?_⟩) ?_ ?_
         rotate_left
         ·intro w'
          go_simp
          with_reducible rfl
         rotate_left
         ·simp only [Act.put,List.setIfInBounds_toArray,List.set_cons_zero,List.set_cons_succ,i64_w,i32_w]
          rfl
         refine pure_ (i:=17) (N:=some 54) (v:=?_) (a':=?_) #[true,true,true,true,true,true,true,true,true,true,true,true,true,true,true,true,true,true,false,false,false,false,false,false,false,false,false,false,false,false,false,false,false,false,false,false,false,false,false,false,false,false,false,false,false,false,false,false,false,false,false,false] rfl rfl (any_of HT_.out (by kernel_rfl)) (fun _ _ _ h=>h) (Or.inl ⟨by rfl,?_⟩) ?_ ?_
         rotate_left
         ·intro w'
          go_simp
          with_reducible rfl
         rotate_left
         ·simp only [Act.put,List.setIfInBounds_toArray,List.set_cons_zero,List.set_cons_succ,i64_w,i32_w]
          rfl
         refine pure_ (i:=18) (N:=some 55) (v:=?_) (a':=?_) #[true,true,true,true,true,true,true,true,true,true,true,true,true,true,true,true,true,true,true,false,false,false,false,false,false,false,false,false,false,false,false,false,false,false,false,false,false,false,false,false,false,false,false,false,false,false,false,false,false,false,false,false] rfl rfl (any_of HT_.out (by kernel_rfl)) (fun _ _ _ h=>h) (Or.inl ⟨by rfl,?_⟩) ?_ ?_
         rotate_left
         ·intro w'
          go_simp
          with_reducible rfl
         rotate_left
         ·simp only [Act.put,List.setIfInBounds_toArray,List.set_cons_zero,List.set_cons_succ,i64_w,i32_w]
          rfl
         refine take_ (i:=19) (N:=some 56) (v:=?_) (a':=?_) #[true,true,true,true,true,true,true,true,true,true,true,true,true,true,true,true,true,true,true,true,false,false,false,false,false,false,false,false,false,false,false,false,false,false,false,false,false,false,false,false,false,false,false,false,false,false,false,false,false,false,false,false] rfl rfl (take_ofW HT_.out HW_.out (by kernel_rfl)) (fun _ _ _ h=>h) (Or.inl ⟨by rfl,?_⟩) hHeld ?_ ?_
         rotate_left
         ·rintro w' ⟨s0,s1,s2,s3,s4,s5,s6,s7,s8,s9,s10,s11,s12,s13,s14,s15,s16,s17⟩
          go_simp
          with_reducible rfl
         rotate_left
         ·simp only [Act.put,List.setIfInBounds_toArray,List.set_cons_zero,List.set_cons_succ,i64_w,i32_w]
          rfl
         refine take_ (i:=20) (N:=some 57) (v:=?_) (a':=?_) #[true,true,true,true,true,true,true,true,true,true,true,true,true,true,true,true,true,true,true,true,true,false,false,false,false,false,false,false,false,false,false,false,false,false,false,false,false,false,false,false,false,false,false,false,false,false,false,false,false,false,false,false] rfl rfl (take_ofW HT_.out HW_.out (by kernel_rfl)) (fun _ _ _ h=>h) (Or.inl ⟨by rfl,?_⟩) hHeld ?_ ?_
         rotate_left
         ·rintro w' ⟨s0,s1,s2,s3,s4,s5,s6,s7,s8,s9,s10,s11,s12,s13,s14,s15,s16,s17⟩
          go_simp
          with_reducible rfl
         rotate_left
         ·simp only [Act.put,List.setIfInBounds_toArray,List.set_cons_zero,List.set_cons_succ,i64_w,i32_w]
          rfl
         refine one_ (i:=21) (N:=some 58) #[true,true,true,true,true,true,true,true,true,true,true,true,true,true,true,true,true,true,true,true,true,true,false,false,false,false,false,false,false,false,false,false,false,false,false,false,false,false,false,false,false,false,false,false,false,false,false,false,false,false,false,false] rfl rfl (one_of HT_.out (by kernel_rfl)) (by decide) (fun K hK=>?_)
         refine goes_ Try.func16 (by kernel_rfl) rfl #[.agg #[.slice Ao48 t317.length co48,.slice Ao54 t320.length co54,.int .i64 t323],.agg #[.slice Ao59 t326.length co59,.slice Ao66 t329.length co66,.int .i64 t332]] (by rfl) rfl rfl (by (try simp only [List.map_toArray,List.map_cons,List.map_nil]);first|done|rfl|(simp only [List.length_drop,List.length_take];rfl)) ?_
         with_reducible refine (slipwayref06_Same.calls k _ _ t317 _ _ t320 t323 _ _ t326 _ _ t329 t332 true _ ?side1 ?side2 ?side3 ?side4 ?side5 ?side6 ?side7 ?side8 A16.out).mono ?_
         (case side1=>repeat (first|exact (Kd.R_reads' HO319.out).2.2|(with_reducible refine Kd.C_alloc ?_ _)|(with_reducible refine Kd.C_drewN ?_ _)|(with_reducible refine Kd.C_drew ?_)))
         (case side2=>exact (Kd.R_reads' HO319.out).2.1)
         (case side3=>repeat (first|exact (Kd.R_reads' HO322.out).2.2|(with_reducible refine Kd.C_alloc ?_ _)|(with_reducible refine Kd.C_drewN ?_ _)|(with_reducible refine Kd.C_drew ?_)))
         (case side4=>exact (Kd.R_reads' HO322.out).2.1)
         (case side5=>repeat (first|exact (Kd.R_reads' HO328.out).2.2|(with_reducible refine Kd.C_alloc ?_ _)|(with_reducible refine Kd.C_drewN ?_ _)|(with_reducible refine Kd.C_drew ?_)))
         (case side6=>exact (Kd.R_reads' HO328.out).2.1)
         (case side7=>repeat (first|exact (Kd.R_reads' HO331.out).2.2|(with_reducible refine Kd.C_alloc ?_ _)|(with_reducible refine Kd.C_drewN ?_ _)|(with_reducible refine Kd.C_drew ?_)))
         (case side8=>exact (Kd.R_reads' HO331.out).2.1)
         rintro e w73 ⟨rfl,hb⟩
         refine ⟨_,rfl,?_⟩
         have n0_:=Aside0.mk (Kd.R_below (by (with_reducible repeat (first|apply Kd.R_alloc|apply Kd.R_drewN|apply Kd.R_drew));exact HO301.out) hb)
         have n1_:=Aside0.mk (Kd.R_below (by (with_reducible repeat (first|apply Kd.R_alloc|apply Kd.R_drewN|apply Kd.R_drew));exact HO304.out) hb)
         have n2_:=Aside0.mk (Kd.R_below (by (with_reducible repeat (first|apply Kd.R_alloc|apply Kd.R_drewN|apply Kd.R_drew));exact HO310.out) hb)
         have n3_:=Aside0.mk (Kd.R_below (by (with_reducible repeat (first|apply Kd.R_alloc|apply Kd.R_drewN|apply Kd.R_drew));exact HO313.out) hb)
         have n4_:=Aside0.mk (Kd.R_below (by (with_reducible repeat (first|apply Kd.R_alloc|apply Kd.R_drewN|apply Kd.R_drew));exact HO319.out) hb)
         have n5_:=Aside0.mk (Kd.R_below (by (with_reducible repeat (first|apply Kd.R_alloc|apply Kd.R_drewN|apply Kd.R_drew));exact HO322.out) hb)
         have n6_:=Aside0.mk (Kd.R_below (by (with_reducible repeat (first|apply Kd.R_alloc|apply Kd.R_drewN|apply Kd.R_drew));exact HO328.out) hb)
         have n7_:=Aside0.mk (Kd.R_below (by (with_reducible repeat (first|apply Kd.R_alloc|apply Kd.R_drewN|apply Kd.R_drew));exact HO331.out) hb)
         have n8_:=Aside0.mk (blk_below (g:=gb297) (o:=.cells #[.slice A0_0 l0_0.length c0_0,.slice A0_1 l0_1.length c0_1,.int .i64 a0_2] 25 (0,0)) (by (with_reducible repeat (first|refine blk_drewN ?_ _|refine blk_drew ?_|refine blk_alloc ?_ _));exact BK297.out) hb)
         have n9_:=Aside0.mk (blk_below (g:=gb298) (o:=.cells #[.slice A1_0 l1_0.length c1_0,.slice A1_1 l1_1.length c1_1,.int .i64 a1_2] 25 (0,0)) (by (with_reducible repeat (first|refine blk_drewN ?_ _|refine blk_drew ?_|refine blk_alloc ?_ _));exact BK298.out) hb)
         have n10_:=Aside0.mk (blk_below (g:=gb307) (o:=.cells #[.slice Ao30 t299.length co30,.slice Ao34 t302.length co34,.int .i64 t305] 25 (0,0)) (by (with_reducible repeat (first|refine blk_drewN ?_ _|refine blk_drew ?_|refine blk_alloc ?_ _));exact BK307.out) hb)
         have n11_:=Aside0.mk (blk_below (g:=gb316) (o:=.cells #[.slice Ao37 t308.length co37,.slice Ao42 t311.length co42,.int .i64 t314] 25 (0,0)) (by (with_reducible repeat (first|refine blk_drewN ?_ _|refine blk_drew ?_|refine blk_alloc ?_ _));exact BK316.out) hb)
         have n12_:=Aside0.mk (blk_below (g:=gb325) (o:=.cells #[.slice Ao48 t317.length co48,.slice Ao54 t320.length co54,.int .i64 t323] 25 (0,0)) (by (with_reducible repeat (first|refine blk_drewN ?_ _|refine blk_drew ?_|refine blk_alloc ?_ _));exact BK325.out) hb)
         have n13_:=Aside0.mk (blk_below (g:=gb334) (o:=.cells #[.slice Ao59 t326.length co59,.slice Ao66 t329.length co66,.int .i64 t332] 25 (0,0)) (by (with_reducible repeat (first|refine blk_drewN ?_ _|refine blk_drew ?_|refine blk_alloc ?_ _));exact BK334.out) hb)
         have n14_:=Aside0.mk (below_step (by repeat (first|(with_reducible first|exact HB.out|apply below_alloc|apply pw_below_drewN|apply below_drew1|refine below_set ?_ GE297.out|refine below_set ?_ GE298.out|refine below_set ?_ GE307.out|refine below_set ?_ GE316.out|refine below_set ?_ GE325.out|refine below_set ?_ GE334.out)|exact HB.out)) hb)
         clear HO301 HO304 HO310 HO313 HO319 HO322 HO328 HO331 BK297 BK298 BK307 BK316 BK325 BK334 HB
         have HO301:=n0_
         have HO304:=n1_
         have HO310:=n2_
         have HO313:=n3_
         have HO319:=n4_
         have HO322:=n5_
         have HO328:=n6_
         have HO331:=n7_
         have BK297:=n8_
         have BK298:=n9_
         have BK307:=n10_
         have BK316:=n11_
         have BK325:=n12_
         have BK334:=n13_
         have HB:=n14_
         clear n0_ n1_ n2_ n3_ n4_ n5_ n6_ n7_ n8_ n9_ n10_ n11_ n12_ n13_ n14_
         (try clear hb)
         (try clear hb2)
         (try clear hk)
         (try clear hi)
         refine hK.out _ _ ⟨(blk_cell BK307.out 0).trans rfl,(blk_cell BK307.out 1).trans rfl,(blk_cell BK307.out 2).trans rfl,(blk_cell BK316.out 0).trans rfl,(blk_cell BK316.out 1).trans rfl,(blk_cell BK316.out 2).trans rfl,(blk_cell BK297.out 0).trans rfl,(blk_cell BK297.out 1).trans rfl,(blk_cell BK297.out 2).trans rfl,(blk_cell BK325.out 0).trans rfl,(blk_cell BK325.out 1).trans rfl,(blk_cell BK325.out 2).trans rfl,(blk_cell BK334.out 0).trans rfl,(blk_cell BK334.out 1).trans rfl,(blk_cell BK334.out 2).trans rfl,(blk_cell BK298.out 0).trans rfl,(blk_cell BK298.out 1).trans rfl,(blk_cell BK298.out 2).trans rfl⟩ (fun hHeld=>?_)
         clear hK K
         refine norm_ (a':=?_) ?_ ?_
         rotate_left
         ·show Act.put _ (some 58) _=_
          simp only [Act.put,List.setIfInBounds_toArray,List.set_cons_zero,List.set_cons_succ,i64_w,i32_w]
          rfl
         refine pure_ (i:=22) (N:=some 59) (v:=?_) (a':=?_) #[true,true,true,true,true,true,true,true,true,true,true,true,true,true,true,true,true,true,true,true,true,true,true,false,false,false,false,false,false,false,false,false,false,false,false,false,false,false,false,false,false,false,false,false,false,false,false,false,false,false,false,false] rfl rfl (any_of HT_.out (by kernel_rfl)) (fun _ _ _ h=>h) (Or.inl ⟨by rfl,?_⟩) ?_ ?_
         rotate_left
         ·intro w'
          go_simp
          with_reducible rfl
         rotate_left
         ·simp only [Act.put,List.setIfInBounds_toArray,List.set_cons_zero,List.set_cons_succ,i64_w,i32_w]
          rfl
         refine pure_ (i:=23) (N:=some 60) (v:=?_) (a':=?_) #[true,true,true,true,true,true,true,true,true,true,true,true,true,true,true,true,true,true,true,true,true,true,true,true,false,false,false,false,false,false,false,false,false,false,false,false,false,false,false,false,false,false,false,false,false,false,false,false,false,false,false,false] rfl rfl (any_of HT_.out (by kernel_rfl)) (fun _ _ _ h=>h) (Or.inl ⟨by rfl,?_⟩) ?_ ?_
         rotate_left
         ·intro w'
          go_simp
          with_reducible rfl
         rotate_left
         ·simp only [Act.put,List.setIfInBounds_toArray,List.set_cons_zero,List.set_cons_succ,i64_w,i32_w]
          rfl
         refine pure_ (i:=24) (N:=some 61) (v:=?_) (a':=?_) #[true,true,true,true,true,true,true,true,true,true,true,true,true,true,true,true,true,true,true,true,true,true,true,true,true,false,false,false,false,false,false,false,false,false,false,false,false,false,false,false,false,false,false,false,false,false,false,false,false,false,false,false] rfl rfl (any_of HT_.out (by kernel_rfl)) (fun _ _ _ h=>h) (Or.inl ⟨by rfl,?_⟩) ?_ ?_
         rotate_left
         ·intro w'
          go_simp
          with_reducible rfl
         rotate_left
         ·simp only [Act.put,List.setIfInBounds_toArray,List.set_cons_zero,List.set_cons_succ,i64_w,i32_w]
          rfl
         refine pure_ (i:=25) (N:=some 62) (v:=?_) (a':=?_) #[true,true,true,true,true,true,true,true,true,true,true,true,true,true,true,true,true,true,true,true,true,true,true,true,true,true,false,false,false,false,false,false,false,false,false,false,false,false,false,false,false,false,false,false,false,false,false,false,false,false,false,false] rfl rfl (any_of HT_.out (by kernel_rfl)) (fun _ _ _ h=>h) (Or.inl ⟨by rfl,?_⟩) ?_ ?_
         rotate_left
         ·intro w'
          go_simp
          with_reducible rfl
         rotate_left
         ·simp only [Act.put,List.setIfInBounds_toArray,List.set_cons_zero,List.set_cons_succ,i64_w,i32_w]
          rfl
         refine pure_ (i:=26) (N:=some 63) (v:=?_) (a':=?_) #[true,true,true,true,true,true,true,true,true,true,true,true,true,true,true,true,true,true,true,true,true,true,true,true,true,true,true,false,false,false,false,false,false,false,false,false,false,false,false,false,false,false,false,false,false,false,false,false,false,false,false,false] rfl rfl (any_of HT_.out (by kernel_rfl)) (fun _ _ _ h=>h) (Or.inl ⟨by rfl,?_⟩) ?_ ?_
         rotate_left
         ·intro w'
          go_simp
          with_reducible rfl
         rotate_left
         ·simp only [Act.put,List.setIfInBounds_toArray,List.set_cons_zero,List.set_cons_succ,i64_w,i32_w]
          rfl
         refine pure_ (i:=27) (N:=some 64) (v:=?_) (a':=?_) #[true,true,true,true,true,true,true,true,true,true,true,true,true,true,true,true,true,true,true,true,true,true,true,true,true,true,true,true,false,false,false,false,false,false,false,false,false,false,false,false,false,false,false,false,false,false,false,false,false,false,false,false] rfl rfl (any_of HT_.out (by kernel_rfl)) (fun _ _ _ h=>h) (Or.inl ⟨by rfl,?_⟩) ?_ ?_
         rotate_left
         ·intro w'
          go_simp
          with_reducible rfl
         rotate_left
         ·simp only [Act.put,List.setIfInBounds_toArray,List.set_cons_zero,List.set_cons_succ,i64_w,i32_w]
          rfl
         refine pure_ (i:=28) (N:=some 65) (v:=?_) (a':=?_) #[true,true,true,true,true,true,true,true,true,true,true,true,true,true,true,true,true,true,true,true,true,true,true,true,true,true,true,true,true,false,false,false,false,false,false,false,false,false,false,false,false,false,false,false,false,false,false,false,false,false,false,false] rfl rfl (any_of HT_.out (by kernel_rfl)) (fun _ _ _ h=>h) (Or.inl ⟨by rfl,?_⟩) ?_ ?_
         rotate_left
         ·intro w'
          go_simp
          with_reducible rfl
         rotate_left
         ·simp only [Act.put,List.setIfInBounds_toArray,List.set_cons_zero,List.set_cons_succ,i64_w,i32_w]
          rfl
         refine take_ (i:=29) (N:=some 66) (v:=?_) (a':=?_) #[true,true,true,true,true,true,true,true,true,true,true,true,true,true,true,true,true,true,true,true,true,true,true,true,true,true,true,true,true,true,false,false,false,false,false,false,false,false,false,false,false,false,false,false,false,false,false,false,false,false,false,false] rfl rfl (take_ofW HT_.out HW_.out (by kernel_rfl)) (fun _ _ _ h=>h) (Or.inl ⟨by rfl,?_⟩) hHeld ?_ ?_
         rotate_left
         ·rintro w' ⟨s0,s1,s2,s3,s4,s5,s6,s7,s8,s9,s10,s11,s12,s13,s14,s15,s16,s17⟩
          go_simp
          with_reducible rfl
         rotate_left
         ·simp only [Act.put,List.setIfInBounds_toArray,List.set_cons_zero,List.set_cons_succ,i64_w,i32_w]
          rfl
         refine take_ (i:=30) (N:=some 67) (v:=?_) (a':=?_) #[true,true,true,true,true,true,true,true,true,true,true,true,true,true,true,true,true,true,true,true,true,true,true,true,true,true,true,true,true,true,true,false,false,false,false,false,false,false,false,false,false,false,false,false,false,false,false,false,false,false,false,false] rfl rfl (take_ofW HT_.out HW_.out (by kernel_rfl)) (fun _ _ _ h=>h) (Or.inl ⟨by rfl,?_⟩) hHeld ?_ ?_
         rotate_left
         ·rintro w' ⟨s0,s1,s2,s3,s4,s5,s6,s7,s8,s9,s10,s11,s12,s13,s14,s15,s16,s17⟩
          go_simp
          with_reducible rfl
         rotate_left
         ·simp only [Act.put,List.setIfInBounds_toArray,List.set_cons_zero,List.set_cons_succ,i64_w,i32_w]
          rfl
         refine take_ (i:=32) (N:=some 69) (v:=?_) (a':=?_) #[true,true,true,true,true,true,true,true,true,true,true,true,true,true,true,true,true,true,true,true,true,true,true,true,true,true,true,true,true,true,true,false,true,false,false,false,false,false,false,false,false,false,false,false,false,false,false,false,false,false,false,false] rfl rfl (take_ofW HT_.out HW_.out (by kernel_rfl)) (fun _ _ _ h=>h) (Or.inl ⟨by rfl,?_⟩) hHeld ?_ ?_
         rotate_left
         ·rintro w' ⟨s0,s1,s2,s3,s4,s5,s6,s7,s8,s9,s10,s11,s12,s13,s14,s15,s16,s17⟩
          go_simp
          with_reducible rfl
         rotate_left
         ·simp only [Act.put,List.setIfInBounds_toArray,List.set_cons_zero,List.set_cons_succ,i64_w,i32_w]
          rfl
         refine take_ (i:=33) (N:=some 70) (v:=?_) (a':=?_) #[true,true,true,true,true,true,true,true,true,true,true,true,true,true,true,true,true,true,true,true,true,true,true,true,true,true,true,true,true,true,true,false,true,true,false,false,false,false,false,false,false,false,false,false,false,false,false,false,false,false,false,false] rfl rfl (take_ofW HT_.out HW_.out (by kernel_rfl)) (fun _ _ _ h=>h) (Or.inl ⟨by rfl,?_⟩) hHeld ?_ ?_
         rotate_left
         ·rintro w' ⟨s0,s1,s2,s3,s4,s5,s6,s7,s8,s9,s10,s11,s12,s13,s14,s15,s16,s17⟩
          go_simp
          with_reducible rfl
         rotate_left
         ·simp only [Act.put,List.setIfInBounds_toArray,List.set_cons_zero,List.set_cons_succ,i64_w,i32_w]
          rfl
         refine one_ (i:=31) (N:=some 68) #[true,true,true,true,true,true,true,true,true,true,true,true,true,true,true,true,true,true,true,true,true,true,true,true,true,true,true,true,true,true,true,true,true,true,false,false,false,false,false,false,false,false,false,false,false,false,false,false,false,false,false,false] rfl rfl (one_of HT_.out (by kernel_rfl)) (by decide) (fun K hK=>?_)
         refine goes_ Try.func19 (by kernel_rfl) rfl #[.agg #[.slice A0_0 l0_0.length c0_0,.slice A0_1 l0_1.length c0_1,.int .i64 a0_2],.agg #[.slice A1_0 l1_0.length c1_0,.slice A1_1 l1_1.length c1_1,.int .i64 a1_2]] (by rfl) rfl rfl (by (try simp only [List.map_toArray,List.map_cons,List.map_nil]);first|done|rfl|(simp only [List.length_drop,List.length_take];rfl)) ?_
         with_reducible refine (mapjnl_Covers.calls k _ _ l0_0 _ _ l0_1 a0_2 _ _ l1_0 _ _ l1_1 a1_2 t340 _ ?side1 ?side2 ?side3 ?side4 ?side5 ?side6 ?side7 ?side8 A19.out).mono ?_
         (case side1=>repeat (first|exact (Kd.C_below HR0_0.out HB.out)|(with_reducible refine Kd.C_alloc ?_ _)|(with_reducible refine Kd.C_drewN ?_ _)|(with_reducible refine Kd.C_drew ?_)))
         (case side2=>exact HC0_0.out)
         (case side3=>repeat (first|exact (Kd.C_below HR0_1.out HB.out)|(with_reducible refine Kd.C_alloc ?_ _)|(with_reducible refine Kd.C_drewN ?_ _)|(with_reducible refine Kd.C_drew ?_)))
         (case side4=>exact HC0_1.out)
         (case side5=>repeat (first|exact (Kd.C_below HR1_0.out HB.out)|(with_reducible refine Kd.C_alloc ?_ _)|(with_reducible refine Kd.C_drewN ?_ _)|(with_reducible refine Kd.C_drew ?_)))
         (case side6=>exact HC1_0.out)
         (case side7=>repeat (first|exact (Kd.C_below HR1_1.out HB.out)|(with_reducible refine Kd.C_alloc ?_ _)|(with_reducible refine Kd.C_drewN ?_ _)|(with_reducible refine Kd.C_drew ?_)))
         (case side8=>exact HC1_1.out)
         rintro e w74 ⟨rfl,hb⟩
         refine ⟨_,rfl,?_⟩
         have n0_:=Aside0.mk (Kd.R_below (by (with_reducible repeat (first|apply Kd.R_alloc|apply Kd.R_drewN|apply Kd.R_drew));exact HO301.out) hb)
         have n1_:=Aside0.mk (Kd.R_below (by (with_reducible repeat (first|apply Kd.R_alloc|apply Kd.R_drewN|apply Kd.R_drew));exact HO304.out) hb)
         have n2_:=Aside0.mk (Kd.R_below (by (with_reducible repeat (first|apply Kd.R_alloc|apply Kd.R_drewN|apply Kd.R_drew));exact HO310.out) hb)
         have n3_:=Aside0.mk (Kd.R_below (by (with_reducible repeat (first|apply Kd.R_alloc|apply Kd.R_drewN|apply Kd.R_drew));exact HO313.out) hb)
         have n4_:=Aside0.mk (Kd.R_below (by (with_reducible repeat (first|apply Kd.R_alloc|apply Kd.R_drewN|apply Kd.R_drew));exact HO319.out) hb)
         have n5_:=Aside0.mk (Kd.R_below (by (with_reducible repeat (first|apply Kd.R_alloc|apply Kd.R_drewN|apply Kd.R_drew));exact HO322.out) hb)
         have n6_:=Aside0.mk (Kd.R_below (by (with_reducible repeat (first|apply Kd.R_alloc|apply Kd.R_drewN|apply Kd.R_drew));exact HO328.out) hb)
         have n7_:=Aside0.mk (Kd.R_below (by (with_reducible repeat (first|apply Kd.R_alloc|apply Kd.R_drewN|apply Kd.R_drew));exact HO331.out) hb)
         have n8_:=Aside0.mk (blk_below (g:=gb297) (o:=.cells #[.slice A0_0 l0_0.length c0_0,.slice A0_1 l0_1.length c0_1,.int .i64 a0_2] 25 (0,0)) (by (with_reducible repeat (first|refine blk_drewN ?_ _|refine blk_drew ?_|refine blk_alloc ?_ _));exact BK297.out) hb)
         have n9_:=Aside0.mk (blk_below (g:=gb298) (o:=.cells #[.slice A1_0 l1_0.length c1_0,.slice A1_1 l1_1.length c1_1,.int .i64 a1_2] 25 (0,0)) (by (with_reducible repeat (first|refine blk_drewN ?_ _|refine blk_drew ?_|refine blk_alloc ?_ _));exact BK298.out) hb)
         have n10_:=Aside0.mk (blk_below (g:=gb307) (o:=.cells #[.slice Ao30 t299.length co30,.slice Ao34 t302.length co34,.int .i64 t305] 25 (0,0)) (by (with_reducible repeat (first|refine blk_drewN ?_ _|refine blk_drew ?_|refine blk_alloc ?_ _));exact BK307.out) hb)
         have n11_:=Aside0.mk (blk_below (g:=gb316) (o:=.cells #[.slice Ao37 t308.length co37,.slice Ao42 t311.length co42,.int .i64 t314] 25 (0,0)) (by (with_reducible repeat (first|refine blk_drewN ?_ _|refine blk_drew ?_|refine blk_alloc ?_ _));exact BK316.out) hb)
         have n12_:=Aside0.mk (blk_below (g:=gb325) (o:=.cells #[.slice Ao48 t317.length co48,.slice Ao54 t320.length co54,.int .i64 t323] 25 (0,0)) (by (with_reducible repeat (first|refine blk_drewN ?_ _|refine blk_drew ?_|refine blk_alloc ?_ _));exact BK325.out) hb)
         have n13_:=Aside0.mk (blk_below (g:=gb334) (o:=.cells #[.slice Ao59 t326.length co59,.slice Ao66 t329.length co66,.int .i64 t332] 25 (0,0)) (by (with_reducible repeat (first|refine blk_drewN ?_ _|refine blk_drew ?_|refine blk_alloc ?_ _));exact BK334.out) hb)
         have n14_:=Aside0.mk (below_step (by repeat (first|(with_reducible first|exact HB.out|apply below_alloc|apply pw_below_drewN|apply below_drew1|refine below_set ?_ GE297.out|refine below_set ?_ GE298.out|refine below_set ?_ GE307.out|refine below_set ?_ GE316.out|refine below_set ?_ GE325.out|refine below_set ?_ GE334.out)|exact HB.out)) hb)
         clear HO301 HO304 HO310 HO313 HO319 HO322 HO328 HO331 BK297 BK298 BK307 BK316 BK325 BK334 HB
         have HO301:=n0_
         have HO304:=n1_
         have HO310:=n2_
         have HO313:=n3_
         have HO319:=n4_
         have HO322:=n5_
         have HO328:=n6_
         have HO331:=n7_
         have BK297:=n8_
         have BK298:=n9_
         have BK307:=n10_
         have BK316:=n11_
         have BK325:=n12_
         have BK334:=n13_
         have HB:=n14_
         clear n0_ n1_ n2_ n3_ n4_ n5_ n6_ n7_ n8_ n9_ n10_ n11_ n12_ n13_ n14_
         (try clear hb)
         (try clear hb2)
         (try clear hk)
         (try clear hi)
         refine hK.out _ _ ⟨(blk_cell BK307.out 0).trans rfl,(blk_cell BK307.out 1).trans rfl,(blk_cell BK307.out 2).trans rfl,(blk_cell BK316.out 0).trans rfl,(blk_cell BK316.out 1).trans rfl,(blk_cell BK316.out 2).trans rfl,(blk_cell BK297.out 0).trans rfl,(blk_cell BK297.out 1).trans rfl,(blk_cell BK297.out 2).trans rfl,(blk_cell BK325.out 0).trans rfl,(blk_cell BK325.out 1).trans rfl,(blk_cell BK325.out 2).trans rfl,(blk_cell BK334.out 0).trans rfl,(blk_cell BK334.out 1).trans rfl,(blk_cell BK334.out 2).trans rfl,(blk_cell BK298.out 0).trans rfl,(blk_cell BK298.out 1).trans rfl,(blk_cell BK298.out 2).trans rfl⟩ (fun hHeld=>?_)
         clear hK K
         refine norm_ (a':=?_) ?_ ?_
         rotate_left
         ·show Act.put _ (some 68) _=_
          simp only [Act.put,List.setIfInBounds_toArray,List.set_cons_zero,List.set_cons_succ,i64_w,i32_w]
          rfl
         refine one_ (i:=34) (N:=some 71) #[true,true,true,true,true,true,true,true,true,true,true,true,true,true,true,true,true,true,true,true,true,true,true,true,true,true,true,true,true,true,true,true,true,true,true,false,false,false,false,false,false,false,false,false,false,false,false,false,false,false,false,false] rfl rfl (one_of HT_.out (by kernel_rfl)) (by decide) (fun K hK=>?_)
         refine goes_ Try.func20 (by kernel_rfl) rfl #[.agg #[.slice A0_0 l0_0.length c0_0,.slice A0_1 l0_1.length c0_1,.int .i64 a0_2],.agg #[.slice A1_0 l1_0.length c1_0,.slice A1_1 l1_1.length c1_1,.int .i64 a1_2]] (by rfl) rfl rfl (by (try simp only [List.map_toArray,List.map_cons,List.map_nil]);first|done|rfl|(simp only [List.length_drop,List.length_take];rfl)) ?_
         with_reducible refine (slipwayref06_Covers.calls k _ _ l0_0 _ _ l0_1 a0_2 _ _ l1_0 _ _ l1_1 a1_2 t341 _ ?side1 ?side2 ?side3 ?side4 ?side5 ?side6 ?side7 ?side8 A20.out).mono ?_
         (case side1=>repeat (first|exact (Kd.C_below HR0_0.out HB.out)|(with_reducible refine Kd.C_alloc ?_ _)|(with_reducible refine Kd.C_drewN ?_ _)|(with_reducible refine Kd.C_drew ?_)))
         (case side2=>exact HC0_0.out)
         (case side3=>repeat (first|exact (Kd.C_below HR0_1.out HB.out)|(with_reducible refine Kd.C_alloc ?_ _)|(with_reducible refine Kd.C_drewN ?_ _)|(with_reducible refine Kd.C_drew ?_)))
         (case side4=>exact HC0_1.out)
         (case side5=>repeat (first|exact (Kd.C_below HR1_0.out HB.out)|(with_reducible refine Kd.C_alloc ?_ _)|(with_reducible refine Kd.C_drewN ?_ _)|(with_reducible refine Kd.C_drew ?_)))
         (case side6=>exact HC1_0.out)
         (case side7=>repeat (first|exact (Kd.C_below HR1_1.out HB.out)|(with_reducible refine Kd.C_alloc ?_ _)|(with_reducible refine Kd.C_drewN ?_ _)|(with_reducible refine Kd.C_drew ?_)))
         (case side8=>exact HC1_1.out)
         rintro e w75 ⟨rfl,hb⟩
         refine ⟨_,rfl,?_⟩
         have n0_:=Aside0.mk (Kd.R_below (by (with_reducible repeat (first|apply Kd.R_alloc|apply Kd.R_drewN|apply Kd.R_drew));exact HO301.out) hb)
         have n1_:=Aside0.mk (Kd.R_below (by (with_reducible repeat (first|apply Kd.R_alloc|apply Kd.R_drewN|apply Kd.R_drew));exact HO304.out) hb)
         have n2_:=Aside0.mk (Kd.R_below (by (with_reducible repeat (first|apply Kd.R_alloc|apply Kd.R_drewN|apply Kd.R_drew));exact HO310.out) hb)
         have n3_:=Aside0.mk (Kd.R_below (by (with_reducible repeat (first|apply Kd.R_alloc|apply Kd.R_drewN|apply Kd.R_drew));exact HO313.out) hb)
         have n4_:=Aside0.mk (Kd.R_below (by (with_reducible repeat (first|apply Kd.R_alloc|apply Kd.R_drewN|apply Kd.R_drew));exact HO319.out) hb)
         have n5_:=Aside0.mk (Kd.R_below (by (with_reducible repeat (first|apply Kd.R_alloc|apply Kd.R_drewN|apply Kd.R_drew));exact HO322.out) hb)
         have n6_:=Aside0.mk (Kd.R_below (by (with_reducible repeat (first|apply Kd.R_alloc|apply Kd.R_drewN|apply Kd.R_drew));exact HO328.out) hb)
         have n7_:=Aside0.mk (Kd.R_below (by (with_reducible repeat (first|apply Kd.R_alloc|apply Kd.R_drewN|apply Kd.R_drew));exact HO331.out) hb)
         have n8_:=Aside0.mk (blk_below (g:=gb297) (o:=.cells #[.slice A0_0 l0_0.length c0_0,.slice A0_1 l0_1.length c0_1,.int .i64 a0_2] 25 (0,0)) (by (with_reducible repeat (first|refine blk_drewN ?_ _|refine blk_drew ?_|refine blk_alloc ?_ _));exact BK297.out) hb)
         have n9_:=Aside0.mk (blk_below (g:=gb298) (o:=.cells #[.slice A1_0 l1_0.length c1_0,.slice A1_1 l1_1.length c1_1,.int .i64 a1_2] 25 (0,0)) (by (with_reducible repeat (first|refine blk_drewN ?_ _|refine blk_drew ?_|refine blk_alloc ?_ _));exact BK298.out) hb)
         have n10_:=Aside0.mk (blk_below (g:=gb307) (o:=.cells #[.slice Ao30 t299.length co30,.slice Ao34 t302.length co34,.int .i64 t305] 25 (0,0)) (by (with_reducible repeat (first|refine blk_drewN ?_ _|refine blk_drew ?_|refine blk_alloc ?_ _));exact BK307.out) hb)
         have n11_:=Aside0.mk (blk_below (g:=gb316) (o:=.cells #[.slice Ao37 t308.length co37,.slice Ao42 t311.length co42,.int .i64 t314] 25 (0,0)) (by (with_reducible repeat (first|refine blk_drewN ?_ _|refine blk_drew ?_|refine blk_alloc ?_ _));exact BK316.out) hb)
         have n12_:=Aside0.mk (blk_below (g:=gb325) (o:=.cells #[.slice Ao48 t317.length co48,.slice Ao54 t320.length co54,.int .i64 t323] 25 (0,0)) (by (with_reducible repeat (first|refine blk_drewN ?_ _|refine blk_drew ?_|refine blk_alloc ?_ _));exact BK325.out) hb)
         have n13_:=Aside0.mk (blk_below (g:=gb334) (o:=.cells #[.slice Ao59 t326.length co59,.slice Ao66 t329.length co66,.int .i64 t332] 25 (0,0)) (by (with_reducible repeat (first|refine blk_drewN ?_ _|refine blk_drew ?_|refine blk_alloc ?_ _));exact BK334.out) hb)
         have n14_:=Aside0.mk (below_step (by repeat (first|(with_reducible first|exact HB.out|apply below_alloc|apply pw_below_drewN|apply below_drew1|refine below_set ?_ GE297.out|refine below_set ?_ GE298.out|refine below_set ?_ GE307.out|refine below_set ?_ GE316.out|refine below_set ?_ GE325.out|refine below_set ?_ GE334.out)|exact HB.out)) hb)
         clear HO301 HO304 HO310 HO313 HO319 HO322 HO328 HO331 BK297 BK298 BK307 BK316 BK325 BK334 HB
         have HO301:=n0_
         have HO304:=n1_
         have HO310:=n2_
         have HO313:=n3_
         have HO319:=n4_
         have HO322:=n5_
         have HO328:=n6_
         have HO331:=n7_
         have BK297:=n8_
         have BK298:=n9_
         have BK307:=n10_
         have BK316:=n11_
         have BK325:=n12_
         have BK334:=n13_
         have HB:=n14_
         clear n0_ n1_ n2_ n3_ n4_ n5_ n6_ n7_ n8_ n9_ n10_ n11_ n12_ n13_ n14_
         (try clear hb)
         (try clear hb2)
         (try clear hk)
         (try clear hi)
         refine hK.out _ _ ⟨(blk_cell BK307.out 0).trans rfl,(blk_cell BK307.out 1).trans rfl,(blk_cell BK307.out 2).trans rfl,(blk_cell BK316.out 0).trans rfl,(blk_cell BK316.out 1).trans rfl,(blk_cell BK316.out 2).trans rfl,(blk_cell BK297.out 0).trans rfl,(blk_cell BK297.out 1).trans rfl,(blk_cell BK297.out 2).trans rfl,(blk_cell BK325.out 0).trans rfl,(blk_cell BK325.out 1).trans rfl,(blk_cell BK325.out 2).trans rfl,(blk_cell BK334.out 0).trans rfl,(blk_cell BK334.out 1).trans rfl,(blk_cell BK334.out 2).trans rfl,(blk_cell BK298.out 0).trans rfl,(blk_cell BK298.out 1).trans rfl,(blk_cell BK298.out 2).trans rfl⟩ (fun hHeld=>?_)
         clear hK K
         refine norm_ (a':=?_) ?_ ?_
         rotate_left
         ·show Act.put _ (some 71) _=_
          simp only [Act.put,List.setIfInBounds_toArray,List.set_cons_zero,List.set_cons_succ,i64_w,i32_w]
          rfl
         refine pure_ (i:=35) (N:=some 72) (v:=?_) (a':=?_) #[true,true,true,true,true,true,true,true,true,true,true,true,true,true,true,true,true,true,true,true,true,true,true,true,true,true,true,true,true,true,true,true,true,true,true,true,false,false,false,false,false,false,false,false,false,false,false,false,false,false,false,false] rfl rfl (any_of HT_.out (by kernel_rfl)) (fun _ _ _ h=>h) (Or.inl ⟨by rfl,?_⟩) ?_ ?_
         rotate_left
         ·intro w'
          go_simp
          with_reducible rfl
         rotate_left
         ·simp only [Act.put,List.setIfInBounds_toArray,List.set_cons_zero,List.set_cons_succ,i64_w,i32_w]
          rfl
         refine pure_ (i:=36) (N:=some 73) (v:=?_) (a':=?_) #[true,true,true,true,true,true,true,true,true,true,true,true,true,true,true,true,true,true,true,true,true,true,true,true,true,true,true,true,true,true,true,true,true,true,true,true,true,false,false,false,false,false,false,false,false,false,false,false,false,false,false,false] rfl rfl (any_of HT_.out (by kernel_rfl)) (fun _ _ _ h=>h) (Or.inl ⟨by rfl,?_⟩) ?_ ?_
         rotate_left
         ·intro w'
          go_simp
          with_reducible rfl
         rotate_left
         ·simp only [Act.put,List.setIfInBounds_toArray,List.set_cons_zero,List.set_cons_succ,i64_w,i32_w]
          rfl
         refine pure_ (i:=37) (N:=some 74) (v:=?_) (a':=?_) #[true,true,true,true,true,true,true,true,true,true,true,true,true,true,true,true,true,true,true,true,true,true,true,true,true,true,true,true,true,true,true,true,true,true,true,true,true,true,false,false,false,false,false,false,false,false,false,false,false,false,false,false] rfl rfl (any_of HT_.out (by kernel_rfl)) (fun _ _ _ h=>h) (Or.inl ⟨by rfl,?_⟩) ?_ ?_
         rotate_left
         ·intro w'
          go_simp
          with_reducible rfl
         rotate_left
         ·simp only [Act.put,List.setIfInBounds_toArray,List.set_cons_zero,List.set_cons_succ,i64_w,i32_w]
          rfl
         refine take_ (i:=38) (N:=some 75) (v:=?_) (a':=?_) #[true,true,true,true,true,true,true,true,true,true,true,true,true,true,true,true,true,true,true,true,true,true,true,true,true,true,true,true,true,true,true,true,true,true,true,true,true,true,true,false,false,false,false,false,false,false,false,false,false,false,false,false] rfl rfl (take_ofW HT_.out HW_.out (by kernel_rfl)) (fun _ _ _ h=>h) (Or.inl ⟨by rfl,?_⟩) hHeld ?_ ?_
         rotate_left
         ·rintro w' ⟨s0,s1,s2,s3,s4,s5,s6,s7,s8,s9,s10,s11,s12,s13,s14,s15,s16,s17⟩
          go_simp
          with_reducible rfl
         rotate_left
         ·simp only [Act.put,List.setIfInBounds_toArray,List.set_cons_zero,List.set_cons_succ,i64_w,i32_w]
          rfl
         refine take_ (i:=39) (N:=some 76) (v:=?_) (a':=?_) #[true,true,true,true,true,true,true,true,true,true,true,true,true,true,true,true,true,true,true,true,true,true,true,true,true,true,true,true,true,true,true,true,true,true,true,true,true,true,true,true,false,false,false,false,false,false,false,false,false,false,false,false] rfl rfl (take_ofW HT_.out HW_.out (by kernel_rfl)) (fun _ _ _ h=>h) (Or.inl ⟨by rfl,?_⟩) hHeld ?_ ?_
         rotate_left
         ·rintro w' ⟨s0,s1,s2,s3,s4,s5,s6,s7,s8,s9,s10,s11,s12,s13,s14,s15,s16,s17⟩
          go_simp
          with_reducible rfl
         rotate_left
         ·simp only [Act.put,List.setIfInBounds_toArray,List.set_cons_zero,List.set_cons_succ,i64_w,i32_w]
          rfl
         refine take_ (i:=41) (N:=some 78) (v:=?_) (a':=?_) #[true,true,true,true,true,true,true,true,true,true,true,true,true,true,true,true,true,true,true,true,true,true,true,true,true,true,true,true,true,true,true,true,true,true,true,true,true,true,true,true,false,true,false,false,false,false,false,false,false,false,false,false] rfl rfl (take_ofW HT_.out HW_.out (by kernel_rfl)) (fun _ _ _ h=>h) (Or.inl ⟨by rfl,?_⟩) hHeld ?_ ?_
         rotate_left
         ·rintro w' ⟨s0,s1,s2,s3,s4,s5,s6,s7,s8,s9,s10,s11,s12,s13,s14,s15,s16,s17⟩
          go_simp
          with_reducible rfl
         rotate_left
         ·simp only [Act.put,List.setIfInBounds_toArray,List.set_cons_zero,List.set_cons_succ,i64_w,i32_w]
          rfl
         refine take_ (i:=42) (N:=some 79) (v:=?_) (a':=?_) #[true,true,true,true,true,true,true,true,true,true,true,true,true,true,true,true,true,true,true,true,true,true,true,true,true,true,true,true,true,true,true,true,true,true,true,true,true,true,true,true,false,true,true,false,false,false,false,false,false,false,false,false] rfl rfl (take_ofW HT_.out HW_.out (by kernel_rfl)) (fun _ _ _ h=>h) (Or.inl ⟨by rfl,?_⟩) hHeld ?_ ?_
         rotate_left
         ·rintro w' ⟨s0,s1,s2,s3,s4,s5,s6,s7,s8,s9,s10,s11,s12,s13,s14,s15,s16,s17⟩
          go_simp
          with_reducible rfl
         rotate_left
         ·simp only [Act.put,List.setIfInBounds_toArray,List.set_cons_zero,List.set_cons_succ,i64_w,i32_w]
          rfl
         refine one_ (i:=40) (N:=some 77) #[true,true,true,true,true,true,true,true,true,true,true,true,true,true,true,true,true,true,true,true,true,true,true,true,true,true,true,true,true,true,true,true,true,true,true,true,true,true,true,true,true,true,true,false,false,false,false,false,false,false,false,false] rfl rfl (one_of HT_.out (by kernel_rfl)) (by decide) (fun K hK=>?_)
         refine goes_ Try.func21 (by kernel_rfl) rfl #[.agg #[.slice A0_0 l0_0.length c0_0,.slice A0_1 l0_1.length c0_1,.int .i64 a0_2],.agg #[.slice A1_0 l1_0.length c1_0,.slice A1_1 l1_1.length c1_1,.int .i64 a1_2]] (by rfl) rfl rfl (by (try simp only [List.map_toArray,List.map_cons,List.map_nil]);first|done|rfl|(simp only [List.length_drop,List.length_take];rfl)) ?_
         with_reducible refine (mapjnl_Same.calls k _ _ l0_0 _ _ l0_1 a0_2 _ _ l1_0 _ _ l1_1 a1_2 t342 _ ?side1 ?side2 ?side3 ?side4 ?side5 ?side6 ?side7 ?side8 A22.out).mono ?_
         (case side1=>repeat (first|exact (Kd.C_below HR0_0.out HB.out)|(with_reducible refine Kd.C_alloc ?_ _)|(with_reducible refine Kd.C_drewN ?_ _)|(with_reducible refine Kd.C_drew ?_)))
         (case side2=>exact HC0_0.out)
         (case side3=>repeat (first|exact (Kd.C_below HR0_1.out HB.out)|(with_reducible refine Kd.C_alloc ?_ _)|(with_reducible refine Kd.C_drewN ?_ _)|(with_reducible refine Kd.C_drew ?_)))
         (case side4=>exact HC0_1.out)
         (case side5=>repeat (first|exact (Kd.C_below HR1_0.out HB.out)|(with_reducible refine Kd.C_alloc ?_ _)|(with_reducible refine Kd.C_drewN ?_ _)|(with_reducible refine Kd.C_drew ?_)))
         (case side6=>exact HC1_0.out)
         (case side7=>repeat (first|exact (Kd.C_below HR1_1.out HB.out)|(with_reducible refine Kd.C_alloc ?_ _)|(with_reducible refine Kd.C_drewN ?_ _)|(with_reducible refine Kd.C_drew ?_)))
         (case side8=>exact HC1_1.out)
         rintro e w76 ⟨rfl,hb⟩
         refine ⟨_,rfl,?_⟩
         have n0_:=Aside0.mk (Kd.R_below (by (with_reducible repeat (first|apply Kd.R_alloc|apply Kd.R_drewN|apply Kd.R_drew));exact HO301.out) hb)
         have n1_:=Aside0.mk (Kd.R_below (by (with_reducible repeat (first|apply Kd.R_alloc|apply Kd.R_drewN|apply Kd.R_drew));exact HO304.out) hb)
         have n2_:=Aside0.mk (Kd.R_below (by (with_reducible repeat (first|apply Kd.R_alloc|apply Kd.R_drewN|apply Kd.R_drew));exact HO310.out) hb)
         have n3_:=Aside0.mk (Kd.R_below (by (with_reducible repeat (first|apply Kd.R_alloc|apply Kd.R_drewN|apply Kd.R_drew));exact HO313.out) hb)
         have n4_:=Aside0.mk (Kd.R_below (by (with_reducible repeat (first|apply Kd.R_alloc|apply Kd.R_drewN|apply Kd.R_drew));exact HO319.out) hb)
         have n5_:=Aside0.mk (Kd.R_below (by (with_reducible repeat (first|apply Kd.R_alloc|apply Kd.R_drewN|apply Kd.R_drew));exact HO322.out) hb)
         have n6_:=Aside0.mk (Kd.R_below (by (with_reducible repeat (first|apply Kd.R_alloc|apply Kd.R_drewN|apply Kd.R_drew));exact HO328.out) hb)
         have n7_:=Aside0.mk (Kd.R_below (by (with_reducible repeat (first|apply Kd.R_alloc|apply Kd.R_drewN|apply Kd.R_drew));exact HO331.out) hb)
         have n8_:=Aside0.mk (blk_below (g:=gb297) (o:=.cells #[.slice A0_0 l0_0.length c0_0,.slice A0_1 l0_1.length c0_1,.int .i64 a0_2] 25 (0,0)) (by (with_reducible repeat (first|refine blk_drewN ?_ _|refine blk_drew ?_|refine blk_alloc ?_ _));exact BK297.out) hb)
         have n9_:=Aside0.mk (blk_below (g:=gb298) (o:=.cells #[.slice A1_0 l1_0.length c1_0,.slice A1_1 l1_1.length c1_1,.int .i64 a1_2] 25 (0,0)) (by (with_reducible repeat (first|refine blk_drewN ?_ _|refine blk_drew ?_|refine blk_alloc ?_ _));exact BK298.out) hb)
         have n10_:=Aside0.mk (blk_below (g:=gb307) (o:=.cells #[.slice Ao30 t299.length co30,.slice Ao34 t302.length co34,.int .i64 t305] 25 (0,0)) (by (with_reducible repeat (first|refine blk_drewN ?_ _|refine blk_drew ?_|refine blk_alloc ?_ _));exact BK307.out) hb)
         have n11_:=Aside0.mk (blk_below (g:=gb316) (o:=.cells #[.slice Ao37 t308.length co37,.slice Ao42 t311.length co42,.int .i64 t314] 25 (0,0)) (by (with_reducible repeat (first|refine blk_drewN ?_ _|refine blk_drew ?_|refine blk_alloc ?_ _));exact BK316.out) hb)
         have n12_:=Aside0.mk (blk_below (g:=gb325) (o:=.cells #[.slice Ao48 t317.length co48,.slice Ao54 t320.length co54,.int .i64 t323] 25 (0,0)) (by (with_reducible repeat (first|refine blk_drewN ?_ _|refine blk_drew ?_|refine blk_alloc ?_ _));exact BK325.out) hb)
         have n13_:=Aside0.mk (blk_below (g:=gb334) (o:=.cells #[.slice Ao59 t326.length co59,.slice Ao66 t329.length co66,.int .i64 t332] 25 (0,0)) (by (with_reducible repeat (first|refine blk_drewN ?_ _|refine blk_drew ?_|refine blk_alloc ?_ _));exact BK334.out) hb)
         have n14_:=Aside0.mk (below_step (by repeat (first|(with_reducible first|exact HB.out|apply below_alloc|apply pw_below_drewN|apply below_drew1|refine below_set ?_ GE297.out|refine below_set ?_ GE298.out|refine below_set ?_ GE307.out|refine below_set ?_ GE316.out|refine below_set ?_ GE325.out|refine below_set ?_ GE334.out)|exact HB.out)) hb)
         clear HO301 HO304 HO310 HO313 HO319 HO322 HO328 HO331 BK297 BK298 BK307 BK316 BK325 BK334 HB
         have HO301:=n0_
         have HO304:=n1_
         have HO310:=n2_
         have HO313:=n3_
         have HO319:=n4_
         have HO322:=n5_
         have HO328:=n6_
         have HO331:=n7_
         have BK297:=n8_
         have BK298:=n9_
         have BK307:=n10_
         have BK316:=n11_
         have BK325:=n12_
         have BK334:=n13_
         have HB:=n14_
         clear n0_ n1_ n2_ n3_ n4_ n5_ n6_ n7_ n8_ n9_ n10_ n11_ n12_ n13_ n14_
         (try clear hb)
         (try clear hb2)
         (try clear hk)
         (try clear hi)
         refine hK.out _ _ ⟨(blk_cell BK307.out 0).trans rfl,(blk_cell BK307.out 1).trans rfl,(blk_cell BK307.out 2).trans rfl,(blk_cell BK316.out 0).trans rfl,(blk_cell BK316.out 1).trans rfl,(blk_cell BK316.out 2).trans rfl,(blk_cell BK297.out 0).trans rfl,(blk_cell BK297.out 1).trans rfl,(blk_cell BK297.out 2).trans rfl,(blk_cell BK325.out 0).trans rfl,(blk_cell BK325.out 1).trans rfl,(blk_cell BK325.out 2).trans rfl,(blk_cell BK334.out 0).trans rfl,(blk_cell BK334.out 1).trans rfl,(blk_cell BK334.out 2).trans rfl,(blk_cell BK298.out 0).trans rfl,(blk_cell BK298.out 1).trans rfl,(blk_cell BK298.out 2).trans rfl⟩ (fun hHeld=>?_)
         clear hK K
         refine norm_ (a':=?_) ?_ ?_
         rotate_left
         ·show Act.put _ (some 77) _=_
          simp only [Act.put,List.setIfInBounds_toArray,List.set_cons_zero,List.set_cons_succ,i64_w,i32_w]
          rfl
         refine one_ (i:=43) (N:=some 80) #[true,true,true,true,true,true,true,true,true,true,true,true,true,true,true,true,true,true,true,true,true,true,true,true,true,true,true,true,true,true,true,true,true,true,true,true,true,true,true,true,true,true,true,true,false,false,false,false,false,false,false,false] rfl rfl (one_of HT_.out (by kernel_rfl)) (by decide) (fun K hK=>?_)
         refine goes_ Try.func16 (by kernel_rfl) rfl #[.agg #[.slice A0_0 l0_0.length c0_0,.slice A0_1 l0_1.length c0_1,.int .i64 a0_2],.agg #[.slice A1_0 l1_0.length c1_0,.slice A1_1 l1_1.length c1_1,.int .i64 a1_2]] (by rfl) rfl rfl (by (try simp only [List.map_toArray,List.map_cons,List.map_nil]);first|done|rfl|(simp only [List.length_drop,List.length_take];rfl)) ?_
         with_reducible refine (slipwayref06_Same.calls k _ _ l0_0 _ _ l0_1 a0_2 _ _ l1_0 _ _ l1_1 a1_2 t343 _ ?side1 ?side2 ?side3 ?side4 ?side5 ?side6 ?side7 ?side8 A23.out).mono ?_
         (case side1=>repeat (first|exact (Kd.C_below HR0_0.out HB.out)|(with_reducible refine Kd.C_alloc ?_ _)|(with_reducible refine Kd.C_drewN ?_ _)|(with_reducible refine Kd.C_drew ?_)))
         (case side2=>exact HC0_0.out)
         (case side3=>repeat (first|exact (Kd.C_below HR0_1.out HB.out)|(with_reducible refine Kd.C_alloc ?_ _)|(with_reducible refine Kd.C_drewN ?_ _)|(with_reducible refine Kd.C_drew ?_)))
         (case side4=>exact HC0_1.out)
         (case side5=>repeat (first|exact (Kd.C_below HR1_0.out HB.out)|(with_reducible refine Kd.C_alloc ?_ _)|(with_reducible refine Kd.C_drewN ?_ _)|(with_reducible refine Kd.C_drew ?_)))
         (case side6=>exact HC1_0.out)
         (case side7=>repeat (first|exact (Kd.C_below HR1_1.out HB.out)|(with_reducible refine Kd.C_alloc ?_ _)|(with_reducible refine Kd.C_drewN ?_ _)|(with_reducible refine Kd.C_drew ?_)))
         (case side8=>exact HC1_1.out)
         rintro e w77 ⟨rfl,hb⟩
         refine ⟨_,rfl,?_⟩
         have n0_:=Aside0.mk (Kd.R_below (by (with_reducible repeat (first|apply Kd.R_alloc|apply Kd.R_drewN|apply Kd.R_drew));exact HO301.out) hb)
         have n1_:=Aside0.mk (Kd.R_below (by (with_reducible repeat (first|apply Kd.R_alloc|apply Kd.R_drewN|apply Kd.R_drew));exact HO304.out) hb)
         have n2_:=Aside0.mk (Kd.R_below (by (with_reducible repeat (first|apply Kd.R_alloc|apply Kd.R_drewN|apply Kd.R_drew));exact HO310.out) hb)
         have n3_:=Aside0.mk (Kd.R_below (by (with_reducible repeat (first|apply Kd.R_alloc|apply Kd.R_drewN|apply Kd.R_drew));exact HO313.out) hb)
         have n4_:=Aside0.mk (Kd.R_below (by (with_reducible repeat (first|apply Kd.R_alloc|apply Kd.R_drewN|apply Kd.R_drew));exact HO319.out) hb)
         have n5_:=Aside0.mk (Kd.R_below (by (with_reducible repeat (first|apply Kd.R_alloc|apply Kd.R_drewN|apply Kd.R_drew));exact HO322.out) hb)
         have n6_:=Aside0.mk (Kd.R_below (by (with_reducible repeat (first|apply Kd.R_alloc|apply Kd.R_drewN|apply Kd.R_drew));exact HO328.out) hb)
         have n7_:=Aside0.mk (Kd.R_below (by (with_reducible repeat (first|apply Kd.R_alloc|apply Kd.R_drewN|apply Kd.R_drew));exact HO331.out) hb)
         have n8_:=Aside0.mk (blk_below (g:=gb297) (o:=.cells #[.slice A0_0 l0_0.length c0_0,.slice A0_1 l0_1.length c0_1,.int .i64 a0_2] 25 (0,0)) (by (with_reducible repeat (first|refine blk_drewN ?_ _|refine blk_drew ?_|refine blk_alloc ?_ _));exact BK297.out) hb)
         have n9_:=Aside0.mk (blk_below (g:=gb298) (o:=.cells #[.slice A1_0 l1_0.length c1_0,.slice A1_1 l1_1.length c1_1,.int .i64 a1_2] 25 (0,0)) (by (with_reducible repeat (first|refine blk_drewN ?_ _|refine blk_drew ?_|refine blk_alloc ?_ _));exact BK298.out) hb)
         have n10_:=Aside0.mk (blk_below (g:=gb307) (o:=.cells #[.slice Ao30 t299.length co30,.slice Ao34 t302.length co34,.int .i64 t305] 25 (0,0)) (by (with_reducible repeat (first|refine blk_drewN ?_ _|refine blk_drew ?_|refine blk_alloc ?_ _));exact BK307.out) hb)
         have n11_:=Aside0.mk (blk_below (g:=gb316) (o:=.cells #[.slice Ao37 t308.length co37,.slice Ao42 t311.length co42,.int .i64 t314] 25 (0,0)) (by (with_reducible repeat (first|refine blk_drewN ?_ _|refine blk_drew ?_|refine blk_alloc ?_ _));exact BK316.out) hb)
         have n12_:=Aside0.mk (blk_below (g:=gb325) (o:=.cells #[.slice Ao48 t317.length co48,.slice Ao54 t320.length co54,.int .i64 t323] 25 (0,0)) (by (with_reducible repeat (first|refine blk_drewN ?_ _|refine blk_drew ?_|refine blk_alloc ?_ _));exact BK325.out) hb)
         have n13_:=Aside0.mk (blk_below (g:=gb334) (o:=.cells #[.slice Ao59 t326.length co59,.slice Ao66 t329.length co66,.int .i64 t332] 25 (0,0)) (by (with_reducible repeat (first|refine blk_drewN ?_ _|refine blk_drew ?_|refine blk_alloc ?_ _));exact BK334.out) hb)
         have n14_:=Aside0.mk (below_step (by repeat (first|(with_reducible first|exact HB.out|apply below_alloc|apply pw_below_drewN|apply below_drew1|refine below_set ?_ GE297.out|refine below_set ?_ GE298.out|refine below_set ?_ GE307.out|refine below_set ?_ GE316.out|refine below_set ?_ GE325.out|refine below_set ?_ GE334.out)|exact HB.out)) hb)
         clear HO301 HO304 HO310 HO313 HO319 HO322 HO328 HO331 BK297 BK298 BK307 BK316 BK325 BK334 HB
         have HO301:=n0_
         have HO304:=n1_
         have HO310:=n2_
         have HO313:=n3_
         have HO319:=n4_
         have HO322:=n5_
         have HO328:=n6_
         have HO331:=n7_
         have BK297:=n8_
         have BK298:=n9_
         have BK307:=n10_
         have BK316:=n11_
         have BK325:=n12_
         have BK334:=n13_
         have HB:=n14_
         clear n0_ n1_ n2_ n3_ n4_ n5_ n6_ n7_ n8_ n9_ n10_ n11_ n12_ n13_ n14_
         (try clear hb)
         (try clear hb2)
         (try clear hk)
         (try clear hi)
         refine hK.out _ _ ⟨(blk_cell BK307.out 0).trans rfl,(blk_cell BK307.out 1).trans rfl,(blk_cell BK307.out 2).trans rfl,(blk_cell BK316.out 0).trans rfl,(blk_cell BK316.out 1).trans rfl,(blk_cell BK316.out 2).trans rfl,(blk_cell BK297.out 0).trans rfl,(blk_cell BK297.out 1).trans rfl,(blk_cell BK297.out 2).trans rfl,(blk_cell BK325.out 0).trans rfl,(blk_cell BK325.out 1).trans rfl,(blk_cell BK325.out 2).trans rfl,(blk_cell BK334.out 0).trans rfl,(blk_cell BK334.out 1).trans rfl,(blk_cell BK334.out 2).trans rfl,(blk_cell BK298.out 0).trans rfl,(blk_cell BK298.out 1).trans rfl,(blk_cell BK298.out 2).trans rfl⟩ (fun hHeld=>?_)
         clear hK K
         refine norm_ (a':=?_) ?_ ?_
         rotate_left
         ·show Act.put _ (some 80) _=_
          simp only [Act.put,List.setIfInBounds_toArray,List.set_cons_zero,List.set_cons_succ,i64_w,i32_w]
          rfl
         refine pure_ (i:=44) (N:=some 81) (v:=?_) (a':=?_) #[true,true,true,true,true,true,true,true,true,true,true,true,true,true,true,true,true,true,true,true,true,true,true,true,true,true,true,true,true,true,true,true,true,true,true,true,true,true,true,true,true,true,true,true,true,false,false,false,false,false,false,false] rfl rfl (any_of HT_.out (by kernel_rfl)) (fun _ _ _ h=>h) (Or.inl ⟨by rfl,?_⟩) ?_ ?_
         rotate_left
         ·intro w'
          go_simp
          with_reducible rfl
         rotate_left
         ·simp only [Act.put,List.setIfInBounds_toArray,List.set_cons_zero,List.set_cons_succ,i64_w,i32_w]
          rfl
         refine pure_ (i:=45) (N:=some 82) (v:=?_) (a':=?_) #[true,true,true,true,true,true,true,true,true,true,true,true,true,true,true,true,true,true,true,true,true,true,true,true,true,true,true,true,true,true,true,true,true,true,true,true,true,true,true,true,true,true,true,true,true,true,false,false,false,false,false,false] rfl rfl (any_of HT_.out (by kernel_rfl)) (fun _ _ _ h=>h) (Or.inl ⟨by rfl,?_⟩) ?_ ?_
         rotate_left
         ·intro w'
          go_simp
          with_reducible rfl
         rotate_left
         ·simp only [Act.put,List.setIfInBounds_toArray,List.set_cons_zero,List.set_cons_succ,i64_w,i32_w]
          rfl
         refine pure_ (i:=46) (N:=some 83) (v:=?_) (a':=?_) #[true,true,true,true,true,true,true,true,true,true,true,true,true,true,true,true,true,true,true,true,true,true,true,true,true,true,true,true,true,true,true,true,true,true,true,true,true,true,true,true,true,true,true,true,true,true,true,false,false,false,false,false] rfl rfl (any_of HT_.out (by kernel_rfl)) (fun _ _ _ h=>h) (Or.inl ⟨by rfl,?_⟩) ?_ ?_
         rotate_left
         ·intro w'
          go_simp
          with_reducible rfl
         rotate_left
         ·simp only [Act.put,List.setIfInBounds_toArray,List.set_cons_zero,List.set_cons_succ,i64_w,i32_w]
          rfl
         refine take_ (i:=47) (N:=some 84) (v:=?_) (a':=?_) #[true,true,true,true,true,true,true,true,true,true,true,true,true,true,true,true,true,true,true,true,true,true,true,true,true,true,true,true,true,true,true,true,true,true,true,true,true,true,true,true,true,true,true,true,true,true,true,true,false,false,false,false] rfl rfl (take_ofW HT_.out HW_.out (by kernel_rfl)) (fun _ _ _ h=>h) (Or.inl ⟨by rfl,?_⟩) hHeld ?_ ?_
         rotate_left
         ·rintro w' ⟨s0,s1,s2,s3,s4,s5,s6,s7,s8,s9,s10,s11,s12,s13,s14,s15,s16,s17⟩
          go_simp
          with_reducible rfl
         rotate_left
         ·simp only [Act.put,List.setIfInBounds_toArray,List.set_cons_zero,List.set_cons_succ,i64_w,i32_w]
          rfl
         refine take_ (i:=48) (N:=some 85) (v:=?_) (a':=?_) #[true,true,true,true,true,true,true,true,true,true,true,true,true,true,true,true,true,true,true,true,true,true,true,true,true,true,true,true,true,true,true,true,true,true,true,true,true,true,true,true,true,true,true,true,true,true,true,true,true,false,false,false] rfl rfl (take_ofW HT_.out HW_.out (by kernel_rfl)) (fun _ _ _ h=>h) (Or.inl ⟨by rfl,?_⟩) hHeld ?_ ?_
         rotate_left
         ·rintro w' ⟨s0,s1,s2,s3,s4,s5,s6,s7,s8,s9,s10,s11,s12,s13,s14,s15,s16,s17⟩
          go_simp
          with_reducible rfl
         rotate_left
         ·simp only [Act.put,List.setIfInBounds_toArray,List.set_cons_zero,List.set_cons_succ,i64_w,i32_w]
          rfl
         refine one_ (i:=49) (N:=some 86) #[true,true,true,true,true,true,true,true,true,true,true,true,true,true,true,true,true,true,true,true,true,true,true,true,true,true,true,true,true,true,true,true,true,true,true,true,true,true,true,true,true,true,true,true,true,true,true,true,true,true,false,false] rfl rfl (one_of HT_.out (by kernel_rfl)) (by decide) (fun K hK=>?_)
         refine goes_ Try.func21 (by kernel_rfl) rfl #[.agg #[.slice A0_0 l0_0.length c0_0,.slice A0_1 l0_1.length c0_1,.int .i64 a0_2],.agg #[.slice A0_0 l0_0.length c0_0,.slice A0_1 l0_1.length c0_1,.int .i64 a0_2]] (by rfl) rfl rfl (by (try simp only [List.map_toArray,List.map_cons,List.map_nil]);first|done|rfl|(simp only [List.length_drop,List.length_take];rfl)) ?_
         with_reducible refine (mapjnl_Same.calls k _ _ l0_0 _ _ l0_1 a0_2 _ _ l0_0 _ _ l0_1 a0_2 t344 _ ?side1 ?side2 ?side3 ?side4 ?side5 ?side6 ?side7 ?side8 A25.out).mono ?_
         (case side1=>repeat (first|exact (Kd.C_below HR0_0.out HB.out)|(with_reducible refine Kd.C_alloc ?_ _)|(with_reducible refine Kd.C_drewN ?_ _)|(with_reducible refine Kd.C_drew ?_)))
         (case side2=>exact HC0_0.out)
         (case side3=>repeat (first|exact (Kd.C_below HR0_1.out HB.out)|(with_reducible refine Kd.C_alloc ?_ _)|(with_reducible refine Kd.C_drewN ?_ _)|(with_reducible refine Kd.C_drew ?_)))
         (case side4=>exact HC0_1.out)
         (case side5=>repeat (first|exact (Kd.C_below HR0_0.out HB.out)|(with_reducible refine Kd.C_alloc ?_ _)|(with_reducible refine Kd.C_drewN ?_ _)|(with_reducible refine Kd.C_drew ?_)))
         (case side6=>exact HC0_0.out)
         (case side7=>repeat (first|exact (Kd.C_below HR0_1.out HB.out)|(with_reducible refine Kd.C_alloc ?_ _)|(with_reducible refine Kd.C_drewN ?_ _)|(with_reducible refine Kd.C_drew ?_)))
         (case side8=>exact HC0_1.out)
         rintro e w78 ⟨rfl,hb⟩
         refine ⟨_,rfl,?_⟩
         have n0_:=Aside0.mk (Kd.R_below (by (with_reducible repeat (first|apply Kd.R_alloc|apply Kd.R_drewN|apply Kd.R_drew));exact HO301.out) hb)
         have n1_:=Aside0.mk (Kd.R_below (by (with_reducible repeat (first|apply Kd.R_alloc|apply Kd.R_drewN|apply Kd.R_drew));exact HO304.out) hb)
         have n2_:=Aside0.mk (Kd.R_below (by (with_reducible repeat (first|apply Kd.R_alloc|apply Kd.R_drewN|apply Kd.R_drew));exact HO310.out) hb)
         have n3_:=Aside0.mk (Kd.R_below (by (with_reducible repeat (first|apply Kd.R_alloc|apply Kd.R_drewN|apply Kd.R_drew));exact HO313.out) hb)
         have n4_:=Aside0.mk (Kd.R_below (by (with_reducible repeat (first|apply Kd.R_alloc|apply Kd.R_drewN|apply Kd.R_drew));exact HO319.out) hb)
         have n5_:=Aside0.mk (Kd.R_below (by (with_reducible repeat (first|apply Kd.R_alloc|apply Kd.R_drewN|apply Kd.R_drew));exact HO322.out) hb)
         have n6_:=Aside0.mk (Kd.R_below (by (with_reducible repeat (first|apply Kd.R_alloc|apply Kd.R_drewN|apply Kd.R_drew));exact HO328.out) hb)
         have n7_:=Aside0.mk (Kd.R_below (by (with_reducible repeat (first|apply Kd.R_alloc|apply Kd.R_drewN|apply Kd.R_drew));exact HO331.out) hb)
         have n8_:=Aside0.mk (blk_below (g:=gb297) (o:=.cells #[.slice A0_0 l0_0.length c0_0,.slice A0_1 l0_1.length c0_1,.int .i64 a0_2] 25 (0,0)) (by (with_reducible repeat (first|refine blk_drewN ?_ _|refine blk_drew ?_|refine blk_alloc ?_ _));exact BK297.out) hb)
         have n9_:=Aside0.mk (blk_below (g:=gb298) (o:=.cells #[.slice A1_0 l1_0.length c1_0,.slice A1_1 l1_1.length c1_1,.int .i64 a1_2] 25 (0,0)) (by (with_reducible repeat (first|refine blk_drewN ?_ _|refine blk_drew ?_|refine blk_alloc ?_ _));exact BK298.out) hb)
         have n10_:=Aside0.mk (blk_below (g:=gb307) (o:=.cells #[.slice Ao30 t299.length co30,.slice Ao34 t302.length co34,.int .i64 t305] 25 (0,0)) (by (with_reducible repeat (first|refine blk_drewN ?_ _|refine blk_drew ?_|refine blk_alloc ?_ _));exact BK307.out) hb)
         have n11_:=Aside0.mk (blk_below (g:=gb316) (o:=.cells #[.slice Ao37 t308.length co37,.slice Ao42 t311.length co42,.int .i64 t314] 25 (0,0)) (by (with_reducible repeat (first|refine blk_drewN ?_ _|refine blk_drew ?_|refine blk_alloc ?_ _));exact BK316.out) hb)
         have n12_:=Aside0.mk (blk_below (g:=gb325) (o:=.cells #[.slice Ao48 t317.length co48,.slice Ao54 t320.length co54,.int .i64 t323] 25 (0,0)) (by (with_reducible repeat (first|refine blk_drewN ?_ _|refine blk_drew ?_|refine blk_alloc ?_ _));exact BK325.out) hb)
         have n13_:=Aside0.mk (blk_below (g:=gb334) (o:=.cells #[.slice Ao59 t326.length co59,.slice Ao66 t329.length co66,.int .i64 t332] 25 (0,0)) (by (with_reducible repeat (first|refine blk_drewN ?_ _|refine blk_drew ?_|refine blk_alloc ?_ _));exact BK334.out) hb)
         have n14_:=Aside0.mk (below_step (by repeat (first|(with_reducible first|exact HB.out|apply below_alloc|apply pw_below_drewN|apply below_drew1|refine below_set ?_ GE297.out|refine below_set ?_ GE298.out|refine below_set ?_ GE307.out|refine below_set ?_ GE316.out|refine below_set ?_ GE325.out|refine below_set ?_ GE334.out)|exact HB.out)) hb)
         clear HO301 HO304 HO310 HO313 HO319 HO322 HO328 HO331 BK297 BK298 BK307 BK316 BK325 BK334 HB
         have HO301:=n0_
         have HO304:=n1_
         have HO310:=n2_
         have HO313:=n3_
         have HO319:=n4_
         have HO322:=n5_
         have HO328:=n6_
         have HO331:=n7_
         have BK297:=n8_
         have BK298:=n9_
         have BK307:=n10_
         have BK316:=n11_
         have BK325:=n12_
         have BK334:=n13_
         have HB:=n14_
         clear n0_ n1_ n2_ n3_ n4_ n5_ n6_ n7_ n8_ n9_ n10_ n11_ n12_ n13_ n14_
         (try clear hb)
         (try clear hb2)
         (try clear hk)
         (try clear hi)
         refine hK.out _ _ ⟨(blk_cell BK307.out 0).trans rfl,(blk_cell BK307.out 1).trans rfl,(blk_cell BK307.out 2).trans rfl,(blk_cell BK316.out 0).trans rfl,(blk_cell BK316.out 1).trans rfl,(blk_cell BK316.out 2).trans rfl,(blk_cell BK297.out 0).trans rfl,(blk_cell BK297.out 1).trans rfl,(blk_cell BK297.out 2).trans rfl,(blk_cell BK325.out 0).trans rfl,(blk_cell BK325.out 1).trans rfl,(blk_cell BK325.out 2).trans rfl,(blk_cell BK334.out 0).trans rfl,(blk_cell BK334.out 1).trans rfl,(blk_cell BK334.out 2).trans rfl,(blk_cell BK298.out 0).trans rfl,(blk_cell BK298.out 1).trans rfl,(blk_cell BK298.out 2).trans rfl⟩ (fun hHeld=>?_)
         clear hK K
         refine norm_ (a':=?_) ?_ ?_
         rotate_left
         ·show Act.put _ (some 86) _=_
          simp only [Act.put,List.setIfInBounds_toArray,List.set_cons_zero,List.set_cons_succ,i64_w,i32_w]
          rfl
         refine pure_ (i:=50) (N:=some 87) (v:=?_) (a':=?_) #[true,true,true,true,true,true,true,true,true,true,true,true,true,true,true,true,true,true,true,true,true,true,true,true,true,true,true,true,true,true,true,true,true,true,true,true,true,true,true,true,true,true,true,true,true,true,true,true,true,true,true,false] rfl rfl (any_of HT_.out (by kernel_rfl)) (fun _ _ _ h=>h) (Or.inl ⟨by rfl,?_⟩) ?_ ?_
         rotate_left
         ·intro w'
          go_simp
          with_reducible rfl
         rotate_left
         ·simp only [Act.put,List.setIfInBounds_toArray,List.set_cons_zero,List.set_cons_succ,i64_w,i32_w]
          rfl
         refine pure_ (i:=51) (N:=some 6) (v:=?_) (a':=?_) #[true,true,true,true,true,true,true,true,true,true,true,true,true,true,true,true,true,true,true,true,true,true,true,true,true,true,true,true,true,true,true,true,true,true,true,true,true,true,true,true,true,true,true,true,true,true,true,true,true,true,true,true] rfl rfl (any_of HT_.out (by kernel_rfl)) (fun _ _ _ h=>h) (Or.inl ⟨by rfl,?_⟩) ?_ ?_
         rotate_left
         ·intro w'
          go_simp
          with_reducible rfl
         rotate_left
         ·simp only [Act.put,List.setIfInBounds_toArray,List.set_cons_zero,List.set_cons_succ,i64_w,i32_w]
          rfl
         refine done_ (done_of HT_.out (by kernel_rfl)) ?_
         try go_wp2
         go_ret
         exact ⟨by first|rfl|(simp [errW_none,errW_some] <;> rfl)|(simp [*,errW_none,errW_some] <;> rfl),by repeat (first|(with_reducible first|exact HB.out|apply below_alloc|apply pw_below_drewN|apply below_drew1|refine below_set ?_ GE297.out|refine below_set ?_ GE298.out|refine below_set ?_ GE307.out|refine below_set ?_ GE316.out|refine below_set ?_ GE325.out|refine below_set ?_ GE334.out)|exact HB.out)⟩
        ·rw [if_neg c24] at H
         have c24b0:(t342 == t343)=false:=by simpa using c24
         (try (have c24b1:decide (t342=t343)=false:=by simpa using c24))
         (try (have c24b2:(t342 == t343)=false:=by simpa using c24))
         (try (have c24b3:¬ (t342=t343):=by simpa using c24))
         clear c24
         exact absurd H (by simp)
       ·rw [if_neg c21] at H
        have c21b0:(t340 == t341)=false:=by simpa using c21
        (try (have c21b1:decide (t340=t341)=false:=by simpa using c21))
        (try (have c21b2:(t340 == t341)=false:=by simpa using c21))
        (try (have c21b3:¬ (t340=t341):=by simpa using c21))
        clear c21
        exact absurd H (by simp)
      ·rw [if_neg c18] at H
       have c18b0:(t324 == t333)=false:=beq_eq_false_iff_ne.mpr c18
       have c18b1:(t324 != t333)=true:=bne_iff_ne.mpr c18
       exact absurd H (by simp)
     ·replace c17:=Bool.eq_false_iff.mpr c17
      subst c17
      have H1:(none)=some r:=by rw [if_neg (show ¬ (false=true) by decide)] at H;exact H
      clear H
      have H:=H1
      clear H1
      exact absurd H (by simp)
    ·rw [if_neg c15] at H
     have c15b0:(t337 == t338)=false:=beq_eq_false_iff_ne.mpr c15
     have c15b1:(t337 != t338)=true:=bne_iff_ne.mpr c15
     exact absurd H (by simp)
   ·rw [if_neg c12] at H
    have c12b0:(t306 == t315)=false:=beq_eq_false_iff_ne.mpr c12
    have c12b1:(t306 != t315)=true:=bne_iff_ne.mpr c12
    exact absurd H (by simp)
  ·replace c11:=Bool.eq_false_iff.mpr c11
   subst c11
   have H1:(none)=some r:=by rw [if_neg (show ¬ (false=true) by decide)] at H;exact H
   clear H
   have H:=H1
   clear H1
   exact absurd H (by simp)
 ·replace c9:=Bool.eq_false_iff.mpr c9
  subst c9
  have H1:(none)=some r:=by rw [if_neg (show ¬ (false=true) by decide)] at H;exact H
  clear H
  have H:=H1
  clear H1
  exact absurd H (by simp)
/-- THE ONE PURE STATEMENT of slipwaylaw06_MapStates: yours. -/
def slipwaylaw06_MapStates.Pure:Prop:=∀ (l0_0:List Bool) (l0_1:List Int) (a0_2:Int) (l1_0:List Bool) (l1_1:List Int) (a1_2:Int) (a2:Int),(l0_0.length≤maxLen∧l0_0.length * 1≤140737488351232∧∀ x ∈ l0_0,True) → (l0_1.length≤maxLen∧l0_1.length * 8≤140737488351232∧∀ x ∈ l0_1,(Lit.int .i64 x).wf=true) → (Lit.int .i64 a0_2).wf=true → (l1_0.length≤maxLen∧l1_0.length * 1≤140737488351232∧∀ x ∈ l1_0,True) → (l1_1.length≤maxLen∧l1_1.length * 8≤140737488351232∧∀ x ∈ l1_1,(Lit.int .i64 x).wf=true) → (Lit.int .i64 a1_2).wf=true → (Lit.int .i64 a2).wf=true → ∃ k,slipwaylaw06_MapStates.f k l0_0 l0_1 a0_2 l1_0 l1_1 a1_2 a2=some true
theorem slipwaylaw06_MapStates.walk (P:slipwaylaw06_MapStates.Pure) (A0_0:Option Addr) (c0_0:Nat) (l0_0:List Bool) (A0_1:Option Addr) (c0_1:Nat) (l0_1:List Int) (a0_2:Int) (A1_0:Option Addr) (c1_0:Nat) (l1_0:List Bool) (A1_1:Option Addr) (c1_1:Nat) (l1_1:List Int) (a1_2:Int) (a2:Int) (w:World) (hr0_0:Kd.C Kd.bool w A0_0 l0_0.length l0_0) (hc0_0:l0_0.length≤c0_0) (hr0_1:Kd.C (Kd.int .i64) w A0_1 l0_1.length l0_1) (hc0_1:l0_1.length≤c0_1) (hr1_0:Kd.C Kd.bool w A1_0 l1_0.length l1_0) (hc1_0:l1_0.length≤c1_0) (hr1_1:Kd.C (Kd.int .i64) w A1_1 l1_1.length l1_1) (hc1_1:l1_1.length≤c1_1) (w0_0:(l0_0.length≤maxLen∧l0_0.length * 1≤140737488351232∧∀ x ∈ l0_0,True)) (w0_1:(l0_1.length≤maxLen∧l0_1.length * 8≤140737488351232∧∀ x ∈ l0_1,(Lit.int .i64 x).wf=true)) (w0_2:(Lit.int .i64 a0_2).wf=true) (w1_0:(l1_0.length≤maxLen∧l1_0.length * 1≤140737488351232∧∀ x ∈ l1_0,True)) (w1_1:(l1_1.length≤maxLen∧l1_1.length * 8≤140737488351232∧∀ x ∈ l1_1,(Lit.int .i64 x).wf=true)) (w1_2:(Lit.int .i64 a1_2).wf=true) (w2:(Lit.int .i64 a2).wf=true) :
  Calls Try.prog 3 #[.agg #[.slice A0_0 l0_0.length c0_0,.slice A0_1 l0_1.length c0_1,.int .i64 a0_2],.agg #[.slice A1_0 l1_0.length c1_0,.slice A1_1 l1_1.length c1_1,.int .i64 a1_2],.int .i64 a2] w fun e w'=>e=.returned (.bool true)∧Below w.heap.size w w':=by
 obtain ⟨k,h⟩:=P l0_0 l0_1 a0_2 l1_0 l1_1 a1_2 a2 w0_0 w0_1 w0_2 w1_0 w1_1 w1_2 w2
 refine (slipwaylaw06_MapStates.calls k A0_0 c0_0 l0_0 A0_1 c0_1 l0_1 a0_2 A1_0 c1_0 l1_0 A1_1 c1_1 l1_1 a1_2 a2 true w hr0_0 hc0_0 hr0_1 hc0_1 hr1_0 hc1_0 hr1_1 hc1_1 h).mono ?_
 rintro e w' ⟨rfl,hd⟩
 exact ⟨rfl,hd⟩
end Go.Proofs.Ytkhbmgclklmimaa.Print
end
