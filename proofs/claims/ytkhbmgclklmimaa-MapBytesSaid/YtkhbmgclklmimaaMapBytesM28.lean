/- Texts of the proof of MapBytes, part 28. -/
import Derived.Test.YtkhbmgclklmimaaMapBytesMA
import Derived.Test.YtkhbmgclklmimaaMapBytesM15
import Derived.Test.YtkhbmgclklmimaaMapBytesM16
section
namespace Go.Proofs.Ytkhbmgclklmimaa.Print
open Go.RowKit Go.Proofs.YtkhbmgclklmimaaW.PrintWords Go.Proofs.YtkhbmgclklmimaaW.PrintLast Go.Proofs.YtkhbmgclklmimaaW.PrintMore
attribute [local go_sem] max2_int min2_int max_two min_two max_three min_three max_four min_four   -- for this text's walks alone
attribute [local go_sem ↓] Go.Proofs.Ytkhbmgclklmimaa.Sem.isSome_setCell
attribute [local go_sem] Go.Instr.field Go.asAgg
set_option linter.unusedVariables false
set_option linter.unusedSimpArgs false
attribute [local go_sem high] eqA55
def api_MapRecord_70.l0:Nat → List (S55) → List (S55) → Int → Int → Option (Bool)
 | 0,_,_,_,_=>none
 | k + 1,x0,x1,x12,x13=>if x13 < x12 then (if 0≤x13 then (if x13 < (x0.length:Int) then (if x13 < (x1.length:Int) then (if (!(((rd_T55 x0 x13).f0) == ((rd_T55 x1 x13).f0)) || (!(((rd_T55 x0 x13).f1) == ((rd_T55 x1 x13).f1)) || (!(((rd_T55 x0 x13).f2) == ((rd_T55 x1 x13).f2)))))=true then (some false) else (api_MapRecord_70.l0 k x0 x1 x12 (wrap64 (x13 + 1)))) else (none)) else (none)) else (none)) else (some true)
def api_MapRecord_70.f (k:Nat) (l0:List (S55)) (l1:List (S55)):Option (Bool):=if (l0.length:Int)=(l1.length:Int) then (api_MapRecord_70.l0 k l0 l1 (l0.length:Int) 0) else (some false)
def mapjnl_SamePage.f (k:Nat) (a0_0:Int) (a0_1:Int) (a0_2:Int) (a0_3:Int) (l0_4:List Bool) (l0_5:List Int) (l0_6:List (S55)) (a1_0:Int) (a1_1:Int) (a1_2:Int) (a1_3:Int) (l1_4:List Bool) (l1_5:List Int) (l1_6:List (S55)):Option (Bool):=if a0_0=a1_0 then (if a0_1=a1_1 then (if a0_2=a1_2 then (if a0_3=a1_3 then ((slices_Equal_bool_bool.f k l0_4 l1_4).bind fun t520=>(if t520=true then ((slices_Equal_int64_int64.f k l0_5 l1_5).bind fun t521=>(if t521=true then ((api_MapRecord_70.f k l0_6 l1_6).bind fun t522=>(some t522)) else (some false))) else (some false))) else (some false)) else (some false)) else (some false)) else (some false)
end Go.Proofs.Ytkhbmgclklmimaa.Print
end
