/- Texts of the proof of PoolFair, part 17. -/
import Derived.Test.YtlegmnpngcadhaaPoolFairMA
import Derived.Test.YtlegmnpngcadhaaPoolFairM13
section
namespace Go.Proofs.Ytlegmnpngcadhaa.Print
open Go.RowKit Go.Proofs.YtlegmnpngcadhaaW.PrintWords Go.Proofs.YtlegmnpngcadhaaW.PrintLast Go.Proofs.YtlegmnpngcadhaaW.PrintMore
attribute [local go_sem] max2_int min2_int max_two min_two max_three min_three max_four min_four   -- for this text's walks alone
attribute [local go_sem ↓] Go.Proofs.Ytlegmnpngcadhaa.Sem.isSome_setCell
attribute [local go_sem] Go.Instr.field Go.asAgg
set_option linter.unusedVariables false
set_option linter.unusedSimpArgs false
mutual
def slipwayref04_New.j0:Nat → Int → List Int → Bool → Option (List Int × List Int × Int)
 | 0,_,_,_=>none
 | k + 1,x0,x1,x14=>if x14=true then (some (([]:List Int),([]:List Int),20)) else (slipwayref04_New.l0 k x0 x1 0 ([]:List Int) ([]:List Int))
def slipwayref04_New.l0:Nat → Int → List Int → Int → List Int → List Int → Option (List Int × List Int × Int)
 | 0,_,_,_,_,_=>none
 | k + 1,x0,x1,x7,x123000,x123001=>if x7 < x0 then (if x123000.length < 17592186044416 then (if x123001.length < 17592186044416 then (slipwayref04_New.l0 k x0 x1 (wrap64 (x7 + 1)) (x123000 ++ [1]) (x123001 ++ [0])) else (none)) else (none)) else (slipwayref04_New.l1 k x0 x1 0 x123000 x123001)
def slipwayref04_New.l1:Nat → Int → List Int → Int → List Int → List Int → Option (List Int × List Int × Int)
 | 0,_,_,_,_,_=>none
 | k + 1,x0,x1,x8,x123000,x123001=>if x8 < (x1.length:Int) then (if 0≤x8 then (if (rd x1 x8) < 0 then (some (([]:List Int),([]:List Int),22)) else (if (rd x1 x8) ≥ x0 then (some (([]:List Int),([]:List Int),22)) else (if 0≤(rd x1 x8) then (if (rd x1 x8) < (x123000.length:Int) then (if (rd x123000 (rd x1 x8))=6 then (some (([]:List Int),([]:List Int),22)) else (slipwayref04_New.l1 k x0 x1 (wrap64 (x8 + 1)) (x123000.set ((rd x1 x8):Int).toNat 6) x123001)) else (none)) else (none)))) else (none)) else (some (x123000,x123001,0))
end
def slipwayref04_New.f (k:Nat) (a0:Int) (l1:List Int):Option (List Int × List Int × Int):=if a0 < 16 then (slipwayref04_New.j0 k a0 l1 true) else (slipwayref04_New.j0 k a0 l1 (decide (a0 > 256)))
end Go.Proofs.Ytlegmnpngcadhaa.Print
end
