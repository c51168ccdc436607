/-
  No cell of these rows narrows 'for every input' (looked for: loops, veiled, ifaces, maps, wideKeys, modest, calm, conditions, laid).
  DERIVED. THE GIVEN ROWS OF THIS SEAT. 8 by the template 'for every input the law returns true; each argument reads behind the call as it read before'; 0 by the template 'total and deterministic' (their statements: YtbgfoibfjgmfhaaTotals.lean).
  GIVEN WITH THE SEED: the statements are not yours to turn. If you find one false, say at which input.
  Laid BY PROGRAM, IN A SANDBOX (cutbox-rows.mjs): the forced cells as the released guide's own fill.sh prints them over the translation de12b1a728b5a800… (all of the seat's roots in one cut). By AI agents, Wed Nov 11 2026. No macro, syntax, notation, axiom, sorry.
-/
import Derived.Test.YtbgfoibfjgmfhaaChecked
import GoSem.Claim
import GoSem.ClaimJoined
import GoSem.ClaimMapViews
import Derived.JoinedTies
import Derived.KernelRfl
namespace Go.Proofs.Ytbgfoibfjgmfhaa
/- THE CELL 'sum', in the pinned program and in every row, IS THE sha256 OF THE DUMP (.gsa) THAT YtbgfoibfjgmfhaaProg.lean LOADS. Nothing in Lean hashes anything: it is a label: what it is worth is what the hold of that sum in a sandbox is worth. -/
noncomputable def Try.pinned : Pinned := { name := "ytbgfoibfjgmfhaa", sum := "de12b1a728b5a800ad9e693220beae277911501ffcd43b0af34561df1b3cfe12", checked := Try.checked }
namespace Rows
def none {H : Type} : Left H := { results := [], args := [] }

/-- 'slipwaylaw01.SealUnlike': WHATEVER THE INPUT: true; the input reads as it did. -/
def sealUnlikeSpec : ChangeSpec := { name := "sealUnlike", fn := fun _ => fun
  | [d1, d2] => { results := [.lit (.bool true)], args := [d1, d2] }
  | _ => none }
def sealUnlikeRow : OpenClaim := { program := "ytbgfoibfjgmfhaa", sum := "de12b1a728b5a800ad9e693220beae277911501ffcd43b0af34561df1b3cfe12", func := "slipway/slipwaylaw01.SealUnlike", spec := "sealUnlike", apart := false }
def SealUnlikeSaid : Prop := sealUnlikeRow.holds Try.pinned (OpenSpec.ofChange sealUnlikeSpec)

/-- ITS FALSE NEIGHBOUR: 'it returns false'. Refute it at one input. -/
def sealUnlikeWrong : ChangeSpec := { name := "sealUnlike", fn := fun _ => fun
  | [d1, d2] => { results := [.lit (.bool false)], args := [d1, d2] }
  | _ => none }
def SealUnlikeWrongFalsely : Prop := sealUnlikeRow.holds Try.pinned (OpenSpec.ofChange sealUnlikeWrong)

/-- 'slipwaylaw01.SealMakes': WHATEVER THE INPUT: true; the input reads as it did. -/
def sealMakesSpec : ChangeSpec := { name := "sealMakes", fn := fun _ => fun
  | [d] => { results := [.lit (.bool true)], args := [d] }
  | _ => none }
def sealMakesRow : OpenClaim := { program := "ytbgfoibfjgmfhaa", sum := "de12b1a728b5a800ad9e693220beae277911501ffcd43b0af34561df1b3cfe12", func := "slipway/slipwaylaw01.SealMakes", spec := "sealMakes", apart := false }
def SealMakesSaid : Prop := sealMakesRow.holds Try.pinned (OpenSpec.ofChange sealMakesSpec)

/-- ITS FALSE NEIGHBOUR: 'it returns false'. Refute it at one input. -/
def sealMakesWrong : ChangeSpec := { name := "sealMakes", fn := fun _ => fun
  | [d] => { results := [.lit (.bool false)], args := [d] }
  | _ => none }
def SealMakesWrongFalsely : Prop := sealMakesRow.holds Try.pinned (OpenSpec.ofChange sealMakesWrong)

/-- 'slipwaylaw01.SealBack': WHATEVER THE INPUT: true; the input reads as it did. -/
def sealBackSpec : ChangeSpec := { name := "sealBack", fn := fun _ => fun
  | [d] => { results := [.lit (.bool true)], args := [d] }
  | _ => none }
def sealBackRow : OpenClaim := { program := "ytbgfoibfjgmfhaa", sum := "de12b1a728b5a800ad9e693220beae277911501ffcd43b0af34561df1b3cfe12", func := "slipway/slipwaylaw01.SealBack", spec := "sealBack", apart := false }
def SealBackSaid : Prop := sealBackRow.holds Try.pinned (OpenSpec.ofChange sealBackSpec)

/-- ITS FALSE NEIGHBOUR: 'it returns false'. Refute it at one input. -/
def sealBackWrong : ChangeSpec := { name := "sealBack", fn := fun _ => fun
  | [d] => { results := [.lit (.bool false)], args := [d] }
  | _ => none }
def SealBackWrongFalsely : Prop := sealBackRow.holds Try.pinned (OpenSpec.ofChange sealBackWrong)

/-- 'slipwaylaw01.SealSided': WHATEVER THE INPUT: true; the input reads as it did. -/
def sealSidedSpec : ChangeSpec := { name := "sealSided", fn := fun _ => fun
  | [d1, d2] => { results := [.lit (.bool true)], args := [d1, d2] }
  | _ => none }
def sealSidedRow : OpenClaim := { program := "ytbgfoibfjgmfhaa", sum := "de12b1a728b5a800ad9e693220beae277911501ffcd43b0af34561df1b3cfe12", func := "slipway/slipwaylaw01.SealSided", spec := "sealSided", apart := false }
def SealSidedSaid : Prop := sealSidedRow.holds Try.pinned (OpenSpec.ofChange sealSidedSpec)

/-- ITS FALSE NEIGHBOUR: 'it returns false'. Refute it at one input. -/
def sealSidedWrong : ChangeSpec := { name := "sealSided", fn := fun _ => fun
  | [d1, d2] => { results := [.lit (.bool false)], args := [d1, d2] }
  | _ => none }
def SealSidedWrongFalsely : Prop := sealSidedRow.holds Try.pinned (OpenSpec.ofChange sealSidedWrong)

/-- 'slipwaylaw01.SealPacks': WHATEVER THE INPUT: true; the input reads as it did. -/
def sealPacksSpec : ChangeSpec := { name := "sealPacks", fn := fun _ => fun
  | [d1, d2, d3] => { results := [.lit (.bool true)], args := [d1, d2, d3] }
  | _ => none }
def sealPacksRow : OpenClaim := { program := "ytbgfoibfjgmfhaa", sum := "de12b1a728b5a800ad9e693220beae277911501ffcd43b0af34561df1b3cfe12", func := "slipway/slipwaylaw01.SealPacks", spec := "sealPacks", unfollowed := true, recurses := true, apart := false }
def SealPacksSaid : Prop := sealPacksRow.holds Try.pinned (OpenSpec.ofChange sealPacksSpec)

/-- ITS FALSE NEIGHBOUR: 'it returns false'. Refute it at one input. -/
def sealPacksWrong : ChangeSpec := { name := "sealPacks", fn := fun _ => fun
  | [d1, d2, d3] => { results := [.lit (.bool false)], args := [d1, d2, d3] }
  | _ => none }
def SealPacksWrongFalsely : Prop := sealPacksRow.holds Try.pinned (OpenSpec.ofChange sealPacksWrong)

/-- 'slipwaylaw01.SealFields': WHATEVER THE INPUT: true; the input reads as it did. -/
def sealFieldsSpec : ChangeSpec := { name := "sealFields", fn := fun _ => fun
  | [d1, d2, d3] => { results := [.lit (.bool true)], args := [d1, d2, d3] }
  | _ => none }
def sealFieldsRow : OpenClaim := { program := "ytbgfoibfjgmfhaa", sum := "de12b1a728b5a800ad9e693220beae277911501ffcd43b0af34561df1b3cfe12", func := "slipway/slipwaylaw01.SealFields", spec := "sealFields", unfollowed := true, recurses := true, apart := false }
def SealFieldsSaid : Prop := sealFieldsRow.holds Try.pinned (OpenSpec.ofChange sealFieldsSpec)

/-- ITS FALSE NEIGHBOUR: 'it returns false'. Refute it at one input. -/
def sealFieldsWrong : ChangeSpec := { name := "sealFields", fn := fun _ => fun
  | [d1, d2, d3] => { results := [.lit (.bool false)], args := [d1, d2, d3] }
  | _ => none }
def SealFieldsWrongFalsely : Prop := sealFieldsRow.holds Try.pinned (OpenSpec.ofChange sealFieldsWrong)

/-- 'slipwaylaw01.SealLess': WHATEVER THE INPUT: true; the input reads as it did. -/
def sealLessSpec : ChangeSpec := { name := "sealLess", fn := fun _ => fun
  | [d1, d2] => { results := [.lit (.bool true)], args := [d1, d2] }
  | _ => none }
def sealLessRow : OpenClaim := { program := "ytbgfoibfjgmfhaa", sum := "de12b1a728b5a800ad9e693220beae277911501ffcd43b0af34561df1b3cfe12", func := "slipway/slipwaylaw01.SealLess", spec := "sealLess", apart := false }
def SealLessSaid : Prop := sealLessRow.holds Try.pinned (OpenSpec.ofChange sealLessSpec)

/-- ITS FALSE NEIGHBOUR: 'it returns false'. Refute it at one input. -/
def sealLessWrong : ChangeSpec := { name := "sealLess", fn := fun _ => fun
  | [d1, d2] => { results := [.lit (.bool false)], args := [d1, d2] }
  | _ => none }
def SealLessWrongFalsely : Prop := sealLessRow.holds Try.pinned (OpenSpec.ofChange sealLessWrong)

/-- 'slipwaylaw01.SealMasks': WHATEVER THE INPUT: true; the input reads as it did. -/
def sealMasksSpec : ChangeSpec := { name := "sealMasks", fn := fun _ => fun
  | [d1, d2] => { results := [.lit (.bool true)], args := [d1, d2] }
  | _ => none }
def sealMasksRow : OpenClaim := { program := "ytbgfoibfjgmfhaa", sum := "de12b1a728b5a800ad9e693220beae277911501ffcd43b0af34561df1b3cfe12", func := "slipway/slipwaylaw01.SealMasks", spec := "sealMasks", apart := false }
def SealMasksSaid : Prop := sealMasksRow.holds Try.pinned (OpenSpec.ofChange sealMasksSpec)

/-- ITS FALSE NEIGHBOUR: 'it returns false'. Refute it at one input. -/
def sealMasksWrong : ChangeSpec := { name := "sealMasks", fn := fun _ => fun
  | [d1, d2] => { results := [.lit (.bool false)], args := [d1, d2] }
  | _ => none }
def SealMasksWrongFalsely : Prop := sealMasksRow.holds Try.pinned (OpenSpec.ofChange sealMasksWrong)

/- THE SECOND FORM. 'bulk': how many values and letters a reading holds, each counted each time it is reached (what is shared counts as often as it is met; a slice's spare places count too). A statement '..UptoSaid' is the law's where the arguments, and the package variables that the reading takes, are together of bulk at most 1048576: NARROWER than '..Said'. Prove '..Said' where nothing that the law and all that it calls make is longer than what came in: it says more and counts as full. Else prove '..UptoSaid'. A law counts once. -/
mutual
def uptoBulk {H : Type} : DataW H → Nat
  | .lit (.string bytes) => bytes.length + 1
  | .lit _ => 1
  | .nil => 1
  | .ptr d => uptoBulk d + 1
  | .slice elems spare => uptoBulkAll elems + uptoBulkAll spare + 1
  | .agg parts => uptoBulkAll parts + 1
  | .iface _ d => uptoBulk d + 1
  | .map entries => uptoBulkEntries entries + 1
  | .held _ => 1
def uptoBulkAll {H : Type} : List (DataW H) → Nat
  | [] => 0
  | d :: r => uptoBulk d + uptoBulkAll r
def uptoBulkEntries {H : Type} : List (Lit × DataW H) → Nat
  | [] => 0
  | x :: r => uptoBulkEntry x + uptoBulkEntries r
def uptoBulkEntry {H : Type} : Lit × DataW H → Nat
  | (.string bytes, d) => bytes.length + uptoBulk d + 1
  | (_, d) => uptoBulk d + 1
 end
def uptoSmall : (H : Type) → List (DataW H) → Bool := fun _ ds => decide (uptoBulkAll ds ≤ 1048576)
def OpenSpec.upto (s : _root_.Go.ChangeSpec) : _root_.Go.OpenSpec := { _root_.Go.OpenSpec.ofChange s with cond := some uptoSmall }

/-- 'slipwaylaw01.SealUnlike', WHERE WHAT IT READS IS OF BULK AT MOST 1048576: true; the input reads as it did. -/
def sealUnlikeUptoRow : OpenClaim := { program := "ytbgfoibfjgmfhaa", sum := "de12b1a728b5a800ad9e693220beae277911501ffcd43b0af34561df1b3cfe12", func := "slipway/slipwaylaw01.SealUnlike", spec := "sealUnlike", apart := false, narrowed := true }
def SealUnlikeUptoSaid : Prop := sealUnlikeUptoRow.holds Try.pinned (OpenSpec.upto sealUnlikeSpec)

/-- 'slipwaylaw01.SealMakes', WHERE WHAT IT READS IS OF BULK AT MOST 1048576: true; the input reads as it did. -/
def sealMakesUptoRow : OpenClaim := { program := "ytbgfoibfjgmfhaa", sum := "de12b1a728b5a800ad9e693220beae277911501ffcd43b0af34561df1b3cfe12", func := "slipway/slipwaylaw01.SealMakes", spec := "sealMakes", apart := false, narrowed := true }
def SealMakesUptoSaid : Prop := sealMakesUptoRow.holds Try.pinned (OpenSpec.upto sealMakesSpec)

/-- 'slipwaylaw01.SealBack', WHERE WHAT IT READS IS OF BULK AT MOST 1048576: true; the input reads as it did. -/
def sealBackUptoRow : OpenClaim := { program := "ytbgfoibfjgmfhaa", sum := "de12b1a728b5a800ad9e693220beae277911501ffcd43b0af34561df1b3cfe12", func := "slipway/slipwaylaw01.SealBack", spec := "sealBack", apart := false, narrowed := true }
def SealBackUptoSaid : Prop := sealBackUptoRow.holds Try.pinned (OpenSpec.upto sealBackSpec)

/-- 'slipwaylaw01.SealSided', WHERE WHAT IT READS IS OF BULK AT MOST 1048576: true; the input reads as it did. -/
def sealSidedUptoRow : OpenClaim := { program := "ytbgfoibfjgmfhaa", sum := "de12b1a728b5a800ad9e693220beae277911501ffcd43b0af34561df1b3cfe12", func := "slipway/slipwaylaw01.SealSided", spec := "sealSided", apart := false, narrowed := true }
def SealSidedUptoSaid : Prop := sealSidedUptoRow.holds Try.pinned (OpenSpec.upto sealSidedSpec)

/-- 'slipwaylaw01.SealPacks', WHERE WHAT IT READS IS OF BULK AT MOST 1048576: true; the input reads as it did. -/
def sealPacksUptoRow : OpenClaim := { program := "ytbgfoibfjgmfhaa", sum := "de12b1a728b5a800ad9e693220beae277911501ffcd43b0af34561df1b3cfe12", func := "slipway/slipwaylaw01.SealPacks", spec := "sealPacks", unfollowed := true, recurses := true, apart := false, narrowed := true }
def SealPacksUptoSaid : Prop := sealPacksUptoRow.holds Try.pinned (OpenSpec.upto sealPacksSpec)

/-- 'slipwaylaw01.SealFields', WHERE WHAT IT READS IS OF BULK AT MOST 1048576: true; the input reads as it did. -/
def sealFieldsUptoRow : OpenClaim := { program := "ytbgfoibfjgmfhaa", sum := "de12b1a728b5a800ad9e693220beae277911501ffcd43b0af34561df1b3cfe12", func := "slipway/slipwaylaw01.SealFields", spec := "sealFields", unfollowed := true, recurses := true, apart := false, narrowed := true }
def SealFieldsUptoSaid : Prop := sealFieldsUptoRow.holds Try.pinned (OpenSpec.upto sealFieldsSpec)

/-- 'slipwaylaw01.SealLess', WHERE WHAT IT READS IS OF BULK AT MOST 1048576: true; the input reads as it did. -/
def sealLessUptoRow : OpenClaim := { program := "ytbgfoibfjgmfhaa", sum := "de12b1a728b5a800ad9e693220beae277911501ffcd43b0af34561df1b3cfe12", func := "slipway/slipwaylaw01.SealLess", spec := "sealLess", apart := false, narrowed := true }
def SealLessUptoSaid : Prop := sealLessUptoRow.holds Try.pinned (OpenSpec.upto sealLessSpec)

/-- 'slipwaylaw01.SealMasks', WHERE WHAT IT READS IS OF BULK AT MOST 1048576: true; the input reads as it did. -/
def sealMasksUptoRow : OpenClaim := { program := "ytbgfoibfjgmfhaa", sum := "de12b1a728b5a800ad9e693220beae277911501ffcd43b0af34561df1b3cfe12", func := "slipway/slipwaylaw01.SealMasks", spec := "sealMasks", apart := false, narrowed := true }
def SealMasksUptoSaid : Prop := sealMasksUptoRow.holds Try.pinned (OpenSpec.upto sealMasksSpec)

end Rows
end Go.Proofs.Ytbgfoibfjgmfhaa
