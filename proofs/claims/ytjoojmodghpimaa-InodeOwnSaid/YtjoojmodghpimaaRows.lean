/-
  No cell of these rows narrows 'for every input' (looked for: loops, veiled, ifaces, maps, wideKeys, modest, calm, conditions, laid).
  DERIVED. THE GIVEN ROWS OF THIS SEAT. 4 by the template 'for every input the law returns true; each argument reads behind the call as it read before'; 0 by the template 'total and deterministic' (their statements: YtjoojmodghpimaaTotals.lean).
  GIVEN WITH THE SEED: the statements are not yours to turn. If you find one false, say at which input.
  Laid BY PROGRAM, IN A SANDBOX (cutbox-rows.mjs): the forced cells as the released guide's own fill.sh prints them over the translation acaf545d7eecbd5f… (all of the seat's roots in one cut). By AI agents, Wed Nov 11 2026. No macro, syntax, notation, axiom, sorry.
-/
import Derived.Test.YtjoojmodghpimaaChecked
import GoSem.Claim
import GoSem.ClaimJoined
import GoSem.ClaimMapViews
import Derived.JoinedTies
import Derived.KernelRfl
namespace Go.Proofs.Ytjoojmodghpimaa
/- THE CELL 'sum', in the pinned program and in every row, IS THE sha256 OF THE DUMP (.gsa) THAT YtjoojmodghpimaaProg.lean LOADS. Nothing in Lean hashes anything: it is a label: what it is worth is what the hold of that sum in a sandbox is worth. -/
noncomputable def Try.pinned : Pinned := { name := "ytjoojmodghpimaa", sum := "acaf545d7eecbd5fbc1dcab5969cf1b64f6b301999fabf770b1c18fbc480f515", checked := Try.checked }
namespace Rows
def none {H : Type} : Left H := { results := [], args := [] }

/-- 'slipwaylaw14.InodeBack': WHATEVER THE INPUT: true; the input reads as it did. -/
def inodeBackSpec : ChangeSpec := { name := "inodeBack", fn := fun _ => fun
  | [d1, d2] => { results := [.lit (.bool true)], args := [d1, d2] }
  | _ => none }
def inodeBackRow : OpenClaim := { program := "ytjoojmodghpimaa", sum := "acaf545d7eecbd5fbc1dcab5969cf1b64f6b301999fabf770b1c18fbc480f515", func := "slipway/slipwaylaw14.InodeBack", spec := "inodeBack", unfollowed := true, recurses := true, apart := false }
def InodeBackSaid : Prop := inodeBackRow.holds Try.pinned (OpenSpec.ofChange inodeBackSpec)

/-- ITS FALSE NEIGHBOUR: 'it returns false'. Refute it at one input. -/
def inodeBackWrong : ChangeSpec := { name := "inodeBack", fn := fun _ => fun
  | [d1, d2] => { results := [.lit (.bool false)], args := [d1, d2] }
  | _ => none }
def InodeBackWrongFalsely : Prop := inodeBackRow.holds Try.pinned (OpenSpec.ofChange inodeBackWrong)

/-- 'slipwaylaw14.InodeMakes': WHATEVER THE INPUT: true; the input reads as it did. -/
def inodeMakesSpec : ChangeSpec := { name := "inodeMakes", fn := fun _ => fun
  | [d1, d2, d3] => { results := [.lit (.bool true)], args := [d1, d2, d3] }
  | _ => none }
def inodeMakesRow : OpenClaim := { program := "ytjoojmodghpimaa", sum := "acaf545d7eecbd5fbc1dcab5969cf1b64f6b301999fabf770b1c18fbc480f515", func := "slipway/slipwaylaw14.InodeMakes", spec := "inodeMakes", unfollowed := true, recurses := true, apart := false }
def InodeMakesSaid : Prop := inodeMakesRow.holds Try.pinned (OpenSpec.ofChange inodeMakesSpec)

/-- ITS FALSE NEIGHBOUR: 'it returns false'. Refute it at one input. -/
def inodeMakesWrong : ChangeSpec := { name := "inodeMakes", fn := fun _ => fun
  | [d1, d2, d3] => { results := [.lit (.bool false)], args := [d1, d2, d3] }
  | _ => none }
def InodeMakesWrongFalsely : Prop := inodeMakesRow.holds Try.pinned (OpenSpec.ofChange inodeMakesWrong)

/-- 'slipwaylaw14.InodeOwn': WHATEVER THE INPUT: true; the input reads as it did. -/
def inodeOwnSpec : ChangeSpec := { name := "inodeOwn", fn := fun _ => fun
  | [d1, d2, d3] => { results := [.lit (.bool true)], args := [d1, d2, d3] }
  | _ => none }
def inodeOwnRow : OpenClaim := { program := "ytjoojmodghpimaa", sum := "acaf545d7eecbd5fbc1dcab5969cf1b64f6b301999fabf770b1c18fbc480f515", func := "slipway/slipwaylaw14.InodeOwn", spec := "inodeOwn", unfollowed := true, recurses := true, apart := false }
def InodeOwnSaid : Prop := inodeOwnRow.holds Try.pinned (OpenSpec.ofChange inodeOwnSpec)

/-- ITS FALSE NEIGHBOUR: 'it returns false'. Refute it at one input. -/
def inodeOwnWrong : ChangeSpec := { name := "inodeOwn", fn := fun _ => fun
  | [d1, d2, d3] => { results := [.lit (.bool false)], args := [d1, d2, d3] }
  | _ => none }
def InodeOwnWrongFalsely : Prop := inodeOwnRow.holds Try.pinned (OpenSpec.ofChange inodeOwnWrong)

/-- 'slipwaylaw14.InodeTables': WHATEVER THE INPUT: true; the input reads as it did. -/
def inodeTablesSpec : ChangeSpec := { name := "inodeTables", fn := fun _ => fun
  | [d1, d2, d3] => { results := [.lit (.bool true)], args := [d1, d2, d3] }
  | _ => none }
def inodeTablesRow : OpenClaim := { program := "ytjoojmodghpimaa", sum := "acaf545d7eecbd5fbc1dcab5969cf1b64f6b301999fabf770b1c18fbc480f515", func := "slipway/slipwaylaw14.InodeTables", spec := "inodeTables", unfollowed := true, recurses := true, apart := false }
def InodeTablesSaid : Prop := inodeTablesRow.holds Try.pinned (OpenSpec.ofChange inodeTablesSpec)

/-- ITS FALSE NEIGHBOUR: 'it returns false'. Refute it at one input. -/
def inodeTablesWrong : ChangeSpec := { name := "inodeTables", fn := fun _ => fun
  | [d1, d2, d3] => { results := [.lit (.bool false)], args := [d1, d2, d3] }
  | _ => none }
def InodeTablesWrongFalsely : Prop := inodeTablesRow.holds Try.pinned (OpenSpec.ofChange inodeTablesWrong)

/- THE SECOND FORM. 'bulk': how many values and letters a reading holds, each counted each time it is reached (what is shared counts as often as it is met; a slice's spare places count too). A statement '..UptoSaid' is the law's where the arguments, and the package variables that the reading takes, are together of bulk at most 1048576: NARROWER than '..Said'. Prove '..Said' where nothing that the law and all that it calls make is longer than what came in: it says more and counts as full. Else prove '..UptoSaid'. A law counts once. -/
mutual
def uptoBulk {H : Type} : DataW H → Nat
  | .lit (.string bytes) => bytes.length + 1
  | .lit _ => 1
  | .nil => 1
  | .ptr d => uptoBulk d + 1
  | .slice elems spare => uptoBulkAll elems + uptoBulkAll spare + 1
  | .agg parts => uptoBulkAll parts + 1
  | .iface _ d => uptoBulk d + 1
  | .map entries => uptoBulkEntries entries + 1
  | .held _ => 1
def uptoBulkAll {H : Type} : List (DataW H) → Nat
  | [] => 0
  | d :: r => uptoBulk d + uptoBulkAll r
def uptoBulkEntries {H : Type} : List (Lit × DataW H) → Nat
  | [] => 0
  | x :: r => uptoBulkEntry x + uptoBulkEntries r
def uptoBulkEntry {H : Type} : Lit × DataW H → Nat
  | (.string bytes, d) => bytes.length + uptoBulk d + 1
  | (_, d) => uptoBulk d + 1
 end
def uptoSmall : (H : Type) → List (DataW H) → Bool := fun _ ds => decide (uptoBulkAll ds ≤ 1048576)
def OpenSpec.upto (s : _root_.Go.ChangeSpec) : _root_.Go.OpenSpec := { _root_.Go.OpenSpec.ofChange s with cond := some uptoSmall }

/-- 'slipwaylaw14.InodeBack', WHERE WHAT IT READS IS OF BULK AT MOST 1048576: true; the input reads as it did. -/
def inodeBackUptoRow : OpenClaim := { program := "ytjoojmodghpimaa", sum := "acaf545d7eecbd5fbc1dcab5969cf1b64f6b301999fabf770b1c18fbc480f515", func := "slipway/slipwaylaw14.InodeBack", spec := "inodeBack", unfollowed := true, recurses := true, apart := false, narrowed := true }
def InodeBackUptoSaid : Prop := inodeBackUptoRow.holds Try.pinned (OpenSpec.upto inodeBackSpec)

/-- 'slipwaylaw14.InodeMakes', WHERE WHAT IT READS IS OF BULK AT MOST 1048576: true; the input reads as it did. -/
def inodeMakesUptoRow : OpenClaim := { program := "ytjoojmodghpimaa", sum := "acaf545d7eecbd5fbc1dcab5969cf1b64f6b301999fabf770b1c18fbc480f515", func := "slipway/slipwaylaw14.InodeMakes", spec := "inodeMakes", unfollowed := true, recurses := true, apart := false, narrowed := true }
def InodeMakesUptoSaid : Prop := inodeMakesUptoRow.holds Try.pinned (OpenSpec.upto inodeMakesSpec)

/-- 'slipwaylaw14.InodeOwn', WHERE WHAT IT READS IS OF BULK AT MOST 1048576: true; the input reads as it did. -/
def inodeOwnUptoRow : OpenClaim := { program := "ytjoojmodghpimaa", sum := "acaf545d7eecbd5fbc1dcab5969cf1b64f6b301999fabf770b1c18fbc480f515", func := "slipway/slipwaylaw14.InodeOwn", spec := "inodeOwn", unfollowed := true, recurses := true, apart := false, narrowed := true }
def InodeOwnUptoSaid : Prop := inodeOwnUptoRow.holds Try.pinned (OpenSpec.upto inodeOwnSpec)

/-- 'slipwaylaw14.InodeTables', WHERE WHAT IT READS IS OF BULK AT MOST 1048576: true; the input reads as it did. -/
def inodeTablesUptoRow : OpenClaim := { program := "ytjoojmodghpimaa", sum := "acaf545d7eecbd5fbc1dcab5969cf1b64f6b301999fabf770b1c18fbc480f515", func := "slipway/slipwaylaw14.InodeTables", spec := "inodeTables", unfollowed := true, recurses := true, apart := false, narrowed := true }
def InodeTablesUptoSaid : Prop := inodeTablesUptoRow.holds Try.pinned (OpenSpec.upto inodeTablesSpec)

end Rows
end Go.Proofs.Ytjoojmodghpimaa
