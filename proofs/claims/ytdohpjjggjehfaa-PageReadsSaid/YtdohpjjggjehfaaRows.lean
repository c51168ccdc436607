/-
  No cell of these rows narrows 'for every input' (looked for: loops, veiled, ifaces, maps, wideKeys, modest, calm, conditions, laid).
  DERIVED. THE GIVEN ROWS OF THIS SEAT. 6 by the template 'for every input the law returns true; each argument reads behind the call as it read before'; 0 by the template 'total and deterministic' (their statements: YtdohpjjggjehfaaTotals.lean).
  GIVEN WITH THE SEED: the statements are not yours to turn. If you find one false, say at which input.
  Laid BY PROGRAM, IN A SANDBOX (cutbox-rows.mjs): the forced cells as the released guide's own fill.sh prints them over the translation 117ab1b7b6420a48… (all of the seat's roots in one cut). By AI agents, Wed Nov 11 2026. No macro, syntax, notation, axiom, sorry.
-/
import Derived.Test.YtdohpjjggjehfaaChecked
import GoSem.Claim
import GoSem.ClaimJoined
import GoSem.ClaimMapViews
import Derived.JoinedTies
import Derived.KernelRfl
namespace Go.Proofs.Ytdohpjjggjehfaa
/- THE CELL 'sum', in the pinned program and in every row, IS THE sha256 OF THE DUMP (.gsa) THAT YtdohpjjggjehfaaProg.lean LOADS. Nothing in Lean hashes anything: it is a label: what it is worth is what the hold of that sum in a sandbox is worth. -/
noncomputable def Try.pinned : Pinned := { name := "ytdohpjjggjehfaa", sum := "117ab1b7b6420a486a8c3f5e6ea59e0e46c355302cb5af18881acc3de4fb74de", checked := Try.checked }
namespace Rows
def none {H : Type} : Left H := { results := [], args := [] }

/-- 'slipwaylaw03.PageMakes': WHATEVER THE INPUT: true; the input reads as it did. -/
def pageMakesSpec : ChangeSpec := { name := "pageMakes", fn := fun _ => fun
  | [d1, d2] => { results := [.lit (.bool true)], args := [d1, d2] }
  | _ => none }
def pageMakesRow : OpenClaim := { program := "ytdohpjjggjehfaa", sum := "117ab1b7b6420a486a8c3f5e6ea59e0e46c355302cb5af18881acc3de4fb74de", func := "slipway/slipwaylaw03.PageMakes", spec := "pageMakes", unfollowed := true, recurses := true, apart := false }
def PageMakesSaid : Prop := pageMakesRow.holds Try.pinned (OpenSpec.ofChange pageMakesSpec)

/-- ITS FALSE NEIGHBOUR: 'it returns false'. Refute it at one input. -/
def pageMakesWrong : ChangeSpec := { name := "pageMakes", fn := fun _ => fun
  | [d1, d2] => { results := [.lit (.bool false)], args := [d1, d2] }
  | _ => none }
def PageMakesWrongFalsely : Prop := pageMakesRow.holds Try.pinned (OpenSpec.ofChange pageMakesWrong)

/-- 'slipwaylaw03.PageBack': WHATEVER THE INPUT: true; the input reads as it did. -/
def pageBackSpec : ChangeSpec := { name := "pageBack", fn := fun _ => fun
  | [d1, d2, d3] => { results := [.lit (.bool true)], args := [d1, d2, d3] }
  | _ => none }
def pageBackRow : OpenClaim := { program := "ytdohpjjggjehfaa", sum := "117ab1b7b6420a486a8c3f5e6ea59e0e46c355302cb5af18881acc3de4fb74de", func := "slipway/slipwaylaw03.PageBack", spec := "pageBack", unfollowed := true, recurses := true, apart := false }
def PageBackSaid : Prop := pageBackRow.holds Try.pinned (OpenSpec.ofChange pageBackSpec)

/-- ITS FALSE NEIGHBOUR: 'it returns false'. Refute it at one input. -/
def pageBackWrong : ChangeSpec := { name := "pageBack", fn := fun _ => fun
  | [d1, d2, d3] => { results := [.lit (.bool false)], args := [d1, d2, d3] }
  | _ => none }
def PageBackWrongFalsely : Prop := pageBackRow.holds Try.pinned (OpenSpec.ofChange pageBackWrong)

/-- 'slipwaylaw03.PageNewer': WHATEVER THE INPUT: true; the input reads as it did. -/
def pageNewerSpec : ChangeSpec := { name := "pageNewer", fn := fun _ => fun
  | [d1, d2, d3] => { results := [.lit (.bool true)], args := [d1, d2, d3] }
  | _ => none }
def pageNewerRow : OpenClaim := { program := "ytdohpjjggjehfaa", sum := "117ab1b7b6420a486a8c3f5e6ea59e0e46c355302cb5af18881acc3de4fb74de", func := "slipway/slipwaylaw03.PageNewer", spec := "pageNewer", unfollowed := true, recurses := true, apart := false }
def PageNewerSaid : Prop := pageNewerRow.holds Try.pinned (OpenSpec.ofChange pageNewerSpec)

/-- ITS FALSE NEIGHBOUR: 'it returns false'. Refute it at one input. -/
def pageNewerWrong : ChangeSpec := { name := "pageNewer", fn := fun _ => fun
  | [d1, d2, d3] => { results := [.lit (.bool false)], args := [d1, d2, d3] }
  | _ => none }
def PageNewerWrongFalsely : Prop := pageNewerRow.holds Try.pinned (OpenSpec.ofChange pageNewerWrong)

/-- 'slipwaylaw03.PageReads': WHATEVER THE INPUT: true; the input reads as it did. -/
def pageReadsSpec : ChangeSpec := { name := "pageReads", fn := fun _ => fun
  | [d1, d2] => { results := [.lit (.bool true)], args := [d1, d2] }
  | _ => none }
def pageReadsRow : OpenClaim := { program := "ytdohpjjggjehfaa", sum := "117ab1b7b6420a486a8c3f5e6ea59e0e46c355302cb5af18881acc3de4fb74de", func := "slipway/slipwaylaw03.PageReads", spec := "pageReads", unfollowed := true, recurses := true, apart := false }
def PageReadsSaid : Prop := pageReadsRow.holds Try.pinned (OpenSpec.ofChange pageReadsSpec)

/-- ITS FALSE NEIGHBOUR: 'it returns false'. Refute it at one input. -/
def pageReadsWrong : ChangeSpec := { name := "pageReads", fn := fun _ => fun
  | [d1, d2] => { results := [.lit (.bool false)], args := [d1, d2] }
  | _ => none }
def PageReadsWrongFalsely : Prop := pageReadsRow.holds Try.pinned (OpenSpec.ofChange pageReadsWrong)

/-- 'slipwaylaw03.PageTorn': WHATEVER THE INPUT: true; the input reads as it did. -/
def pageTornSpec : ChangeSpec := { name := "pageTorn", fn := fun _ => fun
  | [d1, d2, d3] => { results := [.lit (.bool true)], args := [d1, d2, d3] }
  | _ => none }
def pageTornRow : OpenClaim := { program := "ytdohpjjggjehfaa", sum := "117ab1b7b6420a486a8c3f5e6ea59e0e46c355302cb5af18881acc3de4fb74de", func := "slipway/slipwaylaw03.PageTorn", spec := "pageTorn", unfollowed := true, recurses := true, apart := false }
def PageTornSaid : Prop := pageTornRow.holds Try.pinned (OpenSpec.ofChange pageTornSpec)

/-- ITS FALSE NEIGHBOUR: 'it returns false'. Refute it at one input. -/
def pageTornWrong : ChangeSpec := { name := "pageTorn", fn := fun _ => fun
  | [d1, d2, d3] => { results := [.lit (.bool false)], args := [d1, d2, d3] }
  | _ => none }
def PageTornWrongFalsely : Prop := pageTornRow.holds Try.pinned (OpenSpec.ofChange pageTornWrong)

/-- 'slipwaylaw03.PageOrders': WHATEVER THE INPUT: true; the input reads as it did. -/
def pageOrdersSpec : ChangeSpec := { name := "pageOrders", fn := fun _ => fun
  | [d] => { results := [.lit (.bool true)], args := [d] }
  | _ => none }
def pageOrdersRow : OpenClaim := { program := "ytdohpjjggjehfaa", sum := "117ab1b7b6420a486a8c3f5e6ea59e0e46c355302cb5af18881acc3de4fb74de", func := "slipway/slipwaylaw03.PageOrders", spec := "pageOrders", unfollowed := true, recurses := true, apart := false }
def PageOrdersSaid : Prop := pageOrdersRow.holds Try.pinned (OpenSpec.ofChange pageOrdersSpec)

/-- ITS FALSE NEIGHBOUR: 'it returns false'. Refute it at one input. -/
def pageOrdersWrong : ChangeSpec := { name := "pageOrders", fn := fun _ => fun
  | [d] => { results := [.lit (.bool false)], args := [d] }
  | _ => none }
def PageOrdersWrongFalsely : Prop := pageOrdersRow.holds Try.pinned (OpenSpec.ofChange pageOrdersWrong)

/- THE SECOND FORM. 'bulk': how many values and letters a reading holds, each counted each time it is reached (what is shared counts as often as it is met; a slice's spare places count too). A statement '..UptoSaid' is the law's where the arguments, and the package variables that the reading takes, are together of bulk at most 1048576: NARROWER than '..Said'. Prove '..Said' where nothing that the law and all that it calls make is longer than what came in: it says more and counts as full. Else prove '..UptoSaid'. A law counts once. -/
mutual
def uptoBulk {H : Type} : DataW H → Nat
  | .lit (.string bytes) => bytes.length + 1
  | .lit _ => 1
  | .nil => 1
  | .ptr d => uptoBulk d + 1
  | .slice elems spare => uptoBulkAll elems + uptoBulkAll spare + 1
  | .agg parts => uptoBulkAll parts + 1
  | .iface _ d => uptoBulk d + 1
  | .map entries => uptoBulkEntries entries + 1
  | .held _ => 1
def uptoBulkAll {H : Type} : List (DataW H) → Nat
  | [] => 0
  | d :: r => uptoBulk d + uptoBulkAll r
def uptoBulkEntries {H : Type} : List (Lit × DataW H) → Nat
  | [] => 0
  | x :: r => uptoBulkEntry x + uptoBulkEntries r
def uptoBulkEntry {H : Type} : Lit × DataW H → Nat
  | (.string bytes, d) => bytes.length + uptoBulk d + 1
  | (_, d) => uptoBulk d + 1
 end
def uptoSmall : (H : Type) → List (DataW H) → Bool := fun _ ds => decide (uptoBulkAll ds ≤ 1048576)
def OpenSpec.upto (s : _root_.Go.ChangeSpec) : _root_.Go.OpenSpec := { _root_.Go.OpenSpec.ofChange s with cond := some uptoSmall }

/-- 'slipwaylaw03.PageMakes', WHERE WHAT IT READS IS OF BULK AT MOST 1048576: true; the input reads as it did. -/
def pageMakesUptoRow : OpenClaim := { program := "ytdohpjjggjehfaa", sum := "117ab1b7b6420a486a8c3f5e6ea59e0e46c355302cb5af18881acc3de4fb74de", func := "slipway/slipwaylaw03.PageMakes", spec := "pageMakes", unfollowed := true, recurses := true, apart := false, narrowed := true }
def PageMakesUptoSaid : Prop := pageMakesUptoRow.holds Try.pinned (OpenSpec.upto pageMakesSpec)

/-- 'slipwaylaw03.PageBack', WHERE WHAT IT READS IS OF BULK AT MOST 1048576: true; the input reads as it did. -/
def pageBackUptoRow : OpenClaim := { program := "ytdohpjjggjehfaa", sum := "117ab1b7b6420a486a8c3f5e6ea59e0e46c355302cb5af18881acc3de4fb74de", func := "slipway/slipwaylaw03.PageBack", spec := "pageBack", unfollowed := true, recurses := true, apart := false, narrowed := true }
def PageBackUptoSaid : Prop := pageBackUptoRow.holds Try.pinned (OpenSpec.upto pageBackSpec)

/-- 'slipwaylaw03.PageNewer', WHERE WHAT IT READS IS OF BULK AT MOST 1048576: true; the input reads as it did. -/
def pageNewerUptoRow : OpenClaim := { program := "ytdohpjjggjehfaa", sum := "117ab1b7b6420a486a8c3f5e6ea59e0e46c355302cb5af18881acc3de4fb74de", func := "slipway/slipwaylaw03.PageNewer", spec := "pageNewer", unfollowed := true, recurses := true, apart := false, narrowed := true }
def PageNewerUptoSaid : Prop := pageNewerUptoRow.holds Try.pinned (OpenSpec.upto pageNewerSpec)

/-- 'slipwaylaw03.PageReads', WHERE WHAT IT READS IS OF BULK AT MOST 1048576: true; the input reads as it did. -/
def pageReadsUptoRow : OpenClaim := { program := "ytdohpjjggjehfaa", sum := "117ab1b7b6420a486a8c3f5e6ea59e0e46c355302cb5af18881acc3de4fb74de", func := "slipway/slipwaylaw03.PageReads", spec := "pageReads", unfollowed := true, recurses := true, apart := false, narrowed := true }
def PageReadsUptoSaid : Prop := pageReadsUptoRow.holds Try.pinned (OpenSpec.upto pageReadsSpec)

/-- 'slipwaylaw03.PageTorn', WHERE WHAT IT READS IS OF BULK AT MOST 1048576: true; the input reads as it did. -/
def pageTornUptoRow : OpenClaim := { program := "ytdohpjjggjehfaa", sum := "117ab1b7b6420a486a8c3f5e6ea59e0e46c355302cb5af18881acc3de4fb74de", func := "slipway/slipwaylaw03.PageTorn", spec := "pageTorn", unfollowed := true, recurses := true, apart := false, narrowed := true }
def PageTornUptoSaid : Prop := pageTornUptoRow.holds Try.pinned (OpenSpec.upto pageTornSpec)

/-- 'slipwaylaw03.PageOrders', WHERE WHAT IT READS IS OF BULK AT MOST 1048576: true; the input reads as it did. -/
def pageOrdersUptoRow : OpenClaim := { program := "ytdohpjjggjehfaa", sum := "117ab1b7b6420a486a8c3f5e6ea59e0e46c355302cb5af18881acc3de4fb74de", func := "slipway/slipwaylaw03.PageOrders", spec := "pageOrders", unfollowed := true, recurses := true, apart := false, narrowed := true }
def PageOrdersUptoSaid : Prop := pageOrdersUptoRow.holds Try.pinned (OpenSpec.upto pageOrdersSpec)

end Rows
end Go.Proofs.Ytdohpjjggjehfaa
