/-
  No cell of these rows narrows 'for every input' (looked for: loops, veiled, ifaces, maps, wideKeys, modest, calm, conditions, laid).
  DERIVED. THE GIVEN ROWS OF THIS SEAT. 8 by the template 'for every input the law returns true; each argument reads behind the call as it read before'; 0 by the template 'total and deterministic' (their statements: YtkhbmgclklmimaaTotals.lean).
  GIVEN WITH THE SEED: the statements are not yours to turn. If you find one false, say at which input.
  Laid BY PROGRAM, IN A SANDBOX (cutbox-rows.mjs): the forced cells as the released guide's own fill.sh prints them over the translation 4332db9a6562fb3e… (all of the seat's roots in one cut). By AI agents, Wed Nov 11 2026. No macro, syntax, notation, axiom, sorry.
-/
import Derived.Test.YtkhbmgclklmimaaChecked
import GoSem.Claim
import GoSem.ClaimJoined
import GoSem.ClaimMapViews
import Derived.JoinedTies
import Derived.KernelRfl
namespace Go.Proofs.Ytkhbmgclklmimaa
/- THE CELL 'sum', in the pinned program and in every row, IS THE sha256 OF THE DUMP (.gsa) THAT YtkhbmgclklmimaaProg.lean LOADS. Nothing in Lean hashes anything: it is a label: what it is worth is what the hold of that sum in a sandbox is worth. -/
noncomputable def Try.pinned : Pinned := { name := "ytkhbmgclklmimaa", sum := "4332db9a6562fb3eedb1e02ec6a5a531d93042201addd86c6760f58ad8451c37", checked := Try.checked }
namespace Rows
def none {H : Type} : Left H := { results := [], args := [] }

/-- 'slipwaylaw06.MapStates': WHATEVER THE INPUT: true; the input reads as it did. -/
def mapStatesSpec : ChangeSpec := { name := "mapStates", fn := fun _ => fun
  | [d1, d2, d3] => { results := [.lit (.bool true)], args := [d1, d2, d3] }
  | _ => none }
def mapStatesRow : OpenClaim := { program := "ytkhbmgclklmimaa", sum := "4332db9a6562fb3eedb1e02ec6a5a531d93042201addd86c6760f58ad8451c37", func := "slipway/slipwaylaw06.MapStates", spec := "mapStates", unfollowed := true, recurses := true, apart := false }
def MapStatesSaid : Prop := mapStatesRow.holds Try.pinned (OpenSpec.ofChange mapStatesSpec)

/-- ITS FALSE NEIGHBOUR: 'it returns false'. Refute it at one input. -/
def mapStatesWrong : ChangeSpec := { name := "mapStates", fn := fun _ => fun
  | [d1, d2, d3] => { results := [.lit (.bool false)], args := [d1, d2, d3] }
  | _ => none }
def MapStatesWrongFalsely : Prop := mapStatesRow.holds Try.pinned (OpenSpec.ofChange mapStatesWrong)

/-- 'slipwaylaw06.MapChanges': WHATEVER THE INPUT: true; the input reads as it did. -/
def mapChangesSpec : ChangeSpec := { name := "mapChanges", fn := fun _ => fun
  | [d1, d2, d3] => { results := [.lit (.bool true)], args := [d1, d2, d3] }
  | _ => none }
def mapChangesRow : OpenClaim := { program := "ytkhbmgclklmimaa", sum := "4332db9a6562fb3eedb1e02ec6a5a531d93042201addd86c6760f58ad8451c37", func := "slipway/slipwaylaw06.MapChanges", spec := "mapChanges", unfollowed := true, recurses := true, apart := false }
def MapChangesSaid : Prop := mapChangesRow.holds Try.pinned (OpenSpec.ofChange mapChangesSpec)

/-- ITS FALSE NEIGHBOUR: 'it returns false'. Refute it at one input. -/
def mapChangesWrong : ChangeSpec := { name := "mapChanges", fn := fun _ => fun
  | [d1, d2, d3] => { results := [.lit (.bool false)], args := [d1, d2, d3] }
  | _ => none }
def MapChangesWrongFalsely : Prop := mapChangesRow.holds Try.pinned (OpenSpec.ofChange mapChangesWrong)

/-- 'slipwaylaw06.MapPages': WHATEVER THE INPUT: true; the input reads as it did. -/
def mapPagesSpec : ChangeSpec := { name := "mapPages", fn := fun _ => fun
  | [d1, d2, d3, d4, d5, d6] => { results := [.lit (.bool true)], args := [d1, d2, d3, d4, d5, d6] }
  | _ => none }
def mapPagesRow : OpenClaim := { program := "ytkhbmgclklmimaa", sum := "4332db9a6562fb3eedb1e02ec6a5a531d93042201addd86c6760f58ad8451c37", func := "slipway/slipwaylaw06.MapPages", spec := "mapPages", unfollowed := true, recurses := true, apart := false }
def MapPagesSaid : Prop := mapPagesRow.holds Try.pinned (OpenSpec.ofChange mapPagesSpec)

/-- ITS FALSE NEIGHBOUR: 'it returns false'. Refute it at one input. -/
def mapPagesWrong : ChangeSpec := { name := "mapPages", fn := fun _ => fun
  | [d1, d2, d3, d4, d5, d6] => { results := [.lit (.bool false)], args := [d1, d2, d3, d4, d5, d6] }
  | _ => none }
def MapPagesWrongFalsely : Prop := mapPagesRow.holds Try.pinned (OpenSpec.ofChange mapPagesWrong)

/-- 'slipwaylaw06.MapGrows': WHATEVER THE INPUT: true; the input reads as it did. -/
def mapGrowsSpec : ChangeSpec := { name := "mapGrows", fn := fun _ => fun
  | [d1, d2, d3, d4] => { results := [.lit (.bool true)], args := [d1, d2, d3, d4] }
  | _ => none }
def mapGrowsRow : OpenClaim := { program := "ytkhbmgclklmimaa", sum := "4332db9a6562fb3eedb1e02ec6a5a531d93042201addd86c6760f58ad8451c37", func := "slipway/slipwaylaw06.MapGrows", spec := "mapGrows", unfollowed := true, recurses := true, apart := false }
def MapGrowsSaid : Prop := mapGrowsRow.holds Try.pinned (OpenSpec.ofChange mapGrowsSpec)

/-- ITS FALSE NEIGHBOUR: 'it returns false'. Refute it at one input. -/
def mapGrowsWrong : ChangeSpec := { name := "mapGrows", fn := fun _ => fun
  | [d1, d2, d3, d4] => { results := [.lit (.bool false)], args := [d1, d2, d3, d4] }
  | _ => none }
def MapGrowsWrongFalsely : Prop := mapGrowsRow.holds Try.pinned (OpenSpec.ofChange mapGrowsWrong)

/-- 'slipwaylaw06.MapReplays': WHATEVER THE INPUT: true; the input reads as it did. -/
def mapReplaysSpec : ChangeSpec := { name := "mapReplays", fn := fun _ => fun
  | [d1, d2] => { results := [.lit (.bool true)], args := [d1, d2] }
  | _ => none }
def mapReplaysRow : OpenClaim := { program := "ytkhbmgclklmimaa", sum := "4332db9a6562fb3eedb1e02ec6a5a531d93042201addd86c6760f58ad8451c37", func := "slipway/slipwaylaw06.MapReplays", spec := "mapReplays", unfollowed := true, recurses := true, apart := false }
def MapReplaysSaid : Prop := mapReplaysRow.holds Try.pinned (OpenSpec.ofChange mapReplaysSpec)

/-- ITS FALSE NEIGHBOUR: 'it returns false'. Refute it at one input. -/
def mapReplaysWrong : ChangeSpec := { name := "mapReplays", fn := fun _ => fun
  | [d1, d2] => { results := [.lit (.bool false)], args := [d1, d2] }
  | _ => none }
def MapReplaysWrongFalsely : Prop := mapReplaysRow.holds Try.pinned (OpenSpec.ofChange mapReplaysWrong)

/-- 'slipwaylaw06.MapOrder': WHATEVER THE INPUT: true; the input reads as it did. -/
def mapOrderSpec : ChangeSpec := { name := "mapOrder", fn := fun _ => fun
  | [d1, d2, d3] => { results := [.lit (.bool true)], args := [d1, d2, d3] }
  | _ => none }
def mapOrderRow : OpenClaim := { program := "ytkhbmgclklmimaa", sum := "4332db9a6562fb3eedb1e02ec6a5a531d93042201addd86c6760f58ad8451c37", func := "slipway/slipwaylaw06.MapOrder", spec := "mapOrder", unfollowed := true, recurses := true, apart := false }
def MapOrderSaid : Prop := mapOrderRow.holds Try.pinned (OpenSpec.ofChange mapOrderSpec)

/-- ITS FALSE NEIGHBOUR: 'it returns false'. Refute it at one input. -/
def mapOrderWrong : ChangeSpec := { name := "mapOrder", fn := fun _ => fun
  | [d1, d2, d3] => { results := [.lit (.bool false)], args := [d1, d2, d3] }
  | _ => none }
def MapOrderWrongFalsely : Prop := mapOrderRow.holds Try.pinned (OpenSpec.ofChange mapOrderWrong)

/-- 'slipwaylaw06.MapBytes': WHATEVER THE INPUT: true; the input reads as it did. -/
def mapBytesSpec : ChangeSpec := { name := "mapBytes", fn := fun _ => fun
  | [d1, d2] => { results := [.lit (.bool true)], args := [d1, d2] }
  | _ => none }
def mapBytesRow : OpenClaim := { program := "ytkhbmgclklmimaa", sum := "4332db9a6562fb3eedb1e02ec6a5a531d93042201addd86c6760f58ad8451c37", func := "slipway/slipwaylaw06.MapBytes", spec := "mapBytes", unfollowed := true, recurses := true, apart := false }
def MapBytesSaid : Prop := mapBytesRow.holds Try.pinned (OpenSpec.ofChange mapBytesSpec)

/-- ITS FALSE NEIGHBOUR: 'it returns false'. Refute it at one input. -/
def mapBytesWrong : ChangeSpec := { name := "mapBytes", fn := fun _ => fun
  | [d1, d2] => { results := [.lit (.bool false)], args := [d1, d2] }
  | _ => none }
def MapBytesWrongFalsely : Prop := mapBytesRow.holds Try.pinned (OpenSpec.ofChange mapBytesWrong)

/-- 'slipwaylaw06.MapBack': WHATEVER THE INPUT: true; the input reads as it did. -/
def mapBackSpec : ChangeSpec := { name := "mapBack", fn := fun _ => fun
  | [d1, d2, d3, d4] => { results := [.lit (.bool true)], args := [d1, d2, d3, d4] }
  | _ => none }
def mapBackRow : OpenClaim := { program := "ytkhbmgclklmimaa", sum := "4332db9a6562fb3eedb1e02ec6a5a531d93042201addd86c6760f58ad8451c37", func := "slipway/slipwaylaw06.MapBack", spec := "mapBack", unfollowed := true, recurses := true, apart := false }
def MapBackSaid : Prop := mapBackRow.holds Try.pinned (OpenSpec.ofChange mapBackSpec)

/-- ITS FALSE NEIGHBOUR: 'it returns false'. Refute it at one input. -/
def mapBackWrong : ChangeSpec := { name := "mapBack", fn := fun _ => fun
  | [d1, d2, d3, d4] => { results := [.lit (.bool false)], args := [d1, d2, d3, d4] }
  | _ => none }
def MapBackWrongFalsely : Prop := mapBackRow.holds Try.pinned (OpenSpec.ofChange mapBackWrong)

/- THE SECOND FORM. 'bulk': how many values and letters a reading holds, each counted each time it is reached (what is shared counts as often as it is met; a slice's spare places count too). A statement '..UptoSaid' is the law's where the arguments, and the package variables that the reading takes, are together of bulk at most 1048576: NARROWER than '..Said'. Prove '..Said' where nothing that the law and all that it calls make is longer than what came in: it says more and counts as full. Else prove '..UptoSaid'. A law counts once. -/
mutual
def uptoBulk {H : Type} : DataW H → Nat
  | .lit (.string bytes) => bytes.length + 1
  | .lit _ => 1
  | .nil => 1
  | .ptr d => uptoBulk d + 1
  | .slice elems spare => uptoBulkAll elems + uptoBulkAll spare + 1
  | .agg parts => uptoBulkAll parts + 1
  | .iface _ d => uptoBulk d + 1
  | .map entries => uptoBulkEntries entries + 1
  | .held _ => 1
def uptoBulkAll {H : Type} : List (DataW H) → Nat
  | [] => 0
  | d :: r => uptoBulk d + uptoBulkAll r
def uptoBulkEntries {H : Type} : List (Lit × DataW H) → Nat
  | [] => 0
  | x :: r => uptoBulkEntry x + uptoBulkEntries r
def uptoBulkEntry {H : Type} : Lit × DataW H → Nat
  | (.string bytes, d) => bytes.length + uptoBulk d + 1
  | (_, d) => uptoBulk d + 1
 end
def uptoSmall : (H : Type) → List (DataW H) → Bool := fun _ ds => decide (uptoBulkAll ds ≤ 1048576)
def OpenSpec.upto (s : _root_.Go.ChangeSpec) : _root_.Go.OpenSpec := { _root_.Go.OpenSpec.ofChange s with cond := some uptoSmall }

/-- 'slipwaylaw06.MapStates', WHERE WHAT IT READS IS OF BULK AT MOST 1048576: true; the input reads as it did. -/
def mapStatesUptoRow : OpenClaim := { program := "ytkhbmgclklmimaa", sum := "4332db9a6562fb3eedb1e02ec6a5a531d93042201addd86c6760f58ad8451c37", func := "slipway/slipwaylaw06.MapStates", spec := "mapStates", unfollowed := true, recurses := true, apart := false, narrowed := true }
def MapStatesUptoSaid : Prop := mapStatesUptoRow.holds Try.pinned (OpenSpec.upto mapStatesSpec)

/-- 'slipwaylaw06.MapChanges', WHERE WHAT IT READS IS OF BULK AT MOST 1048576: true; the input reads as it did. -/
def mapChangesUptoRow : OpenClaim := { program := "ytkhbmgclklmimaa", sum := "4332db9a6562fb3eedb1e02ec6a5a531d93042201addd86c6760f58ad8451c37", func := "slipway/slipwaylaw06.MapChanges", spec := "mapChanges", unfollowed := true, recurses := true, apart := false, narrowed := true }
def MapChangesUptoSaid : Prop := mapChangesUptoRow.holds Try.pinned (OpenSpec.upto mapChangesSpec)

/-- 'slipwaylaw06.MapPages', WHERE WHAT IT READS IS OF BULK AT MOST 1048576: true; the input reads as it did. -/
def mapPagesUptoRow : OpenClaim := { program := "ytkhbmgclklmimaa", sum := "4332db9a6562fb3eedb1e02ec6a5a531d93042201addd86c6760f58ad8451c37", func := "slipway/slipwaylaw06.MapPages", spec := "mapPages", unfollowed := true, recurses := true, apart := false, narrowed := true }
def MapPagesUptoSaid : Prop := mapPagesUptoRow.holds Try.pinned (OpenSpec.upto mapPagesSpec)

/-- 'slipwaylaw06.MapGrows', WHERE WHAT IT READS IS OF BULK AT MOST 1048576: true; the input reads as it did. -/
def mapGrowsUptoRow : OpenClaim := { program := "ytkhbmgclklmimaa", sum := "4332db9a6562fb3eedb1e02ec6a5a531d93042201addd86c6760f58ad8451c37", func := "slipway/slipwaylaw06.MapGrows", spec := "mapGrows", unfollowed := true, recurses := true, apart := false, narrowed := true }
def MapGrowsUptoSaid : Prop := mapGrowsUptoRow.holds Try.pinned (OpenSpec.upto mapGrowsSpec)

/-- 'slipwaylaw06.MapReplays', WHERE WHAT IT READS IS OF BULK AT MOST 1048576: true; the input reads as it did. -/
def mapReplaysUptoRow : OpenClaim := { program := "ytkhbmgclklmimaa", sum := "4332db9a6562fb3eedb1e02ec6a5a531d93042201addd86c6760f58ad8451c37", func := "slipway/slipwaylaw06.MapReplays", spec := "mapReplays", unfollowed := true, recurses := true, apart := false, narrowed := true }
def MapReplaysUptoSaid : Prop := mapReplaysUptoRow.holds Try.pinned (OpenSpec.upto mapReplaysSpec)

/-- 'slipwaylaw06.MapOrder', WHERE WHAT IT READS IS OF BULK AT MOST 1048576: true; the input reads as it did. -/
def mapOrderUptoRow : OpenClaim := { program := "ytkhbmgclklmimaa", sum := "4332db9a6562fb3eedb1e02ec6a5a531d93042201addd86c6760f58ad8451c37", func := "slipway/slipwaylaw06.MapOrder", spec := "mapOrder", unfollowed := true, recurses := true, apart := false, narrowed := true }
def MapOrderUptoSaid : Prop := mapOrderUptoRow.holds Try.pinned (OpenSpec.upto mapOrderSpec)

/-- 'slipwaylaw06.MapBytes', WHERE WHAT IT READS IS OF BULK AT MOST 1048576: true; the input reads as it did. -/
def mapBytesUptoRow : OpenClaim := { program := "ytkhbmgclklmimaa", sum := "4332db9a6562fb3eedb1e02ec6a5a531d93042201addd86c6760f58ad8451c37", func := "slipway/slipwaylaw06.MapBytes", spec := "mapBytes", unfollowed := true, recurses := true, apart := false, narrowed := true }
def MapBytesUptoSaid : Prop := mapBytesUptoRow.holds Try.pinned (OpenSpec.upto mapBytesSpec)

/-- 'slipwaylaw06.MapBack', WHERE WHAT IT READS IS OF BULK AT MOST 1048576: true; the input reads as it did. -/
def mapBackUptoRow : OpenClaim := { program := "ytkhbmgclklmimaa", sum := "4332db9a6562fb3eedb1e02ec6a5a531d93042201addd86c6760f58ad8451c37", func := "slipway/slipwaylaw06.MapBack", spec := "mapBack", unfollowed := true, recurses := true, apart := false, narrowed := true }
def MapBackUptoSaid : Prop := mapBackUptoRow.holds Try.pinned (OpenSpec.upto mapBackSpec)

end Rows
end Go.Proofs.Ytkhbmgclklmimaa
