/-
  No cell of these rows narrows 'for every input' (looked for: loops, veiled, ifaces, maps, wideKeys, modest, calm, conditions, laid).
  DERIVED. THE GIVEN ROWS OF THIS SEAT. 7 by the template 'for every input the law returns true; each argument reads behind the call as it read before'; 0 by the template 'total and deterministic' (their statements: YtbdnmdmfnopihaaTotals.lean).
  GIVEN WITH THE SEED: the statements are not yours to turn. If you find one false, say at which input.
  Laid BY PROGRAM, IN A SANDBOX (cutbox-rows.mjs): the forced cells as the released guide's own fill.sh prints them over the translation 21ef92a2c0d9dbbd… (all of the seat's roots in one cut). By AI agents, Wed Nov 11 2026. No macro, syntax, notation, axiom, sorry.
-/
import Derived.Test.YtbdnmdmfnopihaaChecked
import GoSem.Claim
import GoSem.ClaimJoined
import GoSem.ClaimMapViews
import Derived.JoinedTies
import Derived.KernelRfl
namespace Go.Proofs.Ytbdnmdmfnopihaa
/- THE CELL 'sum', in the pinned program and in every row, IS THE sha256 OF THE DUMP (.gsa) THAT YtbdnmdmfnopihaaProg.lean LOADS. Nothing in Lean hashes anything: it is a label: what it is worth is what the hold of that sum in a sandbox is worth. -/
noncomputable def Try.pinned : Pinned := { name := "ytbdnmdmfnopihaa", sum := "21ef92a2c0d9dbbdfd0d4cddd8843a487681bdb4f8cdbdebae23c24f011c9901", checked := Try.checked }
namespace Rows
def none {H : Type} : Left H := { results := [], args := [] }

/-- 'slipwaylaw11.LayoutPlans': WHATEVER THE INPUT: true; the input reads as it did. -/
def layoutPlansSpec : ChangeSpec := { name := "layoutPlans", fn := fun _ => fun
  | [d1, d2, d3] => { results := [.lit (.bool true)], args := [d1, d2, d3] }
  | _ => none }
def layoutPlansRow : OpenClaim := { program := "ytbdnmdmfnopihaa", sum := "21ef92a2c0d9dbbdfd0d4cddd8843a487681bdb4f8cdbdebae23c24f011c9901", func := "slipway/slipwaylaw11.LayoutPlans", spec := "layoutPlans", plainKeys := false, apart := false }
def LayoutPlansSaid : Prop := layoutPlansRow.holds Try.pinned (OpenSpec.ofChange layoutPlansSpec)

/-- ITS FALSE NEIGHBOUR: 'it returns false'. Refute it at one input. -/
def layoutPlansWrong : ChangeSpec := { name := "layoutPlans", fn := fun _ => fun
  | [d1, d2, d3] => { results := [.lit (.bool false)], args := [d1, d2, d3] }
  | _ => none }
def LayoutPlansWrongFalsely : Prop := layoutPlansRow.holds Try.pinned (OpenSpec.ofChange layoutPlansWrong)

/-- 'slipwaylaw11.LayoutPlaces': WHATEVER THE INPUT: true; the input reads as it did. -/
def layoutPlacesSpec : ChangeSpec := { name := "layoutPlaces", fn := fun _ => fun
  | [d1, d2] => { results := [.lit (.bool true)], args := [d1, d2] }
  | _ => none }
def layoutPlacesRow : OpenClaim := { program := "ytbdnmdmfnopihaa", sum := "21ef92a2c0d9dbbdfd0d4cddd8843a487681bdb4f8cdbdebae23c24f011c9901", func := "slipway/slipwaylaw11.LayoutPlaces", spec := "layoutPlaces", plainKeys := false, apart := false }
def LayoutPlacesSaid : Prop := layoutPlacesRow.holds Try.pinned (OpenSpec.ofChange layoutPlacesSpec)

/-- ITS FALSE NEIGHBOUR: 'it returns false'. Refute it at one input. -/
def layoutPlacesWrong : ChangeSpec := { name := "layoutPlaces", fn := fun _ => fun
  | [d1, d2] => { results := [.lit (.bool false)], args := [d1, d2] }
  | _ => none }
def LayoutPlacesWrongFalsely : Prop := layoutPlacesRow.holds Try.pinned (OpenSpec.ofChange layoutPlacesWrong)

/-- 'slipwaylaw11.LayoutUses': WHATEVER THE INPUT: true; the input reads as it did. -/
def layoutUsesSpec : ChangeSpec := { name := "layoutUses", fn := fun _ => fun
  | [d1, d2] => { results := [.lit (.bool true)], args := [d1, d2] }
  | _ => none }
def layoutUsesRow : OpenClaim := { program := "ytbdnmdmfnopihaa", sum := "21ef92a2c0d9dbbdfd0d4cddd8843a487681bdb4f8cdbdebae23c24f011c9901", func := "slipway/slipwaylaw11.LayoutUses", spec := "layoutUses", unfollowed := true, recurses := true, plainKeys := false, apart := false }
def LayoutUsesSaid : Prop := layoutUsesRow.holds Try.pinned (OpenSpec.ofChange layoutUsesSpec)

/-- ITS FALSE NEIGHBOUR: 'it returns false'. Refute it at one input. -/
def layoutUsesWrong : ChangeSpec := { name := "layoutUses", fn := fun _ => fun
  | [d1, d2] => { results := [.lit (.bool false)], args := [d1, d2] }
  | _ => none }
def LayoutUsesWrongFalsely : Prop := layoutUsesRow.holds Try.pinned (OpenSpec.ofChange layoutUsesWrong)

/-- 'slipwaylaw11.LayoutDescs': WHATEVER THE INPUT: true; the input reads as it did. -/
def layoutDescsSpec : ChangeSpec := { name := "layoutDescs", fn := fun _ => fun
  | [d1, d2, d3] => { results := [.lit (.bool true)], args := [d1, d2, d3] }
  | _ => none }
def layoutDescsRow : OpenClaim := { program := "ytbdnmdmfnopihaa", sum := "21ef92a2c0d9dbbdfd0d4cddd8843a487681bdb4f8cdbdebae23c24f011c9901", func := "slipway/slipwaylaw11.LayoutDescs", spec := "layoutDescs", unfollowed := true, recurses := true, plainKeys := false, apart := false }
def LayoutDescsSaid : Prop := layoutDescsRow.holds Try.pinned (OpenSpec.ofChange layoutDescsSpec)

/-- ITS FALSE NEIGHBOUR: 'it returns false'. Refute it at one input. -/
def layoutDescsWrong : ChangeSpec := { name := "layoutDescs", fn := fun _ => fun
  | [d1, d2, d3] => { results := [.lit (.bool false)], args := [d1, d2, d3] }
  | _ => none }
def LayoutDescsWrongFalsely : Prop := layoutDescsRow.holds Try.pinned (OpenSpec.ofChange layoutDescsWrong)

/-- 'slipwaylaw11.LayoutAsks': WHATEVER THE INPUT: true; the input reads as it did. -/
def layoutAsksSpec : ChangeSpec := { name := "layoutAsks", fn := fun _ => fun
  | [d1, d2, d3] => { results := [.lit (.bool true)], args := [d1, d2, d3] }
  | _ => none }
def layoutAsksRow : OpenClaim := { program := "ytbdnmdmfnopihaa", sum := "21ef92a2c0d9dbbdfd0d4cddd8843a487681bdb4f8cdbdebae23c24f011c9901", func := "slipway/slipwaylaw11.LayoutAsks", spec := "layoutAsks", unfollowed := true, recurses := true, plainKeys := false, apart := false }
def LayoutAsksSaid : Prop := layoutAsksRow.holds Try.pinned (OpenSpec.ofChange layoutAsksSpec)

/-- ITS FALSE NEIGHBOUR: 'it returns false'. Refute it at one input. -/
def layoutAsksWrong : ChangeSpec := { name := "layoutAsks", fn := fun _ => fun
  | [d1, d2, d3] => { results := [.lit (.bool false)], args := [d1, d2, d3] }
  | _ => none }
def LayoutAsksWrongFalsely : Prop := layoutAsksRow.holds Try.pinned (OpenSpec.ofChange layoutAsksWrong)

/-- 'slipwaylaw11.LayoutSupers': WHATEVER THE INPUT: true; the input reads as it did. -/
def layoutSupersSpec : ChangeSpec := { name := "layoutSupers", fn := fun _ => fun
  | [d1, d2] => { results := [.lit (.bool true)], args := [d1, d2] }
  | _ => none }
def layoutSupersRow : OpenClaim := { program := "ytbdnmdmfnopihaa", sum := "21ef92a2c0d9dbbdfd0d4cddd8843a487681bdb4f8cdbdebae23c24f011c9901", func := "slipway/slipwaylaw11.LayoutSupers", spec := "layoutSupers", unfollowed := true, recurses := true, plainKeys := false, apart := false }
def LayoutSupersSaid : Prop := layoutSupersRow.holds Try.pinned (OpenSpec.ofChange layoutSupersSpec)

/-- ITS FALSE NEIGHBOUR: 'it returns false'. Refute it at one input. -/
def layoutSupersWrong : ChangeSpec := { name := "layoutSupers", fn := fun _ => fun
  | [d1, d2] => { results := [.lit (.bool false)], args := [d1, d2] }
  | _ => none }
def LayoutSupersWrongFalsely : Prop := layoutSupersRow.holds Try.pinned (OpenSpec.ofChange layoutSupersWrong)

/-- 'slipwaylaw11.LayoutBack': WHATEVER THE INPUT: true; the input reads as it did. -/
def layoutBackSpec : ChangeSpec := { name := "layoutBack", fn := fun _ => fun
  | [d1, d2, d3] => { results := [.lit (.bool true)], args := [d1, d2, d3] }
  | _ => none }
def layoutBackRow : OpenClaim := { program := "ytbdnmdmfnopihaa", sum := "21ef92a2c0d9dbbdfd0d4cddd8843a487681bdb4f8cdbdebae23c24f011c9901", func := "slipway/slipwaylaw11.LayoutBack", spec := "layoutBack", unfollowed := true, recurses := true, plainKeys := false, apart := false }
def LayoutBackSaid : Prop := layoutBackRow.holds Try.pinned (OpenSpec.ofChange layoutBackSpec)

/-- ITS FALSE NEIGHBOUR: 'it returns false'. Refute it at one input. -/
def layoutBackWrong : ChangeSpec := { name := "layoutBack", fn := fun _ => fun
  | [d1, d2, d3] => { results := [.lit (.bool false)], args := [d1, d2, d3] }
  | _ => none }
def LayoutBackWrongFalsely : Prop := layoutBackRow.holds Try.pinned (OpenSpec.ofChange layoutBackWrong)

/- THE SECOND FORM. 'bulk': how many values and letters a reading holds, each counted each time it is reached (what is shared counts as often as it is met; a slice's spare places count too). A statement '..UptoSaid' is the law's where the arguments, and the package variables that the reading takes, are together of bulk at most 1048576: NARROWER than '..Said'. Prove '..Said' where nothing that the law and all that it calls make is longer than what came in: it says more and counts as full. Else prove '..UptoSaid'. A law counts once. -/
mutual
def uptoBulk {H : Type} : DataW H → Nat
  | .lit (.string bytes) => bytes.length + 1
  | .lit _ => 1
  | .nil => 1
  | .ptr d => uptoBulk d + 1
  | .slice elems spare => uptoBulkAll elems + uptoBulkAll spare + 1
  | .agg parts => uptoBulkAll parts + 1
  | .iface _ d => uptoBulk d + 1
  | .map entries => uptoBulkEntries entries + 1
  | .held _ => 1
def uptoBulkAll {H : Type} : List (DataW H) → Nat
  | [] => 0
  | d :: r => uptoBulk d + uptoBulkAll r
def uptoBulkEntries {H : Type} : List (Lit × DataW H) → Nat
  | [] => 0
  | x :: r => uptoBulkEntry x + uptoBulkEntries r
def uptoBulkEntry {H : Type} : Lit × DataW H → Nat
  | (.string bytes, d) => bytes.length + uptoBulk d + 1
  | (_, d) => uptoBulk d + 1
 end
def uptoSmall : (H : Type) → List (DataW H) → Bool := fun _ ds => decide (uptoBulkAll ds ≤ 1048576)
def OpenSpec.upto (s : _root_.Go.ChangeSpec) : _root_.Go.OpenSpec := { _root_.Go.OpenSpec.ofChange s with cond := some uptoSmall }

/-- 'slipwaylaw11.LayoutPlans', WHERE WHAT IT READS IS OF BULK AT MOST 1048576: true; the input reads as it did. -/
def layoutPlansUptoRow : OpenClaim := { program := "ytbdnmdmfnopihaa", sum := "21ef92a2c0d9dbbdfd0d4cddd8843a487681bdb4f8cdbdebae23c24f011c9901", func := "slipway/slipwaylaw11.LayoutPlans", spec := "layoutPlans", plainKeys := false, apart := false, narrowed := true }
def LayoutPlansUptoSaid : Prop := layoutPlansUptoRow.holds Try.pinned (OpenSpec.upto layoutPlansSpec)

/-- 'slipwaylaw11.LayoutPlaces', WHERE WHAT IT READS IS OF BULK AT MOST 1048576: true; the input reads as it did. -/
def layoutPlacesUptoRow : OpenClaim := { program := "ytbdnmdmfnopihaa", sum := "21ef92a2c0d9dbbdfd0d4cddd8843a487681bdb4f8cdbdebae23c24f011c9901", func := "slipway/slipwaylaw11.LayoutPlaces", spec := "layoutPlaces", plainKeys := false, apart := false, narrowed := true }
def LayoutPlacesUptoSaid : Prop := layoutPlacesUptoRow.holds Try.pinned (OpenSpec.upto layoutPlacesSpec)

/-- 'slipwaylaw11.LayoutUses', WHERE WHAT IT READS IS OF BULK AT MOST 1048576: true; the input reads as it did. -/
def layoutUsesUptoRow : OpenClaim := { program := "ytbdnmdmfnopihaa", sum := "21ef92a2c0d9dbbdfd0d4cddd8843a487681bdb4f8cdbdebae23c24f011c9901", func := "slipway/slipwaylaw11.LayoutUses", spec := "layoutUses", unfollowed := true, recurses := true, plainKeys := false, apart := false, narrowed := true }
def LayoutUsesUptoSaid : Prop := layoutUsesUptoRow.holds Try.pinned (OpenSpec.upto layoutUsesSpec)

/-- 'slipwaylaw11.LayoutDescs', WHERE WHAT IT READS IS OF BULK AT MOST 1048576: true; the input reads as it did. -/
def layoutDescsUptoRow : OpenClaim := { program := "ytbdnmdmfnopihaa", sum := "21ef92a2c0d9dbbdfd0d4cddd8843a487681bdb4f8cdbdebae23c24f011c9901", func := "slipway/slipwaylaw11.LayoutDescs", spec := "layoutDescs", unfollowed := true, recurses := true, plainKeys := false, apart := false, narrowed := true }
def LayoutDescsUptoSaid : Prop := layoutDescsUptoRow.holds Try.pinned (OpenSpec.upto layoutDescsSpec)

/-- 'slipwaylaw11.LayoutAsks', WHERE WHAT IT READS IS OF BULK AT MOST 1048576: true; the input reads as it did. -/
def layoutAsksUptoRow : OpenClaim := { program := "ytbdnmdmfnopihaa", sum := "21ef92a2c0d9dbbdfd0d4cddd8843a487681bdb4f8cdbdebae23c24f011c9901", func := "slipway/slipwaylaw11.LayoutAsks", spec := "layoutAsks", unfollowed := true, recurses := true, plainKeys := false, apart := false, narrowed := true }
def LayoutAsksUptoSaid : Prop := layoutAsksUptoRow.holds Try.pinned (OpenSpec.upto layoutAsksSpec)

/-- 'slipwaylaw11.LayoutSupers', WHERE WHAT IT READS IS OF BULK AT MOST 1048576: true; the input reads as it did. -/
def layoutSupersUptoRow : OpenClaim := { program := "ytbdnmdmfnopihaa", sum := "21ef92a2c0d9dbbdfd0d4cddd8843a487681bdb4f8cdbdebae23c24f011c9901", func := "slipway/slipwaylaw11.LayoutSupers", spec := "layoutSupers", unfollowed := true, recurses := true, plainKeys := false, apart := false, narrowed := true }
def LayoutSupersUptoSaid : Prop := layoutSupersUptoRow.holds Try.pinned (OpenSpec.upto layoutSupersSpec)

/-- 'slipwaylaw11.LayoutBack', WHERE WHAT IT READS IS OF BULK AT MOST 1048576: true; the input reads as it did. -/
def layoutBackUptoRow : OpenClaim := { program := "ytbdnmdmfnopihaa", sum := "21ef92a2c0d9dbbdfd0d4cddd8843a487681bdb4f8cdbdebae23c24f011c9901", func := "slipway/slipwaylaw11.LayoutBack", spec := "layoutBack", unfollowed := true, recurses := true, plainKeys := false, apart := false, narrowed := true }
def LayoutBackUptoSaid : Prop := layoutBackUptoRow.holds Try.pinned (OpenSpec.upto layoutBackSpec)

end Rows
end Go.Proofs.Ytbdnmdmfnopihaa
