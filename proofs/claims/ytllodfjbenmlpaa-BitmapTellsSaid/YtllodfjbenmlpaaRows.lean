/-
  No cell of these rows narrows 'for every input' (looked for: loops, veiled, ifaces, maps, wideKeys, modest, calm, conditions, laid).
  DERIVED. THE GIVEN ROWS OF THIS SEAT. 5 by the template 'for every input the law returns true; each argument reads behind the call as it read before'; 0 by the template 'total and deterministic' (their statements: YtllodfjbenmlpaaTotals.lean).
  GIVEN WITH THE SEED: the statements are not yours to turn. If you find one false, say at which input.
  Laid BY PROGRAM, IN A SANDBOX (cutbox-rows.mjs): the forced cells as the released guide's own fill.sh prints them over the translation f411ef9d052862a8… (all of the seat's roots in one cut). By AI agents, Wed Nov 11 2026. No macro, syntax, notation, axiom, sorry.
-/
import Derived.Test.YtllodfjbenmlpaaChecked
import GoSem.Claim
import GoSem.ClaimJoined
import GoSem.ClaimMapViews
import Derived.JoinedTies
import Derived.KernelRfl
namespace Go.Proofs.Ytllodfjbenmlpaa
/- THE CELL 'sum', in the pinned program and in every row, IS THE sha256 OF THE DUMP (.gsa) THAT YtllodfjbenmlpaaProg.lean LOADS. Nothing in Lean hashes anything: it is a label: what it is worth is what the hold of that sum in a sandbox is worth. -/
noncomputable def Try.pinned : Pinned := { name := "ytllodfjbenmlpaa", sum := "f411ef9d052862a8f0e0f82c0da1ac868750adcc1fc069c0f7120ecc9b2e9fb3", checked := Try.checked }
namespace Rows
def none {H : Type} : Left H := { results := [], args := [] }

/-- 'slipwaylaw12.BitmapFinds': WHATEVER THE INPUT: true; the input reads as it did. -/
def bitmapFindsSpec : ChangeSpec := { name := "bitmapFinds", fn := fun _ => fun
  | [d1, d2, d3, d4] => { results := [.lit (.bool true)], args := [d1, d2, d3, d4] }
  | _ => none }
def bitmapFindsRow : OpenClaim := { program := "ytllodfjbenmlpaa", sum := "f411ef9d052862a8f0e0f82c0da1ac868750adcc1fc069c0f7120ecc9b2e9fb3", func := "slipway/slipwaylaw12.BitmapFinds", spec := "bitmapFinds", unfollowed := true, recurses := true, apart := false }
def BitmapFindsSaid : Prop := bitmapFindsRow.holds Try.pinned (OpenSpec.ofChange bitmapFindsSpec)

/-- ITS FALSE NEIGHBOUR: 'it returns false'. Refute it at one input. -/
def bitmapFindsWrong : ChangeSpec := { name := "bitmapFinds", fn := fun _ => fun
  | [d1, d2, d3, d4] => { results := [.lit (.bool false)], args := [d1, d2, d3, d4] }
  | _ => none }
def BitmapFindsWrongFalsely : Prop := bitmapFindsRow.holds Try.pinned (OpenSpec.ofChange bitmapFindsWrong)

/-- 'slipwaylaw12.BitmapMakes': WHATEVER THE INPUT: true; the input reads as it did. -/
def bitmapMakesSpec : ChangeSpec := { name := "bitmapMakes", fn := fun _ => fun
  | [d1, d2, d3] => { results := [.lit (.bool true)], args := [d1, d2, d3] }
  | _ => none }
def bitmapMakesRow : OpenClaim := { program := "ytllodfjbenmlpaa", sum := "f411ef9d052862a8f0e0f82c0da1ac868750adcc1fc069c0f7120ecc9b2e9fb3", func := "slipway/slipwaylaw12.BitmapMakes", spec := "bitmapMakes", unfollowed := true, recurses := true, apart := false }
def BitmapMakesSaid : Prop := bitmapMakesRow.holds Try.pinned (OpenSpec.ofChange bitmapMakesSpec)

/-- ITS FALSE NEIGHBOUR: 'it returns false'. Refute it at one input. -/
def bitmapMakesWrong : ChangeSpec := { name := "bitmapMakes", fn := fun _ => fun
  | [d1, d2, d3] => { results := [.lit (.bool false)], args := [d1, d2, d3] }
  | _ => none }
def BitmapMakesWrongFalsely : Prop := bitmapMakesRow.holds Try.pinned (OpenSpec.ofChange bitmapMakesWrong)

/-- 'slipwaylaw12.BitmapBack': WHATEVER THE INPUT: true; the input reads as it did. -/
def bitmapBackSpec : ChangeSpec := { name := "bitmapBack", fn := fun _ => fun
  | [d1, d2, d3, d4] => { results := [.lit (.bool true)], args := [d1, d2, d3, d4] }
  | _ => none }
def bitmapBackRow : OpenClaim := { program := "ytllodfjbenmlpaa", sum := "f411ef9d052862a8f0e0f82c0da1ac868750adcc1fc069c0f7120ecc9b2e9fb3", func := "slipway/slipwaylaw12.BitmapBack", spec := "bitmapBack", unfollowed := true, recurses := true, apart := false }
def BitmapBackSaid : Prop := bitmapBackRow.holds Try.pinned (OpenSpec.ofChange bitmapBackSpec)

/-- ITS FALSE NEIGHBOUR: 'it returns false'. Refute it at one input. -/
def bitmapBackWrong : ChangeSpec := { name := "bitmapBack", fn := fun _ => fun
  | [d1, d2, d3, d4] => { results := [.lit (.bool false)], args := [d1, d2, d3, d4] }
  | _ => none }
def BitmapBackWrongFalsely : Prop := bitmapBackRow.holds Try.pinned (OpenSpec.ofChange bitmapBackWrong)

/-- 'slipwaylaw12.BitmapTells': WHATEVER THE INPUT: true; the input reads as it did. -/
def bitmapTellsSpec : ChangeSpec := { name := "bitmapTells", fn := fun _ => fun
  | [d1, d2, d3, d4, d5] => { results := [.lit (.bool true)], args := [d1, d2, d3, d4, d5] }
  | _ => none }
def bitmapTellsRow : OpenClaim := { program := "ytllodfjbenmlpaa", sum := "f411ef9d052862a8f0e0f82c0da1ac868750adcc1fc069c0f7120ecc9b2e9fb3", func := "slipway/slipwaylaw12.BitmapTells", spec := "bitmapTells", unfollowed := true, recurses := true, apart := false }
def BitmapTellsSaid : Prop := bitmapTellsRow.holds Try.pinned (OpenSpec.ofChange bitmapTellsSpec)

/-- ITS FALSE NEIGHBOUR: 'it returns false'. Refute it at one input. -/
def bitmapTellsWrong : ChangeSpec := { name := "bitmapTells", fn := fun _ => fun
  | [d1, d2, d3, d4, d5] => { results := [.lit (.bool false)], args := [d1, d2, d3, d4, d5] }
  | _ => none }
def BitmapTellsWrongFalsely : Prop := bitmapTellsRow.holds Try.pinned (OpenSpec.ofChange bitmapTellsWrong)

/-- 'slipwaylaw12.BitmapTurns': WHATEVER THE INPUT: true; the input reads as it did. -/
def bitmapTurnsSpec : ChangeSpec := { name := "bitmapTurns", fn := fun _ => fun
  | [d1, d2, d3, d4, d5] => { results := [.lit (.bool true)], args := [d1, d2, d3, d4, d5] }
  | _ => none }
def bitmapTurnsRow : OpenClaim := { program := "ytllodfjbenmlpaa", sum := "f411ef9d052862a8f0e0f82c0da1ac868750adcc1fc069c0f7120ecc9b2e9fb3", func := "slipway/slipwaylaw12.BitmapTurns", spec := "bitmapTurns", unfollowed := true, recurses := true, apart := false }
def BitmapTurnsSaid : Prop := bitmapTurnsRow.holds Try.pinned (OpenSpec.ofChange bitmapTurnsSpec)

/-- ITS FALSE NEIGHBOUR: 'it returns false'. Refute it at one input. -/
def bitmapTurnsWrong : ChangeSpec := { name := "bitmapTurns", fn := fun _ => fun
  | [d1, d2, d3, d4, d5] => { results := [.lit (.bool false)], args := [d1, d2, d3, d4, d5] }
  | _ => none }
def BitmapTurnsWrongFalsely : Prop := bitmapTurnsRow.holds Try.pinned (OpenSpec.ofChange bitmapTurnsWrong)

/- THE SECOND FORM. 'bulk': how many values and letters a reading holds, each counted each time it is reached (what is shared counts as often as it is met; a slice's spare places count too). A statement '..UptoSaid' is the law's where the arguments, and the package variables that the reading takes, are together of bulk at most 1048576: NARROWER than '..Said'. Prove '..Said' where nothing that the law and all that it calls make is longer than what came in: it says more and counts as full. Else prove '..UptoSaid'. A law counts once. -/
mutual
def uptoBulk {H : Type} : DataW H → Nat
  | .lit (.string bytes) => bytes.length + 1
  | .lit _ => 1
  | .nil => 1
  | .ptr d => uptoBulk d + 1
  | .slice elems spare => uptoBulkAll elems + uptoBulkAll spare + 1
  | .agg parts => uptoBulkAll parts + 1
  | .iface _ d => uptoBulk d + 1
  | .map entries => uptoBulkEntries entries + 1
  | .held _ => 1
def uptoBulkAll {H : Type} : List (DataW H) → Nat
  | [] => 0
  | d :: r => uptoBulk d + uptoBulkAll r
def uptoBulkEntries {H : Type} : List (Lit × DataW H) → Nat
  | [] => 0
  | x :: r => uptoBulkEntry x + uptoBulkEntries r
def uptoBulkEntry {H : Type} : Lit × DataW H → Nat
  | (.string bytes, d) => bytes.length + uptoBulk d + 1
  | (_, d) => uptoBulk d + 1
 end
def uptoSmall : (H : Type) → List (DataW H) → Bool := fun _ ds => decide (uptoBulkAll ds ≤ 1048576)
def OpenSpec.upto (s : _root_.Go.ChangeSpec) : _root_.Go.OpenSpec := { _root_.Go.OpenSpec.ofChange s with cond := some uptoSmall }

/-- 'slipwaylaw12.BitmapFinds', WHERE WHAT IT READS IS OF BULK AT MOST 1048576: true; the input reads as it did. -/
def bitmapFindsUptoRow : OpenClaim := { program := "ytllodfjbenmlpaa", sum := "f411ef9d052862a8f0e0f82c0da1ac868750adcc1fc069c0f7120ecc9b2e9fb3", func := "slipway/slipwaylaw12.BitmapFinds", spec := "bitmapFinds", unfollowed := true, recurses := true, apart := false, narrowed := true }
def BitmapFindsUptoSaid : Prop := bitmapFindsUptoRow.holds Try.pinned (OpenSpec.upto bitmapFindsSpec)

/-- 'slipwaylaw12.BitmapMakes', WHERE WHAT IT READS IS OF BULK AT MOST 1048576: true; the input reads as it did. -/
def bitmapMakesUptoRow : OpenClaim := { program := "ytllodfjbenmlpaa", sum := "f411ef9d052862a8f0e0f82c0da1ac868750adcc1fc069c0f7120ecc9b2e9fb3", func := "slipway/slipwaylaw12.BitmapMakes", spec := "bitmapMakes", unfollowed := true, recurses := true, apart := false, narrowed := true }
def BitmapMakesUptoSaid : Prop := bitmapMakesUptoRow.holds Try.pinned (OpenSpec.upto bitmapMakesSpec)

/-- 'slipwaylaw12.BitmapBack', WHERE WHAT IT READS IS OF BULK AT MOST 1048576: true; the input reads as it did. -/
def bitmapBackUptoRow : OpenClaim := { program := "ytllodfjbenmlpaa", sum := "f411ef9d052862a8f0e0f82c0da1ac868750adcc1fc069c0f7120ecc9b2e9fb3", func := "slipway/slipwaylaw12.BitmapBack", spec := "bitmapBack", unfollowed := true, recurses := true, apart := false, narrowed := true }
def BitmapBackUptoSaid : Prop := bitmapBackUptoRow.holds Try.pinned (OpenSpec.upto bitmapBackSpec)

/-- 'slipwaylaw12.BitmapTells', WHERE WHAT IT READS IS OF BULK AT MOST 1048576: true; the input reads as it did. -/
def bitmapTellsUptoRow : OpenClaim := { program := "ytllodfjbenmlpaa", sum := "f411ef9d052862a8f0e0f82c0da1ac868750adcc1fc069c0f7120ecc9b2e9fb3", func := "slipway/slipwaylaw12.BitmapTells", spec := "bitmapTells", unfollowed := true, recurses := true, apart := false, narrowed := true }
def BitmapTellsUptoSaid : Prop := bitmapTellsUptoRow.holds Try.pinned (OpenSpec.upto bitmapTellsSpec)

/-- 'slipwaylaw12.BitmapTurns', WHERE WHAT IT READS IS OF BULK AT MOST 1048576: true; the input reads as it did. -/
def bitmapTurnsUptoRow : OpenClaim := { program := "ytllodfjbenmlpaa", sum := "f411ef9d052862a8f0e0f82c0da1ac868750adcc1fc069c0f7120ecc9b2e9fb3", func := "slipway/slipwaylaw12.BitmapTurns", spec := "bitmapTurns", unfollowed := true, recurses := true, apart := false, narrowed := true }
def BitmapTurnsUptoSaid : Prop := bitmapTurnsUptoRow.holds Try.pinned (OpenSpec.upto bitmapTurnsSpec)

end Rows
end Go.Proofs.Ytllodfjbenmlpaa
