/-
  No cell of these rows narrows 'for every input' (looked for: loops, veiled, ifaces, maps, wideKeys, modest, calm, conditions, laid).
  DERIVED. THE GIVEN ROWS OF THIS SEAT. 11 by the template 'for every input the law returns true; each argument reads behind the call as it read before'; 0 by the template 'total and deterministic' (their statements: YtoeipkjpgbdioaaTotals.lean).
  GIVEN WITH THE SEED: the statements are not yours to turn. If you find one false, say at which input.
  Laid BY PROGRAM, IN A SANDBOX (cutbox-rows.mjs): the forced cells as the released guide's own fill.sh prints them over the translation 54d6e0be6081ae0c… (all of the seat's roots in one cut). By AI agents, Wed Nov 11 2026. No macro, syntax, notation, axiom, sorry.
-/
import Derived.Test.YtoeipkjpgbdioaaChecked
import GoSem.Claim
import GoSem.ClaimJoined
import GoSem.ClaimMapViews
import Derived.JoinedTies
import Derived.KernelRfl
namespace Go.Proofs.Ytoeipkjpgbdioaa
/- THE CELL 'sum', in the pinned program and in every row, IS THE sha256 OF THE DUMP (.gsa) THAT YtoeipkjpgbdioaaProg.lean LOADS. Nothing in Lean hashes anything: it is a label: what it is worth is what the hold of that sum in a sandbox is worth. -/
noncomputable def Try.pinned : Pinned := { name := "ytoeipkjpgbdioaa", sum := "54d6e0be6081ae0c7e65b9bf277545468fe8bc1bd0ebe491ec0ceeb03462850a", checked := Try.checked }
namespace Rows
def none {H : Type} : Left H := { results := [], args := [] }

/-- 'splicelaw26.MendBack': WHATEVER THE INPUT: true; the input reads as it did. -/
def mendBackSpec : ChangeSpec := { name := "mendBack", fn := fun _ => fun
  | [d1, d2] => { results := [.lit (.bool true)], args := [d1, d2] }
  | _ => none }
def mendBackRow : OpenClaim := { program := "ytoeipkjpgbdioaa", sum := "54d6e0be6081ae0c7e65b9bf277545468fe8bc1bd0ebe491ec0ceeb03462850a", func := "splice/splicelaw26.MendBack", spec := "mendBack", inPlace := ["internal/abi.NoEscape"], unfollowed := true, recurses := true, apart := false }
def MendBackSaid : Prop := mendBackRow.holds Try.pinned (OpenSpec.ofChange mendBackSpec)

/-- ITS FALSE NEIGHBOUR: 'it returns false'. Refute it at one input. -/
def mendBackWrong : ChangeSpec := { name := "mendBack", fn := fun _ => fun
  | [d1, d2] => { results := [.lit (.bool false)], args := [d1, d2] }
  | _ => none }
def MendBackWrongFalsely : Prop := mendBackRow.holds Try.pinned (OpenSpec.ofChange mendBackWrong)

/-- 'splicelaw22.ScanPages': WHATEVER THE INPUT: true; the input reads as it did. -/
def scanPagesSpec : ChangeSpec := { name := "scanPages", fn := fun _ => fun
  | [d1, d2] => { results := [.lit (.bool true)], args := [d1, d2] }
  | _ => none }
def scanPagesRow : OpenClaim := { program := "ytoeipkjpgbdioaa", sum := "54d6e0be6081ae0c7e65b9bf277545468fe8bc1bd0ebe491ec0ceeb03462850a", func := "splice/splicelaw22.ScanPages", spec := "scanPages", unfollowed := true, recurses := true, apart := false }
def ScanPagesSaid : Prop := scanPagesRow.holds Try.pinned (OpenSpec.ofChange scanPagesSpec)

/-- ITS FALSE NEIGHBOUR: 'it returns false'. Refute it at one input. -/
def scanPagesWrong : ChangeSpec := { name := "scanPages", fn := fun _ => fun
  | [d1, d2] => { results := [.lit (.bool false)], args := [d1, d2] }
  | _ => none }
def ScanPagesWrongFalsely : Prop := scanPagesRow.holds Try.pinned (OpenSpec.ofChange scanPagesWrong)

/-- 'splicelaw22.ScanTops': WHATEVER THE INPUT: true; the input reads as it did. -/
def scanTopsSpec : ChangeSpec := { name := "scanTops", fn := fun _ => fun
  | [d1, d2, d3] => { results := [.lit (.bool true)], args := [d1, d2, d3] }
  | _ => none }
def scanTopsRow : OpenClaim := { program := "ytoeipkjpgbdioaa", sum := "54d6e0be6081ae0c7e65b9bf277545468fe8bc1bd0ebe491ec0ceeb03462850a", func := "splice/splicelaw22.ScanTops", spec := "scanTops", unfollowed := true, recurses := true, apart := false }
def ScanTopsSaid : Prop := scanTopsRow.holds Try.pinned (OpenSpec.ofChange scanTopsSpec)

/-- ITS FALSE NEIGHBOUR: 'it returns false'. Refute it at one input. -/
def scanTopsWrong : ChangeSpec := { name := "scanTops", fn := fun _ => fun
  | [d1, d2, d3] => { results := [.lit (.bool false)], args := [d1, d2, d3] }
  | _ => none }
def ScanTopsWrongFalsely : Prop := scanTopsRow.holds Try.pinned (OpenSpec.ofChange scanTopsWrong)

/-- 'splicelaw22.ScanGroups': WHATEVER THE INPUT: true; the input reads as it did. -/
def scanGroupsSpec : ChangeSpec := { name := "scanGroups", fn := fun _ => fun
  | [d1, d2, d3] => { results := [.lit (.bool true)], args := [d1, d2, d3] }
  | _ => none }
def scanGroupsRow : OpenClaim := { program := "ytoeipkjpgbdioaa", sum := "54d6e0be6081ae0c7e65b9bf277545468fe8bc1bd0ebe491ec0ceeb03462850a", func := "splice/splicelaw22.ScanGroups", spec := "scanGroups", unfollowed := true, recurses := true, apart := false }
def ScanGroupsSaid : Prop := scanGroupsRow.holds Try.pinned (OpenSpec.ofChange scanGroupsSpec)

/-- ITS FALSE NEIGHBOUR: 'it returns false'. Refute it at one input. -/
def scanGroupsWrong : ChangeSpec := { name := "scanGroups", fn := fun _ => fun
  | [d1, d2, d3] => { results := [.lit (.bool false)], args := [d1, d2, d3] }
  | _ => none }
def ScanGroupsWrongFalsely : Prop := scanGroupsRow.holds Try.pinned (OpenSpec.ofChange scanGroupsWrong)

/-- 'splicelaw22.ScanTotals': WHATEVER THE INPUT: true; the input reads as it did. -/
def scanTotalsSpec : ChangeSpec := { name := "scanTotals", fn := fun _ => fun
  | [d1, d2, d3] => { results := [.lit (.bool true)], args := [d1, d2, d3] }
  | _ => none }
def scanTotalsRow : OpenClaim := { program := "ytoeipkjpgbdioaa", sum := "54d6e0be6081ae0c7e65b9bf277545468fe8bc1bd0ebe491ec0ceeb03462850a", func := "splice/splicelaw22.ScanTotals", spec := "scanTotals", unfollowed := true, recurses := true, apart := false }
def ScanTotalsSaid : Prop := scanTotalsRow.holds Try.pinned (OpenSpec.ofChange scanTotalsSpec)

/-- ITS FALSE NEIGHBOUR: 'it returns false'. Refute it at one input. -/
def scanTotalsWrong : ChangeSpec := { name := "scanTotals", fn := fun _ => fun
  | [d1, d2, d3] => { results := [.lit (.bool false)], args := [d1, d2, d3] }
  | _ => none }
def ScanTotalsWrongFalsely : Prop := scanTotalsRow.holds Try.pinned (OpenSpec.ofChange scanTotalsWrong)

/-- 'splicelaw22.ScanPlaces': WHATEVER THE INPUT: true; the input reads as it did. -/
def scanPlacesSpec : ChangeSpec := { name := "scanPlaces", fn := fun _ => fun
  | [d1, d2, d3] => { results := [.lit (.bool true)], args := [d1, d2, d3] }
  | _ => none }
def scanPlacesRow : OpenClaim := { program := "ytoeipkjpgbdioaa", sum := "54d6e0be6081ae0c7e65b9bf277545468fe8bc1bd0ebe491ec0ceeb03462850a", func := "splice/splicelaw22.ScanPlaces", spec := "scanPlaces", unfollowed := true, recurses := true, apart := false }
def ScanPlacesSaid : Prop := scanPlacesRow.holds Try.pinned (OpenSpec.ofChange scanPlacesSpec)

/-- ITS FALSE NEIGHBOUR: 'it returns false'. Refute it at one input. -/
def scanPlacesWrong : ChangeSpec := { name := "scanPlaces", fn := fun _ => fun
  | [d1, d2, d3] => { results := [.lit (.bool false)], args := [d1, d2, d3] }
  | _ => none }
def ScanPlacesWrongFalsely : Prop := scanPlacesRow.holds Try.pinned (OpenSpec.ofChange scanPlacesWrong)

/-- 'splicelaw22.ScanAll': WHATEVER THE INPUT: true; the input reads as it did. -/
def scanAllSpec : ChangeSpec := { name := "scanAll", fn := fun _ => fun
  | [d1, d2] => { results := [.lit (.bool true)], args := [d1, d2] }
  | _ => none }
def scanAllRow : OpenClaim := { program := "ytoeipkjpgbdioaa", sum := "54d6e0be6081ae0c7e65b9bf277545468fe8bc1bd0ebe491ec0ceeb03462850a", func := "splice/splicelaw22.ScanAll", spec := "scanAll", unfollowed := true, recurses := true, apart := false }
def ScanAllSaid : Prop := scanAllRow.holds Try.pinned (OpenSpec.ofChange scanAllSpec)

/-- ITS FALSE NEIGHBOUR: 'it returns false'. Refute it at one input. -/
def scanAllWrong : ChangeSpec := { name := "scanAll", fn := fun _ => fun
  | [d1, d2] => { results := [.lit (.bool false)], args := [d1, d2] }
  | _ => none }
def ScanAllWrongFalsely : Prop := scanAllRow.holds Try.pinned (OpenSpec.ofChange scanAllWrong)

/-- 'splicelaw22.ScanBack': WHATEVER THE INPUT: true; the input reads as it did. -/
def scanBackSpec : ChangeSpec := { name := "scanBack", fn := fun _ => fun
  | [d1, d2] => { results := [.lit (.bool true)], args := [d1, d2] }
  | _ => none }
def scanBackRow : OpenClaim := { program := "ytoeipkjpgbdioaa", sum := "54d6e0be6081ae0c7e65b9bf277545468fe8bc1bd0ebe491ec0ceeb03462850a", func := "splice/splicelaw22.ScanBack", spec := "scanBack", inPlace := ["internal/abi.NoEscape"], unfollowed := true, recurses := true, apart := false }
def ScanBackSaid : Prop := scanBackRow.holds Try.pinned (OpenSpec.ofChange scanBackSpec)

/-- ITS FALSE NEIGHBOUR: 'it returns false'. Refute it at one input. -/
def scanBackWrong : ChangeSpec := { name := "scanBack", fn := fun _ => fun
  | [d1, d2] => { results := [.lit (.bool false)], args := [d1, d2] }
  | _ => none }
def ScanBackWrongFalsely : Prop := scanBackRow.holds Try.pinned (OpenSpec.ofChange scanBackWrong)

/-- 'splicelaw23.DeltaMakes': WHATEVER THE INPUT: true; the input reads as it did. -/
def deltaMakesSpec : ChangeSpec := { name := "deltaMakes", fn := fun _ => fun
  | [d1, d2] => { results := [.lit (.bool true)], args := [d1, d2] }
  | _ => none }
def deltaMakesRow : OpenClaim := { program := "ytoeipkjpgbdioaa", sum := "54d6e0be6081ae0c7e65b9bf277545468fe8bc1bd0ebe491ec0ceeb03462850a", func := "splice/splicelaw23.DeltaMakes", spec := "deltaMakes", inPlace := ["internal/abi.NoEscape"], unfollowed := true, recurses := true, apart := false }
def DeltaMakesSaid : Prop := deltaMakesRow.holds Try.pinned (OpenSpec.ofChange deltaMakesSpec)

/-- ITS FALSE NEIGHBOUR: 'it returns false'. Refute it at one input. -/
def deltaMakesWrong : ChangeSpec := { name := "deltaMakes", fn := fun _ => fun
  | [d1, d2] => { results := [.lit (.bool false)], args := [d1, d2] }
  | _ => none }
def DeltaMakesWrongFalsely : Prop := deltaMakesRow.holds Try.pinned (OpenSpec.ofChange deltaMakesWrong)

/-- 'splicelaw23.DeltaOnto': WHATEVER THE INPUT: true; the input reads as it did. -/
def deltaOntoSpec : ChangeSpec := { name := "deltaOnto", fn := fun _ => fun
  | [d1, d2, d3] => { results := [.lit (.bool true)], args := [d1, d2, d3] }
  | _ => none }
def deltaOntoRow : OpenClaim := { program := "ytoeipkjpgbdioaa", sum := "54d6e0be6081ae0c7e65b9bf277545468fe8bc1bd0ebe491ec0ceeb03462850a", func := "splice/splicelaw23.DeltaOnto", spec := "deltaOnto", inPlace := ["internal/abi.NoEscape"], unfollowed := true, recurses := true, apart := false }
def DeltaOntoSaid : Prop := deltaOntoRow.holds Try.pinned (OpenSpec.ofChange deltaOntoSpec)

/-- ITS FALSE NEIGHBOUR: 'it returns false'. Refute it at one input. -/
def deltaOntoWrong : ChangeSpec := { name := "deltaOnto", fn := fun _ => fun
  | [d1, d2, d3] => { results := [.lit (.bool false)], args := [d1, d2, d3] }
  | _ => none }
def DeltaOntoWrongFalsely : Prop := deltaOntoRow.holds Try.pinned (OpenSpec.ofChange deltaOntoWrong)

/-- 'splicelaw23.DeltaThere': WHATEVER THE INPUT: true; the input reads as it did. -/
def deltaThereSpec : ChangeSpec := { name := "deltaThere", fn := fun _ => fun
  | [d1, d2] => { results := [.lit (.bool true)], args := [d1, d2] }
  | _ => none }
def deltaThereRow : OpenClaim := { program := "ytoeipkjpgbdioaa", sum := "54d6e0be6081ae0c7e65b9bf277545468fe8bc1bd0ebe491ec0ceeb03462850a", func := "splice/splicelaw23.DeltaThere", spec := "deltaThere", inPlace := ["internal/abi.NoEscape"], unfollowed := true, recurses := true, apart := false }
def DeltaThereSaid : Prop := deltaThereRow.holds Try.pinned (OpenSpec.ofChange deltaThereSpec)

/-- ITS FALSE NEIGHBOUR: 'it returns false'. Refute it at one input. -/
def deltaThereWrong : ChangeSpec := { name := "deltaThere", fn := fun _ => fun
  | [d1, d2] => { results := [.lit (.bool false)], args := [d1, d2] }
  | _ => none }
def DeltaThereWrongFalsely : Prop := deltaThereRow.holds Try.pinned (OpenSpec.ofChange deltaThereWrong)

/- THE SECOND FORM. 'bulk': how many values and letters a reading holds, each counted each time it is reached (what is shared counts as often as it is met; a slice's spare places count too). A statement '..UptoSaid' is the law's where the arguments, and the package variables that the reading takes, are together of bulk at most 1048576: NARROWER than '..Said'. Prove '..Said' where nothing that the law and all that it calls make is longer than what came in: it says more and counts as full. Else prove '..UptoSaid'. A law counts once. -/
mutual
def uptoBulk {H : Type} : DataW H → Nat
  | .lit (.string bytes) => bytes.length + 1
  | .lit _ => 1
  | .nil => 1
  | .ptr d => uptoBulk d + 1
  | .slice elems spare => uptoBulkAll elems + uptoBulkAll spare + 1
  | .agg parts => uptoBulkAll parts + 1
  | .iface _ d => uptoBulk d + 1
  | .map entries => uptoBulkEntries entries + 1
  | .held _ => 1
def uptoBulkAll {H : Type} : List (DataW H) → Nat
  | [] => 0
  | d :: r => uptoBulk d + uptoBulkAll r
def uptoBulkEntries {H : Type} : List (Lit × DataW H) → Nat
  | [] => 0
  | x :: r => uptoBulkEntry x + uptoBulkEntries r
def uptoBulkEntry {H : Type} : Lit × DataW H → Nat
  | (.string bytes, d) => bytes.length + uptoBulk d + 1
  | (_, d) => uptoBulk d + 1
 end
def uptoSmall : (H : Type) → List (DataW H) → Bool := fun _ ds => decide (uptoBulkAll ds ≤ 1048576)
def OpenSpec.upto (s : _root_.Go.ChangeSpec) : _root_.Go.OpenSpec := { _root_.Go.OpenSpec.ofChange s with cond := some uptoSmall }

/-- 'splicelaw26.MendBack', WHERE WHAT IT READS IS OF BULK AT MOST 1048576: true; the input reads as it did. -/
def mendBackUptoRow : OpenClaim := { program := "ytoeipkjpgbdioaa", sum := "54d6e0be6081ae0c7e65b9bf277545468fe8bc1bd0ebe491ec0ceeb03462850a", func := "splice/splicelaw26.MendBack", spec := "mendBack", inPlace := ["internal/abi.NoEscape"], unfollowed := true, recurses := true, apart := false, narrowed := true }
def MendBackUptoSaid : Prop := mendBackUptoRow.holds Try.pinned (OpenSpec.upto mendBackSpec)

/-- 'splicelaw22.ScanPages', WHERE WHAT IT READS IS OF BULK AT MOST 1048576: true; the input reads as it did. -/
def scanPagesUptoRow : OpenClaim := { program := "ytoeipkjpgbdioaa", sum := "54d6e0be6081ae0c7e65b9bf277545468fe8bc1bd0ebe491ec0ceeb03462850a", func := "splice/splicelaw22.ScanPages", spec := "scanPages", unfollowed := true, recurses := true, apart := false, narrowed := true }
def ScanPagesUptoSaid : Prop := scanPagesUptoRow.holds Try.pinned (OpenSpec.upto scanPagesSpec)

/-- 'splicelaw22.ScanTops', WHERE WHAT IT READS IS OF BULK AT MOST 1048576: true; the input reads as it did. -/
def scanTopsUptoRow : OpenClaim := { program := "ytoeipkjpgbdioaa", sum := "54d6e0be6081ae0c7e65b9bf277545468fe8bc1bd0ebe491ec0ceeb03462850a", func := "splice/splicelaw22.ScanTops", spec := "scanTops", unfollowed := true, recurses := true, apart := false, narrowed := true }
def ScanTopsUptoSaid : Prop := scanTopsUptoRow.holds Try.pinned (OpenSpec.upto scanTopsSpec)

/-- 'splicelaw22.ScanGroups', WHERE WHAT IT READS IS OF BULK AT MOST 1048576: true; the input reads as it did. -/
def scanGroupsUptoRow : OpenClaim := { program := "ytoeipkjpgbdioaa", sum := "54d6e0be6081ae0c7e65b9bf277545468fe8bc1bd0ebe491ec0ceeb03462850a", func := "splice/splicelaw22.ScanGroups", spec := "scanGroups", unfollowed := true, recurses := true, apart := false, narrowed := true }
def ScanGroupsUptoSaid : Prop := scanGroupsUptoRow.holds Try.pinned (OpenSpec.upto scanGroupsSpec)

/-- 'splicelaw22.ScanTotals', WHERE WHAT IT READS IS OF BULK AT MOST 1048576: true; the input reads as it did. -/
def scanTotalsUptoRow : OpenClaim := { program := "ytoeipkjpgbdioaa", sum := "54d6e0be6081ae0c7e65b9bf277545468fe8bc1bd0ebe491ec0ceeb03462850a", func := "splice/splicelaw22.ScanTotals", spec := "scanTotals", unfollowed := true, recurses := true, apart := false, narrowed := true }
def ScanTotalsUptoSaid : Prop := scanTotalsUptoRow.holds Try.pinned (OpenSpec.upto scanTotalsSpec)

/-- 'splicelaw22.ScanPlaces', WHERE WHAT IT READS IS OF BULK AT MOST 1048576: true; the input reads as it did. -/
def scanPlacesUptoRow : OpenClaim := { program := "ytoeipkjpgbdioaa", sum := "54d6e0be6081ae0c7e65b9bf277545468fe8bc1bd0ebe491ec0ceeb03462850a", func := "splice/splicelaw22.ScanPlaces", spec := "scanPlaces", unfollowed := true, recurses := true, apart := false, narrowed := true }
def ScanPlacesUptoSaid : Prop := scanPlacesUptoRow.holds Try.pinned (OpenSpec.upto scanPlacesSpec)

/-- 'splicelaw22.ScanAll', WHERE WHAT IT READS IS OF BULK AT MOST 1048576: true; the input reads as it did. -/
def scanAllUptoRow : OpenClaim := { program := "ytoeipkjpgbdioaa", sum := "54d6e0be6081ae0c7e65b9bf277545468fe8bc1bd0ebe491ec0ceeb03462850a", func := "splice/splicelaw22.ScanAll", spec := "scanAll", unfollowed := true, recurses := true, apart := false, narrowed := true }
def ScanAllUptoSaid : Prop := scanAllUptoRow.holds Try.pinned (OpenSpec.upto scanAllSpec)

/-- 'splicelaw22.ScanBack', WHERE WHAT IT READS IS OF BULK AT MOST 1048576: true; the input reads as it did. -/
def scanBackUptoRow : OpenClaim := { program := "ytoeipkjpgbdioaa", sum := "54d6e0be6081ae0c7e65b9bf277545468fe8bc1bd0ebe491ec0ceeb03462850a", func := "splice/splicelaw22.ScanBack", spec := "scanBack", inPlace := ["internal/abi.NoEscape"], unfollowed := true, recurses := true, apart := false, narrowed := true }
def ScanBackUptoSaid : Prop := scanBackUptoRow.holds Try.pinned (OpenSpec.upto scanBackSpec)

/-- 'splicelaw23.DeltaMakes', WHERE WHAT IT READS IS OF BULK AT MOST 1048576: true; the input reads as it did. -/
def deltaMakesUptoRow : OpenClaim := { program := "ytoeipkjpgbdioaa", sum := "54d6e0be6081ae0c7e65b9bf277545468fe8bc1bd0ebe491ec0ceeb03462850a", func := "splice/splicelaw23.DeltaMakes", spec := "deltaMakes", inPlace := ["internal/abi.NoEscape"], unfollowed := true, recurses := true, apart := false, narrowed := true }
def DeltaMakesUptoSaid : Prop := deltaMakesUptoRow.holds Try.pinned (OpenSpec.upto deltaMakesSpec)

/-- 'splicelaw23.DeltaOnto', WHERE WHAT IT READS IS OF BULK AT MOST 1048576: true; the input reads as it did. -/
def deltaOntoUptoRow : OpenClaim := { program := "ytoeipkjpgbdioaa", sum := "54d6e0be6081ae0c7e65b9bf277545468fe8bc1bd0ebe491ec0ceeb03462850a", func := "splice/splicelaw23.DeltaOnto", spec := "deltaOnto", inPlace := ["internal/abi.NoEscape"], unfollowed := true, recurses := true, apart := false, narrowed := true }
def DeltaOntoUptoSaid : Prop := deltaOntoUptoRow.holds Try.pinned (OpenSpec.upto deltaOntoSpec)

/-- 'splicelaw23.DeltaThere', WHERE WHAT IT READS IS OF BULK AT MOST 1048576: true; the input reads as it did. -/
def deltaThereUptoRow : OpenClaim := { program := "ytoeipkjpgbdioaa", sum := "54d6e0be6081ae0c7e65b9bf277545468fe8bc1bd0ebe491ec0ceeb03462850a", func := "splice/splicelaw23.DeltaThere", spec := "deltaThere", inPlace := ["internal/abi.NoEscape"], unfollowed := true, recurses := true, apart := false, narrowed := true }
def DeltaThereUptoSaid : Prop := deltaThereUptoRow.holds Try.pinned (OpenSpec.upto deltaThereSpec)

end Rows
end Go.Proofs.Ytoeipkjpgbdioaa
