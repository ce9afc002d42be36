/-
  No cell of these rows narrows 'for every input' (looked for: loops, veiled, ifaces, maps, wideKeys, modest, calm, conditions, laid).
  DERIVED. THE GIVEN ROWS OF THIS SEAT. 11 by the template 'for every input the law returns true; each argument reads behind the call as it read before'; 0 by the template 'total and deterministic' (their statements: YtnojehmbiceceaaTotals.lean).
  GIVEN WITH THE SEED: the statements are not yours to turn. If you find one false, say at which input.
  Laid BY PROGRAM, IN A SANDBOX (cutbox-rows.mjs): the forced cells as the released guide's own fill.sh prints them over the translation 710b5c91afc65d88… (all of the seat's roots in one cut). By AI agents, Wed Nov 11 2026. No macro, syntax, notation, axiom, sorry.
-/
import Derived.Test.YtnojehmbiceceaaChecked
import GoSem.Claim
import GoSem.ClaimJoined
import GoSem.ClaimMapViews
import Derived.JoinedTies
import Derived.KernelRfl
namespace Go.Proofs.Ytnojehmbiceceaa
/- THE CELL 'sum', in the pinned program and in every row, IS THE sha256 OF THE DUMP (.gsa) THAT YtnojehmbiceceaaProg.lean LOADS. Nothing in Lean hashes anything: it is a label: what it is worth is what the hold of that sum in a sandbox is worth. -/
noncomputable def Try.pinned : Pinned := { name := "ytnojehmbiceceaa", sum := "710b5c91afc65d886fa115bd3f09f9fcec592bef3c0f0dfba79eb45e49cf6a95", checked := Try.checked }
namespace Rows
def none {H : Type} : Left H := { results := [], args := [] }

/-- 'spylaw3.SensorExpects': WHATEVER THE INPUT: true; the input reads as it did. -/
def sensorExpectsSpec : ChangeSpec := { name := "sensorExpects", fn := fun _ => fun
  | [d1, d2, d3] => { results := [.lit (.bool true)], args := [d1, d2, d3] }
  | _ => none }
def sensorExpectsRow : OpenClaim := { program := "ytnojehmbiceceaa", sum := "710b5c91afc65d886fa115bd3f09f9fcec592bef3c0f0dfba79eb45e49cf6a95", func := "spyglass/spylaw3.SensorExpects", spec := "sensorExpects", inPlace := ["math/bits.Add64"], unfollowed := true, recurses := true, named := ["math/bits.divideError", "math/bits.overflowError"], apart := false }
def SensorExpectsSaid : Prop := sensorExpectsRow.holds Try.pinned (OpenSpec.ofChange sensorExpectsSpec)

/-- ITS FALSE NEIGHBOUR: 'it returns false'. Refute it at one input. -/
def sensorExpectsWrong : ChangeSpec := { name := "sensorExpects", fn := fun _ => fun
  | [d1, d2, d3] => { results := [.lit (.bool false)], args := [d1, d2, d3] }
  | _ => none }
def SensorExpectsWrongFalsely : Prop := sensorExpectsRow.holds Try.pinned (OpenSpec.ofChange sensorExpectsWrong)

/-- 'spylaw3.CalibLights': WHATEVER THE INPUT: true; the input reads as it did. -/
def calibLightsSpec : ChangeSpec := { name := "calibLights", fn := fun _ => fun
  | [d1, d2, d3, d4] => { results := [.lit (.bool true)], args := [d1, d2, d3, d4] }
  | _ => none }
def calibLightsRow : OpenClaim := { program := "ytnojehmbiceceaa", sum := "710b5c91afc65d886fa115bd3f09f9fcec592bef3c0f0dfba79eb45e49cf6a95", func := "spyglass/spylaw3.CalibLights", spec := "calibLights", inPlace := ["math/bits.Add64"], unfollowed := true, recurses := true, named := ["math/bits.divideError", "math/bits.overflowError"], apart := false }
def CalibLightsSaid : Prop := calibLightsRow.holds Try.pinned (OpenSpec.ofChange calibLightsSpec)

/-- ITS FALSE NEIGHBOUR: 'it returns false'. Refute it at one input. -/
def calibLightsWrong : ChangeSpec := { name := "calibLights", fn := fun _ => fun
  | [d1, d2, d3, d4] => { results := [.lit (.bool false)], args := [d1, d2, d3, d4] }
  | _ => none }
def CalibLightsWrongFalsely : Prop := calibLightsRow.holds Try.pinned (OpenSpec.ofChange calibLightsWrong)

/-- 'spylaw3.LevelFinds': WHATEVER THE INPUT: true; the input reads as it did. -/
def levelFindsSpec : ChangeSpec := { name := "levelFinds", fn := fun _ => fun
  | [d1, d2] => { results := [.lit (.bool true)], args := [d1, d2] }
  | _ => none }
def levelFindsRow : OpenClaim := { program := "ytnojehmbiceceaa", sum := "710b5c91afc65d886fa115bd3f09f9fcec592bef3c0f0dfba79eb45e49cf6a95", func := "spyglass/spylaw3.LevelFinds", spec := "levelFinds", unfollowed := true, recurses := true, apart := false }
def LevelFindsSaid : Prop := levelFindsRow.holds Try.pinned (OpenSpec.ofChange levelFindsSpec)

/-- ITS FALSE NEIGHBOUR: 'it returns false'. Refute it at one input. -/
def levelFindsWrong : ChangeSpec := { name := "levelFinds", fn := fun _ => fun
  | [d1, d2] => { results := [.lit (.bool false)], args := [d1, d2] }
  | _ => none }
def LevelFindsWrongFalsely : Prop := levelFindsRow.holds Try.pinned (OpenSpec.ofChange levelFindsWrong)

/-- 'spylaw3.LevelMaps': WHATEVER THE INPUT: true; the input reads as it did. -/
def levelMapsSpec : ChangeSpec := { name := "levelMaps", fn := fun _ => fun
  | [d1, d2, d3] => { results := [.lit (.bool true)], args := [d1, d2, d3] }
  | _ => none }
def levelMapsRow : OpenClaim := { program := "ytnojehmbiceceaa", sum := "710b5c91afc65d886fa115bd3f09f9fcec592bef3c0f0dfba79eb45e49cf6a95", func := "spyglass/spylaw3.LevelMaps", spec := "levelMaps", unfollowed := true, recurses := true, apart := false }
def LevelMapsSaid : Prop := levelMapsRow.holds Try.pinned (OpenSpec.ofChange levelMapsSpec)

/-- ITS FALSE NEIGHBOUR: 'it returns false'. Refute it at one input. -/
def levelMapsWrong : ChangeSpec := { name := "levelMaps", fn := fun _ => fun
  | [d1, d2, d3] => { results := [.lit (.bool false)], args := [d1, d2, d3] }
  | _ => none }
def LevelMapsWrongFalsely : Prop := levelMapsRow.holds Try.pinned (OpenSpec.ofChange levelMapsWrong)

/-- 'spylaw3.LevelSubtracts': WHATEVER THE INPUT: true; the input reads as it did. -/
def levelSubtractsSpec : ChangeSpec := { name := "levelSubtracts", fn := fun _ => fun
  | [d1, d2] => { results := [.lit (.bool true)], args := [d1, d2] }
  | _ => none }
def levelSubtractsRow : OpenClaim := { program := "ytnojehmbiceceaa", sum := "710b5c91afc65d886fa115bd3f09f9fcec592bef3c0f0dfba79eb45e49cf6a95", func := "spyglass/spylaw3.LevelSubtracts", spec := "levelSubtracts", unfollowed := true, recurses := true, apart := false }
def LevelSubtractsSaid : Prop := levelSubtractsRow.holds Try.pinned (OpenSpec.ofChange levelSubtractsSpec)

/-- ITS FALSE NEIGHBOUR: 'it returns false'. Refute it at one input. -/
def levelSubtractsWrong : ChangeSpec := { name := "levelSubtracts", fn := fun _ => fun
  | [d1, d2] => { results := [.lit (.bool false)], args := [d1, d2] }
  | _ => none }
def LevelSubtractsWrongFalsely : Prop := levelSubtractsRow.holds Try.pinned (OpenSpec.ofChange levelSubtractsWrong)

/-- 'spylaw3.QueryNears': WHATEVER THE INPUT: true; the input reads as it did. -/
def queryNearsSpec : ChangeSpec := { name := "queryNears", fn := fun _ => fun
  | [d1, d2, d3] => { results := [.lit (.bool true)], args := [d1, d2, d3] }
  | _ => none }
def queryNearsRow : OpenClaim := { program := "ytnojehmbiceceaa", sum := "710b5c91afc65d886fa115bd3f09f9fcec592bef3c0f0dfba79eb45e49cf6a95", func := "spyglass/spylaw3.QueryNears", spec := "queryNears", inPlace := ["math/bits.Add64"], unfollowed := true, recurses := true, apart := false }
def QueryNearsSaid : Prop := queryNearsRow.holds Try.pinned (OpenSpec.ofChange queryNearsSpec)

/-- ITS FALSE NEIGHBOUR: 'it returns false'. Refute it at one input. -/
def queryNearsWrong : ChangeSpec := { name := "queryNears", fn := fun _ => fun
  | [d1, d2, d3] => { results := [.lit (.bool false)], args := [d1, d2, d3] }
  | _ => none }
def QueryNearsWrongFalsely : Prop := queryNearsRow.holds Try.pinned (OpenSpec.ofChange queryNearsWrong)

/-- 'spylaw3.QueryScans': WHATEVER THE INPUT: true; the input reads as it did. -/
def queryScansSpec : ChangeSpec := { name := "queryScans", fn := fun _ => fun
  | [d1, d2] => { results := [.lit (.bool true)], args := [d1, d2] }
  | _ => none }
def queryScansRow : OpenClaim := { program := "ytnojehmbiceceaa", sum := "710b5c91afc65d886fa115bd3f09f9fcec592bef3c0f0dfba79eb45e49cf6a95", func := "spyglass/spylaw3.QueryScans", spec := "queryScans", inPlace := ["math/bits.Add64"], unfollowed := true, recurses := true, apart := false }
def QueryScansSaid : Prop := queryScansRow.holds Try.pinned (OpenSpec.ofChange queryScansSpec)

/-- ITS FALSE NEIGHBOUR: 'it returns false'. Refute it at one input. -/
def queryScansWrong : ChangeSpec := { name := "queryScans", fn := fun _ => fun
  | [d1, d2] => { results := [.lit (.bool false)], args := [d1, d2] }
  | _ => none }
def QueryScansWrongFalsely : Prop := queryScansRow.holds Try.pinned (OpenSpec.ofChange queryScansWrong)

/-- 'spylaw3.CatalogRows': WHATEVER THE INPUT: true; the input reads as it did. -/
def catalogRowsSpec : ChangeSpec := { name := "catalogRows", fn := fun _ => fun
  | [d] => { results := [.lit (.bool true)], args := [d] }
  | _ => none }
def catalogRowsRow : OpenClaim := { program := "ytnojehmbiceceaa", sum := "710b5c91afc65d886fa115bd3f09f9fcec592bef3c0f0dfba79eb45e49cf6a95", func := "spyglass/spylaw3.CatalogRows", spec := "catalogRows", unfollowed := true, recurses := true, apart := false }
def CatalogRowsSaid : Prop := catalogRowsRow.holds Try.pinned (OpenSpec.ofChange catalogRowsSpec)

/-- ITS FALSE NEIGHBOUR: 'it returns false'. Refute it at one input. -/
def catalogRowsWrong : ChangeSpec := { name := "catalogRows", fn := fun _ => fun
  | [d] => { results := [.lit (.bool false)], args := [d] }
  | _ => none }
def CatalogRowsWrongFalsely : Prop := catalogRowsRow.holds Try.pinned (OpenSpec.ofChange catalogRowsWrong)

/-- 'spylaw3.CatalogDiffs': WHATEVER THE INPUT: true; the input reads as it did. -/
def catalogDiffsSpec : ChangeSpec := { name := "catalogDiffs", fn := fun _ => fun
  | [d1, d2] => { results := [.lit (.bool true)], args := [d1, d2] }
  | _ => none }
def catalogDiffsRow : OpenClaim := { program := "ytnojehmbiceceaa", sum := "710b5c91afc65d886fa115bd3f09f9fcec592bef3c0f0dfba79eb45e49cf6a95", func := "spyglass/spylaw3.CatalogDiffs", spec := "catalogDiffs", unfollowed := true, recurses := true, apart := false }
def CatalogDiffsSaid : Prop := catalogDiffsRow.holds Try.pinned (OpenSpec.ofChange catalogDiffsSpec)

/-- ITS FALSE NEIGHBOUR: 'it returns false'. Refute it at one input. -/
def catalogDiffsWrong : ChangeSpec := { name := "catalogDiffs", fn := fun _ => fun
  | [d1, d2] => { results := [.lit (.bool false)], args := [d1, d2] }
  | _ => none }
def CatalogDiffsWrongFalsely : Prop := catalogDiffsRow.holds Try.pinned (OpenSpec.ofChange catalogDiffsWrong)

/-- 'spylaw3.CatalogCommits': WHATEVER THE INPUT: true; the input reads as it did. -/
def catalogCommitsSpec : ChangeSpec := { name := "catalogCommits", fn := fun _ => fun
  | [d1, d2] => { results := [.lit (.bool true)], args := [d1, d2] }
  | _ => none }
def catalogCommitsRow : OpenClaim := { program := "ytnojehmbiceceaa", sum := "710b5c91afc65d886fa115bd3f09f9fcec592bef3c0f0dfba79eb45e49cf6a95", func := "spyglass/spylaw3.CatalogCommits", spec := "catalogCommits", unfollowed := true, recurses := true, apart := false }
def CatalogCommitsSaid : Prop := catalogCommitsRow.holds Try.pinned (OpenSpec.ofChange catalogCommitsSpec)

/-- ITS FALSE NEIGHBOUR: 'it returns false'. Refute it at one input. -/
def catalogCommitsWrong : ChangeSpec := { name := "catalogCommits", fn := fun _ => fun
  | [d1, d2] => { results := [.lit (.bool false)], args := [d1, d2] }
  | _ => none }
def CatalogCommitsWrongFalsely : Prop := catalogCommitsRow.holds Try.pinned (OpenSpec.ofChange catalogCommitsWrong)

/-- 'spylaw3.CatalogVersions': WHATEVER THE INPUT: true; the input reads as it did. -/
def catalogVersionsSpec : ChangeSpec := { name := "catalogVersions", fn := fun _ => fun
  | [d1, d2, d3] => { results := [.lit (.bool true)], args := [d1, d2, d3] }
  | _ => none }
def catalogVersionsRow : OpenClaim := { program := "ytnojehmbiceceaa", sum := "710b5c91afc65d886fa115bd3f09f9fcec592bef3c0f0dfba79eb45e49cf6a95", func := "spyglass/spylaw3.CatalogVersions", spec := "catalogVersions", unfollowed := true, recurses := true, apart := false }
def CatalogVersionsSaid : Prop := catalogVersionsRow.holds Try.pinned (OpenSpec.ofChange catalogVersionsSpec)

/-- ITS FALSE NEIGHBOUR: 'it returns false'. Refute it at one input. -/
def catalogVersionsWrong : ChangeSpec := { name := "catalogVersions", fn := fun _ => fun
  | [d1, d2, d3] => { results := [.lit (.bool false)], args := [d1, d2, d3] }
  | _ => none }
def CatalogVersionsWrongFalsely : Prop := catalogVersionsRow.holds Try.pinned (OpenSpec.ofChange catalogVersionsWrong)

/- THE SECOND FORM. 'bulk': how many values and letters a reading holds, each counted each time it is reached (what is shared counts as often as it is met; a slice's spare places count too). A statement '..UptoSaid' is the law's where the arguments, and the package variables that the reading takes, are together of bulk at most 1048576: NARROWER than '..Said'. Prove '..Said' where nothing that the law and all that it calls make is longer than what came in: it says more and counts as full. Else prove '..UptoSaid'. A law counts once. -/
mutual
def uptoBulk {H : Type} : DataW H → Nat
  | .lit (.string bytes) => bytes.length + 1
  | .lit _ => 1
  | .nil => 1
  | .ptr d => uptoBulk d + 1
  | .slice elems spare => uptoBulkAll elems + uptoBulkAll spare + 1
  | .agg parts => uptoBulkAll parts + 1
  | .iface _ d => uptoBulk d + 1
  | .map entries => uptoBulkEntries entries + 1
  | .held _ => 1
def uptoBulkAll {H : Type} : List (DataW H) → Nat
  | [] => 0
  | d :: r => uptoBulk d + uptoBulkAll r
def uptoBulkEntries {H : Type} : List (Lit × DataW H) → Nat
  | [] => 0
  | x :: r => uptoBulkEntry x + uptoBulkEntries r
def uptoBulkEntry {H : Type} : Lit × DataW H → Nat
  | (.string bytes, d) => bytes.length + uptoBulk d + 1
  | (_, d) => uptoBulk d + 1
 end
def uptoSmall : (H : Type) → List (DataW H) → Bool := fun _ ds => decide (uptoBulkAll ds ≤ 1048576)
def OpenSpec.upto (s : _root_.Go.ChangeSpec) : _root_.Go.OpenSpec := { _root_.Go.OpenSpec.ofChange s with cond := some uptoSmall }

/-- 'spylaw3.SensorExpects', WHERE WHAT IT READS IS OF BULK AT MOST 1048576: true; the input reads as it did. -/
def sensorExpectsUptoRow : OpenClaim := { program := "ytnojehmbiceceaa", sum := "710b5c91afc65d886fa115bd3f09f9fcec592bef3c0f0dfba79eb45e49cf6a95", func := "spyglass/spylaw3.SensorExpects", spec := "sensorExpects", inPlace := ["math/bits.Add64"], unfollowed := true, recurses := true, named := ["math/bits.divideError", "math/bits.overflowError"], apart := false, narrowed := true }
def SensorExpectsUptoSaid : Prop := sensorExpectsUptoRow.holds Try.pinned (OpenSpec.upto sensorExpectsSpec)

/-- 'spylaw3.CalibLights', WHERE WHAT IT READS IS OF BULK AT MOST 1048576: true; the input reads as it did. -/
def calibLightsUptoRow : OpenClaim := { program := "ytnojehmbiceceaa", sum := "710b5c91afc65d886fa115bd3f09f9fcec592bef3c0f0dfba79eb45e49cf6a95", func := "spyglass/spylaw3.CalibLights", spec := "calibLights", inPlace := ["math/bits.Add64"], unfollowed := true, recurses := true, named := ["math/bits.divideError", "math/bits.overflowError"], apart := false, narrowed := true }
def CalibLightsUptoSaid : Prop := calibLightsUptoRow.holds Try.pinned (OpenSpec.upto calibLightsSpec)

/-- 'spylaw3.LevelFinds', WHERE WHAT IT READS IS OF BULK AT MOST 1048576: true; the input reads as it did. -/
def levelFindsUptoRow : OpenClaim := { program := "ytnojehmbiceceaa", sum := "710b5c91afc65d886fa115bd3f09f9fcec592bef3c0f0dfba79eb45e49cf6a95", func := "spyglass/spylaw3.LevelFinds", spec := "levelFinds", unfollowed := true, recurses := true, apart := false, narrowed := true }
def LevelFindsUptoSaid : Prop := levelFindsUptoRow.holds Try.pinned (OpenSpec.upto levelFindsSpec)

/-- 'spylaw3.LevelMaps', WHERE WHAT IT READS IS OF BULK AT MOST 1048576: true; the input reads as it did. -/
def levelMapsUptoRow : OpenClaim := { program := "ytnojehmbiceceaa", sum := "710b5c91afc65d886fa115bd3f09f9fcec592bef3c0f0dfba79eb45e49cf6a95", func := "spyglass/spylaw3.LevelMaps", spec := "levelMaps", unfollowed := true, recurses := true, apart := false, narrowed := true }
def LevelMapsUptoSaid : Prop := levelMapsUptoRow.holds Try.pinned (OpenSpec.upto levelMapsSpec)

/-- 'spylaw3.LevelSubtracts', WHERE WHAT IT READS IS OF BULK AT MOST 1048576: true; the input reads as it did. -/
def levelSubtractsUptoRow : OpenClaim := { program := "ytnojehmbiceceaa", sum := "710b5c91afc65d886fa115bd3f09f9fcec592bef3c0f0dfba79eb45e49cf6a95", func := "spyglass/spylaw3.LevelSubtracts", spec := "levelSubtracts", unfollowed := true, recurses := true, apart := false, narrowed := true }
def LevelSubtractsUptoSaid : Prop := levelSubtractsUptoRow.holds Try.pinned (OpenSpec.upto levelSubtractsSpec)

/-- 'spylaw3.QueryNears', WHERE WHAT IT READS IS OF BULK AT MOST 1048576: true; the input reads as it did. -/
def queryNearsUptoRow : OpenClaim := { program := "ytnojehmbiceceaa", sum := "710b5c91afc65d886fa115bd3f09f9fcec592bef3c0f0dfba79eb45e49cf6a95", func := "spyglass/spylaw3.QueryNears", spec := "queryNears", inPlace := ["math/bits.Add64"], unfollowed := true, recurses := true, apart := false, narrowed := true }
def QueryNearsUptoSaid : Prop := queryNearsUptoRow.holds Try.pinned (OpenSpec.upto queryNearsSpec)

/-- 'spylaw3.QueryScans', WHERE WHAT IT READS IS OF BULK AT MOST 1048576: true; the input reads as it did. -/
def queryScansUptoRow : OpenClaim := { program := "ytnojehmbiceceaa", sum := "710b5c91afc65d886fa115bd3f09f9fcec592bef3c0f0dfba79eb45e49cf6a95", func := "spyglass/spylaw3.QueryScans", spec := "queryScans", inPlace := ["math/bits.Add64"], unfollowed := true, recurses := true, apart := false, narrowed := true }
def QueryScansUptoSaid : Prop := queryScansUptoRow.holds Try.pinned (OpenSpec.upto queryScansSpec)

/-- 'spylaw3.CatalogRows', WHERE WHAT IT READS IS OF BULK AT MOST 1048576: true; the input reads as it did. -/
def catalogRowsUptoRow : OpenClaim := { program := "ytnojehmbiceceaa", sum := "710b5c91afc65d886fa115bd3f09f9fcec592bef3c0f0dfba79eb45e49cf6a95", func := "spyglass/spylaw3.CatalogRows", spec := "catalogRows", unfollowed := true, recurses := true, apart := false, narrowed := true }
def CatalogRowsUptoSaid : Prop := catalogRowsUptoRow.holds Try.pinned (OpenSpec.upto catalogRowsSpec)

/-- 'spylaw3.CatalogDiffs', WHERE WHAT IT READS IS OF BULK AT MOST 1048576: true; the input reads as it did. -/
def catalogDiffsUptoRow : OpenClaim := { program := "ytnojehmbiceceaa", sum := "710b5c91afc65d886fa115bd3f09f9fcec592bef3c0f0dfba79eb45e49cf6a95", func := "spyglass/spylaw3.CatalogDiffs", spec := "catalogDiffs", unfollowed := true, recurses := true, apart := false, narrowed := true }
def CatalogDiffsUptoSaid : Prop := catalogDiffsUptoRow.holds Try.pinned (OpenSpec.upto catalogDiffsSpec)

/-- 'spylaw3.CatalogCommits', WHERE WHAT IT READS IS OF BULK AT MOST 1048576: true; the input reads as it did. -/
def catalogCommitsUptoRow : OpenClaim := { program := "ytnojehmbiceceaa", sum := "710b5c91afc65d886fa115bd3f09f9fcec592bef3c0f0dfba79eb45e49cf6a95", func := "spyglass/spylaw3.CatalogCommits", spec := "catalogCommits", unfollowed := true, recurses := true, apart := false, narrowed := true }
def CatalogCommitsUptoSaid : Prop := catalogCommitsUptoRow.holds Try.pinned (OpenSpec.upto catalogCommitsSpec)

/-- 'spylaw3.CatalogVersions', WHERE WHAT IT READS IS OF BULK AT MOST 1048576: true; the input reads as it did. -/
def catalogVersionsUptoRow : OpenClaim := { program := "ytnojehmbiceceaa", sum := "710b5c91afc65d886fa115bd3f09f9fcec592bef3c0f0dfba79eb45e49cf6a95", func := "spyglass/spylaw3.CatalogVersions", spec := "catalogVersions", unfollowed := true, recurses := true, apart := false, narrowed := true }
def CatalogVersionsUptoSaid : Prop := catalogVersionsUptoRow.holds Try.pinned (OpenSpec.upto catalogVersionsSpec)

end Rows
end Go.Proofs.Ytnojehmbiceceaa
