/-
  No cell of these rows narrows 'for every input' (looked for: loops, veiled, ifaces, maps, wideKeys, modest, calm, conditions, laid).
  DERIVED. THE GIVEN ROWS OF THIS SEAT. 11 by the template 'for every input the law returns true; each argument reads behind the call as it read before'; 0 by the template 'total and deterministic' (their statements: YtmhjmjodchbhlaaRTotals.lean).
  GIVEN WITH THE SEED: the statements are not yours to turn. If you find one false, say at which input.
  Laid BY PROGRAM, IN A SANDBOX (cutbox-rows.mjs): the forced cells as the released guide's own fill.sh prints them over the translation 889ebaacd8d70fc8… (all of the seat's roots in one cut). By AI agents, Wed Nov 11 2026. No macro, syntax, notation, axiom, sorry.
-/
import Derived.Test.YtmhjmjodchbhlaaRChecked
import GoSem.Claim
import GoSem.ClaimJoined
import GoSem.ClaimMapViews
import Derived.JoinedTies
import Derived.KernelRfl
namespace Go.Proofs.YtmhjmjodchbhlaaR
/- THE CELL 'sum', in the pinned program and in every row, IS THE sha256 OF THE DUMP (.gsa) THAT YtmhjmjodchbhlaaRProg.lean LOADS. Nothing in Lean hashes anything: it is a label: what it is worth is what the hold of that sum in a sandbox is worth. -/
noncomputable def Try.pinned : Pinned := { name := "ytmhjmjodchbhlaar", sum := "889ebaacd8d70fc80dfd0ede7bd236d51f6881371709554be94c17f38cafe780", checked := Try.checked }
namespace Rows
def none {H : Type} : Left H := { results := [], args := [] }

/-- 'spylaw3.SkyPulls': WHATEVER THE INPUT: true; the input reads as it did. -/
def skyPullsSpec : ChangeSpec := { name := "skyPulls", fn := fun _ => fun
  | [d] => { results := [.lit (.bool true)], args := [d] }
  | _ => none }
def skyPullsRow : OpenClaim := { program := "ytmhjmjodchbhlaar", sum := "889ebaacd8d70fc80dfd0ede7bd236d51f6881371709554be94c17f38cafe780", func := "spyglass/spylaw3.SkyPulls", spec := "skyPulls", inPlace := ["math/bits.Add64"], unfollowed := true, recurses := true, named := ["math/bits.divideError", "math/bits.overflowError"], plainKeys := false, apart := false }
def SkyPullsSaid : Prop := skyPullsRow.holds Try.pinned (OpenSpec.ofChange skyPullsSpec)

/-- ITS FALSE NEIGHBOUR: 'it returns false'. Refute it at one input. -/
def skyPullsWrong : ChangeSpec := { name := "skyPulls", fn := fun _ => fun
  | [d] => { results := [.lit (.bool false)], args := [d] }
  | _ => none }
def SkyPullsWrongFalsely : Prop := skyPullsRow.holds Try.pinned (OpenSpec.ofChange skyPullsWrong)

/-- 'spylaw3.SkySteps': WHATEVER THE INPUT: true; the input reads as it did. -/
def skyStepsSpec : ChangeSpec := { name := "skySteps", fn := fun _ => fun
  | [d1, d2] => { results := [.lit (.bool true)], args := [d1, d2] }
  | _ => none }
def skyStepsRow : OpenClaim := { program := "ytmhjmjodchbhlaar", sum := "889ebaacd8d70fc80dfd0ede7bd236d51f6881371709554be94c17f38cafe780", func := "spyglass/spylaw3.SkySteps", spec := "skySteps", inPlace := ["math/bits.Add64"], unfollowed := true, recurses := true, named := ["math/bits.divideError", "math/bits.overflowError"], plainKeys := false, apart := false }
def SkyStepsSaid : Prop := skyStepsRow.holds Try.pinned (OpenSpec.ofChange skyStepsSpec)

/-- ITS FALSE NEIGHBOUR: 'it returns false'. Refute it at one input. -/
def skyStepsWrong : ChangeSpec := { name := "skySteps", fn := fun _ => fun
  | [d1, d2] => { results := [.lit (.bool false)], args := [d1, d2] }
  | _ => none }
def SkyStepsWrongFalsely : Prop := skyStepsRow.holds Try.pinned (OpenSpec.ofChange skyStepsWrong)

/-- 'spylaw3.OpticsCentres': WHATEVER THE INPUT: true; the input reads as it did. -/
def opticsCentresSpec : ChangeSpec := { name := "opticsCentres", fn := fun _ => fun
  | [d] => { results := [.lit (.bool true)], args := [d] }
  | _ => none }
def opticsCentresRow : OpenClaim := { program := "ytmhjmjodchbhlaar", sum := "889ebaacd8d70fc80dfd0ede7bd236d51f6881371709554be94c17f38cafe780", func := "spyglass/spylaw3.OpticsCentres", spec := "opticsCentres", inPlace := ["math/bits.Add64"], unfollowed := true, recurses := true, named := ["math/bits.divideError", "math/bits.overflowError"], plainKeys := false, apart := false }
def OpticsCentresSaid : Prop := opticsCentresRow.holds Try.pinned (OpenSpec.ofChange opticsCentresSpec)

/-- ITS FALSE NEIGHBOUR: 'it returns false'. Refute it at one input. -/
def opticsCentresWrong : ChangeSpec := { name := "opticsCentres", fn := fun _ => fun
  | [d] => { results := [.lit (.bool false)], args := [d] }
  | _ => none }
def OpticsCentresWrongFalsely : Prop := opticsCentresRow.holds Try.pinned (OpenSpec.ofChange opticsCentresWrong)

/-- 'spylaw3.SkyPaths': WHATEVER THE INPUT: true; the input reads as it did. -/
def skyPathsSpec : ChangeSpec := { name := "skyPaths", fn := fun _ => fun
  | [d1, d2] => { results := [.lit (.bool true)], args := [d1, d2] }
  | _ => none }
def skyPathsRow : OpenClaim := { program := "ytmhjmjodchbhlaar", sum := "889ebaacd8d70fc80dfd0ede7bd236d51f6881371709554be94c17f38cafe780", func := "spyglass/spylaw3.SkyPaths", spec := "skyPaths", inPlace := ["math/bits.Add64"], unfollowed := true, recurses := true, named := ["math/bits.divideError", "math/bits.overflowError"], plainKeys := false, apart := false }
def SkyPathsSaid : Prop := skyPathsRow.holds Try.pinned (OpenSpec.ofChange skyPathsSpec)

/-- ITS FALSE NEIGHBOUR: 'it returns false'. Refute it at one input. -/
def skyPathsWrong : ChangeSpec := { name := "skyPaths", fn := fun _ => fun
  | [d1, d2] => { results := [.lit (.bool false)], args := [d1, d2] }
  | _ => none }
def SkyPathsWrongFalsely : Prop := skyPathsRow.holds Try.pinned (OpenSpec.ofChange skyPathsWrong)

/-- 'spylaw3.SkyRates': WHATEVER THE INPUT: true; the input reads as it did. -/
def skyRatesSpec : ChangeSpec := { name := "skyRates", fn := fun _ => fun
  | [d1, d2, d3] => { results := [.lit (.bool true)], args := [d1, d2, d3] }
  | _ => none }
def skyRatesRow : OpenClaim := { program := "ytmhjmjodchbhlaar", sum := "889ebaacd8d70fc80dfd0ede7bd236d51f6881371709554be94c17f38cafe780", func := "spyglass/spylaw3.SkyRates", spec := "skyRates", inPlace := ["math/bits.Add64"], unfollowed := true, recurses := true, named := ["math/bits.divideError", "math/bits.overflowError"], plainKeys := false, apart := false }
def SkyRatesSaid : Prop := skyRatesRow.holds Try.pinned (OpenSpec.ofChange skyRatesSpec)

/-- ITS FALSE NEIGHBOUR: 'it returns false'. Refute it at one input. -/
def skyRatesWrong : ChangeSpec := { name := "skyRates", fn := fun _ => fun
  | [d1, d2, d3] => { results := [.lit (.bool false)], args := [d1, d2, d3] }
  | _ => none }
def SkyRatesWrongFalsely : Prop := skyRatesRow.holds Try.pinned (OpenSpec.ofChange skyRatesWrong)

/-- 'spylaw3.SkyPlaces': WHATEVER THE INPUT: true; the input reads as it did. -/
def skyPlacesSpec : ChangeSpec := { name := "skyPlaces", fn := fun _ => fun
  | [d1, d2] => { results := [.lit (.bool true)], args := [d1, d2] }
  | _ => none }
def skyPlacesRow : OpenClaim := { program := "ytmhjmjodchbhlaar", sum := "889ebaacd8d70fc80dfd0ede7bd236d51f6881371709554be94c17f38cafe780", func := "spyglass/spylaw3.SkyPlaces", spec := "skyPlaces", inPlace := ["math/bits.Add64"], unfollowed := true, recurses := true, named := ["math/bits.divideError", "math/bits.overflowError"], plainKeys := false, apart := false }
def SkyPlacesSaid : Prop := skyPlacesRow.holds Try.pinned (OpenSpec.ofChange skyPlacesSpec)

/-- ITS FALSE NEIGHBOUR: 'it returns false'. Refute it at one input. -/
def skyPlacesWrong : ChangeSpec := { name := "skyPlaces", fn := fun _ => fun
  | [d1, d2] => { results := [.lit (.bool false)], args := [d1, d2] }
  | _ => none }
def SkyPlacesWrongFalsely : Prop := skyPlacesRow.holds Try.pinned (OpenSpec.ofChange skyPlacesWrong)

/-- 'spylaw3.SkyDirs': WHATEVER THE INPUT: true; the input reads as it did. -/
def skyDirsSpec : ChangeSpec := { name := "skyDirs", fn := fun _ => fun
  | [d1, d2, d3, d4, d5] => { results := [.lit (.bool true)], args := [d1, d2, d3, d4, d5] }
  | _ => none }
def skyDirsRow : OpenClaim := { program := "ytmhjmjodchbhlaar", sum := "889ebaacd8d70fc80dfd0ede7bd236d51f6881371709554be94c17f38cafe780", func := "spyglass/spylaw3.SkyDirs", spec := "skyDirs", inPlace := ["math/bits.Add64"], unfollowed := true, recurses := true, named := ["math/bits.divideError", "math/bits.overflowError"], plainKeys := false, apart := false }
def SkyDirsSaid : Prop := skyDirsRow.holds Try.pinned (OpenSpec.ofChange skyDirsSpec)

/-- ITS FALSE NEIGHBOUR: 'it returns false'. Refute it at one input. -/
def skyDirsWrong : ChangeSpec := { name := "skyDirs", fn := fun _ => fun
  | [d1, d2, d3, d4, d5] => { results := [.lit (.bool false)], args := [d1, d2, d3, d4, d5] }
  | _ => none }
def SkyDirsWrongFalsely : Prop := skyDirsRow.holds Try.pinned (OpenSpec.ofChange skyDirsWrong)

/-- 'spylaw3.OpticsAxes': WHATEVER THE INPUT: true; the input reads as it did. -/
def opticsAxesSpec : ChangeSpec := { name := "opticsAxes", fn := fun _ => fun
  | [d1, d2] => { results := [.lit (.bool true)], args := [d1, d2] }
  | _ => none }
def opticsAxesRow : OpenClaim := { program := "ytmhjmjodchbhlaar", sum := "889ebaacd8d70fc80dfd0ede7bd236d51f6881371709554be94c17f38cafe780", func := "spyglass/spylaw3.OpticsAxes", spec := "opticsAxes", inPlace := ["math/bits.Add64"], unfollowed := true, recurses := true, plainKeys := false, apart := false }
def OpticsAxesSaid : Prop := opticsAxesRow.holds Try.pinned (OpenSpec.ofChange opticsAxesSpec)

/-- ITS FALSE NEIGHBOUR: 'it returns false'. Refute it at one input. -/
def opticsAxesWrong : ChangeSpec := { name := "opticsAxes", fn := fun _ => fun
  | [d1, d2] => { results := [.lit (.bool false)], args := [d1, d2] }
  | _ => none }
def OpticsAxesWrongFalsely : Prop := opticsAxesRow.holds Try.pinned (OpenSpec.ofChange opticsAxesWrong)

/-- 'spylaw3.OpticsPoints': WHATEVER THE INPUT: true; the input reads as it did. -/
def opticsPointsSpec : ChangeSpec := { name := "opticsPoints", fn := fun _ => fun
  | [d1, d2, d3] => { results := [.lit (.bool true)], args := [d1, d2, d3] }
  | _ => none }
def opticsPointsRow : OpenClaim := { program := "ytmhjmjodchbhlaar", sum := "889ebaacd8d70fc80dfd0ede7bd236d51f6881371709554be94c17f38cafe780", func := "spyglass/spylaw3.OpticsPoints", spec := "opticsPoints", inPlace := ["math/bits.Add64"], unfollowed := true, recurses := true, plainKeys := false, apart := false }
def OpticsPointsSaid : Prop := opticsPointsRow.holds Try.pinned (OpenSpec.ofChange opticsPointsSpec)

/-- ITS FALSE NEIGHBOUR: 'it returns false'. Refute it at one input. -/
def opticsPointsWrong : ChangeSpec := { name := "opticsPoints", fn := fun _ => fun
  | [d1, d2, d3] => { results := [.lit (.bool false)], args := [d1, d2, d3] }
  | _ => none }
def OpticsPointsWrongFalsely : Prop := opticsPointsRow.holds Try.pinned (OpenSpec.ofChange opticsPointsWrong)

/-- 'spylaw3.SkyChecks': WHATEVER THE INPUT: true; the input reads as it did. -/
def skyChecksSpec : ChangeSpec := { name := "skyChecks", fn := fun _ => fun
  | [d] => { results := [.lit (.bool true)], args := [d] }
  | _ => none }
def skyChecksRow : OpenClaim := { program := "ytmhjmjodchbhlaar", sum := "889ebaacd8d70fc80dfd0ede7bd236d51f6881371709554be94c17f38cafe780", func := "spyglass/spylaw3.SkyChecks", spec := "skyChecks", inPlace := ["math/bits.Add64"], unfollowed := true, recurses := true, named := ["math/bits.divideError", "math/bits.overflowError"], plainKeys := false, apart := false }
def SkyChecksSaid : Prop := skyChecksRow.holds Try.pinned (OpenSpec.ofChange skyChecksSpec)

/-- ITS FALSE NEIGHBOUR: 'it returns false'. Refute it at one input. -/
def skyChecksWrong : ChangeSpec := { name := "skyChecks", fn := fun _ => fun
  | [d] => { results := [.lit (.bool false)], args := [d] }
  | _ => none }
def SkyChecksWrongFalsely : Prop := skyChecksRow.holds Try.pinned (OpenSpec.ofChange skyChecksWrong)

/-- 'spylaw3.OpticsTrails': WHATEVER THE INPUT: true; the input reads as it did. -/
def opticsTrailsSpec : ChangeSpec := { name := "opticsTrails", fn := fun _ => fun
  | [d1, d2, d3, d4, d5, d6] => { results := [.lit (.bool true)], args := [d1, d2, d3, d4, d5, d6] }
  | _ => none }
def opticsTrailsRow : OpenClaim := { program := "ytmhjmjodchbhlaar", sum := "889ebaacd8d70fc80dfd0ede7bd236d51f6881371709554be94c17f38cafe780", func := "spyglass/spylaw3.OpticsTrails", spec := "opticsTrails", inPlace := ["math/bits.Add64"], unfollowed := true, recurses := true, plainKeys := false, apart := false }
def OpticsTrailsSaid : Prop := opticsTrailsRow.holds Try.pinned (OpenSpec.ofChange opticsTrailsSpec)

/-- ITS FALSE NEIGHBOUR: 'it returns false'. Refute it at one input. -/
def opticsTrailsWrong : ChangeSpec := { name := "opticsTrails", fn := fun _ => fun
  | [d1, d2, d3, d4, d5, d6] => { results := [.lit (.bool false)], args := [d1, d2, d3, d4, d5, d6] }
  | _ => none }
def OpticsTrailsWrongFalsely : Prop := opticsTrailsRow.holds Try.pinned (OpenSpec.ofChange opticsTrailsWrong)

/- THE SECOND FORM. 'bulk': how many values and letters a reading holds, each counted each time it is reached (what is shared counts as often as it is met; a slice's spare places count too). A statement '..UptoSaid' is the law's where the arguments, and the package variables that the reading takes, are together of bulk at most 1048576: NARROWER than '..Said'. Prove '..Said' where nothing that the law and all that it calls make is longer than what came in: it says more and counts as full. Else prove '..UptoSaid'. A law counts once. -/
mutual
def uptoBulk {H : Type} : DataW H → Nat
  | .lit (.string bytes) => bytes.length + 1
  | .lit _ => 1
  | .nil => 1
  | .ptr d => uptoBulk d + 1
  | .slice elems spare => uptoBulkAll elems + uptoBulkAll spare + 1
  | .agg parts => uptoBulkAll parts + 1
  | .iface _ d => uptoBulk d + 1
  | .map entries => uptoBulkEntries entries + 1
  | .held _ => 1
def uptoBulkAll {H : Type} : List (DataW H) → Nat
  | [] => 0
  | d :: r => uptoBulk d + uptoBulkAll r
def uptoBulkEntries {H : Type} : List (Lit × DataW H) → Nat
  | [] => 0
  | x :: r => uptoBulkEntry x + uptoBulkEntries r
def uptoBulkEntry {H : Type} : Lit × DataW H → Nat
  | (.string bytes, d) => bytes.length + uptoBulk d + 1
  | (_, d) => uptoBulk d + 1
 end
def uptoSmall : (H : Type) → List (DataW H) → Bool := fun _ ds => decide (uptoBulkAll ds ≤ 1048576)
def OpenSpec.upto (s : _root_.Go.ChangeSpec) : _root_.Go.OpenSpec := { _root_.Go.OpenSpec.ofChange s with cond := some uptoSmall }

/-- 'spylaw3.SkyPulls', WHERE WHAT IT READS IS OF BULK AT MOST 1048576: true; the input reads as it did. -/
def skyPullsUptoRow : OpenClaim := { program := "ytmhjmjodchbhlaar", sum := "889ebaacd8d70fc80dfd0ede7bd236d51f6881371709554be94c17f38cafe780", func := "spyglass/spylaw3.SkyPulls", spec := "skyPulls", inPlace := ["math/bits.Add64"], unfollowed := true, recurses := true, named := ["math/bits.divideError", "math/bits.overflowError"], plainKeys := false, apart := false, narrowed := true }
def SkyPullsUptoSaid : Prop := skyPullsUptoRow.holds Try.pinned (OpenSpec.upto skyPullsSpec)

/-- 'spylaw3.SkySteps', WHERE WHAT IT READS IS OF BULK AT MOST 1048576: true; the input reads as it did. -/
def skyStepsUptoRow : OpenClaim := { program := "ytmhjmjodchbhlaar", sum := "889ebaacd8d70fc80dfd0ede7bd236d51f6881371709554be94c17f38cafe780", func := "spyglass/spylaw3.SkySteps", spec := "skySteps", inPlace := ["math/bits.Add64"], unfollowed := true, recurses := true, named := ["math/bits.divideError", "math/bits.overflowError"], plainKeys := false, apart := false, narrowed := true }
def SkyStepsUptoSaid : Prop := skyStepsUptoRow.holds Try.pinned (OpenSpec.upto skyStepsSpec)

/-- 'spylaw3.OpticsCentres', WHERE WHAT IT READS IS OF BULK AT MOST 1048576: true; the input reads as it did. -/
def opticsCentresUptoRow : OpenClaim := { program := "ytmhjmjodchbhlaar", sum := "889ebaacd8d70fc80dfd0ede7bd236d51f6881371709554be94c17f38cafe780", func := "spyglass/spylaw3.OpticsCentres", spec := "opticsCentres", inPlace := ["math/bits.Add64"], unfollowed := true, recurses := true, named := ["math/bits.divideError", "math/bits.overflowError"], plainKeys := false, apart := false, narrowed := true }
def OpticsCentresUptoSaid : Prop := opticsCentresUptoRow.holds Try.pinned (OpenSpec.upto opticsCentresSpec)

/-- 'spylaw3.SkyPaths', WHERE WHAT IT READS IS OF BULK AT MOST 1048576: true; the input reads as it did. -/
def skyPathsUptoRow : OpenClaim := { program := "ytmhjmjodchbhlaar", sum := "889ebaacd8d70fc80dfd0ede7bd236d51f6881371709554be94c17f38cafe780", func := "spyglass/spylaw3.SkyPaths", spec := "skyPaths", inPlace := ["math/bits.Add64"], unfollowed := true, recurses := true, named := ["math/bits.divideError", "math/bits.overflowError"], plainKeys := false, apart := false, narrowed := true }
def SkyPathsUptoSaid : Prop := skyPathsUptoRow.holds Try.pinned (OpenSpec.upto skyPathsSpec)

/-- 'spylaw3.SkyRates', WHERE WHAT IT READS IS OF BULK AT MOST 1048576: true; the input reads as it did. -/
def skyRatesUptoRow : OpenClaim := { program := "ytmhjmjodchbhlaar", sum := "889ebaacd8d70fc80dfd0ede7bd236d51f6881371709554be94c17f38cafe780", func := "spyglass/spylaw3.SkyRates", spec := "skyRates", inPlace := ["math/bits.Add64"], unfollowed := true, recurses := true, named := ["math/bits.divideError", "math/bits.overflowError"], plainKeys := false, apart := false, narrowed := true }
def SkyRatesUptoSaid : Prop := skyRatesUptoRow.holds Try.pinned (OpenSpec.upto skyRatesSpec)

/-- 'spylaw3.SkyPlaces', WHERE WHAT IT READS IS OF BULK AT MOST 1048576: true; the input reads as it did. -/
def skyPlacesUptoRow : OpenClaim := { program := "ytmhjmjodchbhlaar", sum := "889ebaacd8d70fc80dfd0ede7bd236d51f6881371709554be94c17f38cafe780", func := "spyglass/spylaw3.SkyPlaces", spec := "skyPlaces", inPlace := ["math/bits.Add64"], unfollowed := true, recurses := true, named := ["math/bits.divideError", "math/bits.overflowError"], plainKeys := false, apart := false, narrowed := true }
def SkyPlacesUptoSaid : Prop := skyPlacesUptoRow.holds Try.pinned (OpenSpec.upto skyPlacesSpec)

/-- 'spylaw3.SkyDirs', WHERE WHAT IT READS IS OF BULK AT MOST 1048576: true; the input reads as it did. -/
def skyDirsUptoRow : OpenClaim := { program := "ytmhjmjodchbhlaar", sum := "889ebaacd8d70fc80dfd0ede7bd236d51f6881371709554be94c17f38cafe780", func := "spyglass/spylaw3.SkyDirs", spec := "skyDirs", inPlace := ["math/bits.Add64"], unfollowed := true, recurses := true, named := ["math/bits.divideError", "math/bits.overflowError"], plainKeys := false, apart := false, narrowed := true }
def SkyDirsUptoSaid : Prop := skyDirsUptoRow.holds Try.pinned (OpenSpec.upto skyDirsSpec)

/-- 'spylaw3.OpticsAxes', WHERE WHAT IT READS IS OF BULK AT MOST 1048576: true; the input reads as it did. -/
def opticsAxesUptoRow : OpenClaim := { program := "ytmhjmjodchbhlaar", sum := "889ebaacd8d70fc80dfd0ede7bd236d51f6881371709554be94c17f38cafe780", func := "spyglass/spylaw3.OpticsAxes", spec := "opticsAxes", inPlace := ["math/bits.Add64"], unfollowed := true, recurses := true, plainKeys := false, apart := false, narrowed := true }
def OpticsAxesUptoSaid : Prop := opticsAxesUptoRow.holds Try.pinned (OpenSpec.upto opticsAxesSpec)

/-- 'spylaw3.OpticsPoints', WHERE WHAT IT READS IS OF BULK AT MOST 1048576: true; the input reads as it did. -/
def opticsPointsUptoRow : OpenClaim := { program := "ytmhjmjodchbhlaar", sum := "889ebaacd8d70fc80dfd0ede7bd236d51f6881371709554be94c17f38cafe780", func := "spyglass/spylaw3.OpticsPoints", spec := "opticsPoints", inPlace := ["math/bits.Add64"], unfollowed := true, recurses := true, plainKeys := false, apart := false, narrowed := true }
def OpticsPointsUptoSaid : Prop := opticsPointsUptoRow.holds Try.pinned (OpenSpec.upto opticsPointsSpec)

/-- 'spylaw3.SkyChecks', WHERE WHAT IT READS IS OF BULK AT MOST 1048576: true; the input reads as it did. -/
def skyChecksUptoRow : OpenClaim := { program := "ytmhjmjodchbhlaar", sum := "889ebaacd8d70fc80dfd0ede7bd236d51f6881371709554be94c17f38cafe780", func := "spyglass/spylaw3.SkyChecks", spec := "skyChecks", inPlace := ["math/bits.Add64"], unfollowed := true, recurses := true, named := ["math/bits.divideError", "math/bits.overflowError"], plainKeys := false, apart := false, narrowed := true }
def SkyChecksUptoSaid : Prop := skyChecksUptoRow.holds Try.pinned (OpenSpec.upto skyChecksSpec)

/-- 'spylaw3.OpticsTrails', WHERE WHAT IT READS IS OF BULK AT MOST 1048576: true; the input reads as it did. -/
def opticsTrailsUptoRow : OpenClaim := { program := "ytmhjmjodchbhlaar", sum := "889ebaacd8d70fc80dfd0ede7bd236d51f6881371709554be94c17f38cafe780", func := "spyglass/spylaw3.OpticsTrails", spec := "opticsTrails", inPlace := ["math/bits.Add64"], unfollowed := true, recurses := true, plainKeys := false, apart := false, narrowed := true }
def OpticsTrailsUptoSaid : Prop := opticsTrailsUptoRow.holds Try.pinned (OpenSpec.upto opticsTrailsSpec)

end Rows
end Go.Proofs.YtmhjmjodchbhlaaR
