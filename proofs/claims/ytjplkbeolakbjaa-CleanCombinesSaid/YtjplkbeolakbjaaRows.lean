/-
  No cell of these rows narrows 'for every input' (looked for: loops, veiled, ifaces, maps, wideKeys, modest, calm, conditions, laid).
  DERIVED. THE GIVEN ROWS OF THIS SEAT. 12 by the template 'for every input the law returns true; each argument reads behind the call as it read before'; 0 by the template 'total and deterministic' (their statements: YtjplkbeolakbjaaTotals.lean).
  GIVEN WITH THE SEED: the statements are not yours to turn. If you find one false, say at which input.
  Laid BY PROGRAM, IN A SANDBOX (cutbox-rows.mjs): the forced cells as the released guide's own fill.sh prints them over the translation f9b0609b02d2916c… (all of the seat's roots in one cut). By AI agents, Wed Nov 11 2026. No macro, syntax, notation, axiom, sorry.
-/
import Derived.Test.YtjplkbeolakbjaaChecked
import GoSem.Claim
import GoSem.ClaimJoined
import GoSem.ClaimMapViews
import Derived.JoinedTies
import Derived.KernelRfl
namespace Go.Proofs.Ytjplkbeolakbjaa
/- THE CELL 'sum', in the pinned program and in every row, IS THE sha256 OF THE DUMP (.gsa) THAT YtjplkbeolakbjaaProg.lean LOADS. Nothing in Lean hashes anything: it is a label: what it is worth is what the hold of that sum in a sandbox is worth. -/
noncomputable def Try.pinned : Pinned := { name := "ytjplkbeolakbjaa", sum := "f9b0609b02d2916c75a3361d7f71035b2fcaa980692420e86389434976f4f78a", checked := Try.checked }
namespace Rows
def none {H : Type} : Left H := { results := [], args := [] }

/-- 'spylaw3.QuantaMixes': WHATEVER THE INPUT: true; the input reads as it did. -/
def quantaMixesSpec : ChangeSpec := { name := "quantaMixes", fn := fun _ => fun
  | [d1, d2, d3] => { results := [.lit (.bool true)], args := [d1, d2, d3] }
  | _ => none }
def quantaMixesRow : OpenClaim := { program := "ytjplkbeolakbjaa", sum := "f9b0609b02d2916c75a3361d7f71035b2fcaa980692420e86389434976f4f78a", func := "spyglass/spylaw3.QuantaMixes", spec := "quantaMixes", apart := false }
def QuantaMixesSaid : Prop := quantaMixesRow.holds Try.pinned (OpenSpec.ofChange quantaMixesSpec)

/-- ITS FALSE NEIGHBOUR: 'it returns false'. Refute it at one input. -/
def quantaMixesWrong : ChangeSpec := { name := "quantaMixes", fn := fun _ => fun
  | [d1, d2, d3] => { results := [.lit (.bool false)], args := [d1, d2, d3] }
  | _ => none }
def QuantaMixesWrongFalsely : Prop := quantaMixesRow.holds Try.pinned (OpenSpec.ofChange quantaMixesWrong)

/-- 'spylaw3.MasterHolds': WHATEVER THE INPUT: true; the input reads as it did. -/
def masterHoldsSpec : ChangeSpec := { name := "masterHolds", fn := fun _ => fun
  | [d1, d2, d3] => { results := [.lit (.bool true)], args := [d1, d2, d3] }
  | _ => none }
def masterHoldsRow : OpenClaim := { program := "ytjplkbeolakbjaa", sum := "f9b0609b02d2916c75a3361d7f71035b2fcaa980692420e86389434976f4f78a", func := "spyglass/spylaw3.MasterHolds", spec := "masterHolds", unfollowed := true, recurses := true, apart := false }
def MasterHoldsSaid : Prop := masterHoldsRow.holds Try.pinned (OpenSpec.ofChange masterHoldsSpec)

/-- ITS FALSE NEIGHBOUR: 'it returns false'. Refute it at one input. -/
def masterHoldsWrong : ChangeSpec := { name := "masterHolds", fn := fun _ => fun
  | [d1, d2, d3] => { results := [.lit (.bool false)], args := [d1, d2, d3] }
  | _ => none }
def MasterHoldsWrongFalsely : Prop := masterHoldsRow.holds Try.pinned (OpenSpec.ofChange masterHoldsWrong)

/-- 'spylaw3.QuantaDraws': WHATEVER THE INPUT: true; the input reads as it did. -/
def quantaDrawsSpec : ChangeSpec := { name := "quantaDraws", fn := fun _ => fun
  | [d1, d2, d3] => { results := [.lit (.bool true)], args := [d1, d2, d3] }
  | _ => none }
def quantaDrawsRow : OpenClaim := { program := "ytjplkbeolakbjaa", sum := "f9b0609b02d2916c75a3361d7f71035b2fcaa980692420e86389434976f4f78a", func := "spyglass/spylaw3.QuantaDraws", spec := "quantaDraws", apart := false }
def QuantaDrawsSaid : Prop := quantaDrawsRow.holds Try.pinned (OpenSpec.ofChange quantaDrawsSpec)

/-- ITS FALSE NEIGHBOUR: 'it returns false'. Refute it at one input. -/
def quantaDrawsWrong : ChangeSpec := { name := "quantaDraws", fn := fun _ => fun
  | [d1, d2, d3] => { results := [.lit (.bool false)], args := [d1, d2, d3] }
  | _ => none }
def QuantaDrawsWrongFalsely : Prop := quantaDrawsRow.holds Try.pinned (OpenSpec.ofChange quantaDrawsWrong)

/-- 'spylaw3.MasterChecks': WHATEVER THE INPUT: true; the input reads as it did. -/
def masterChecksSpec : ChangeSpec := { name := "masterChecks", fn := fun _ => fun
  | [d1, d2] => { results := [.lit (.bool true)], args := [d1, d2] }
  | _ => none }
def masterChecksRow : OpenClaim := { program := "ytjplkbeolakbjaa", sum := "f9b0609b02d2916c75a3361d7f71035b2fcaa980692420e86389434976f4f78a", func := "spyglass/spylaw3.MasterChecks", spec := "masterChecks", apart := false }
def MasterChecksSaid : Prop := masterChecksRow.holds Try.pinned (OpenSpec.ofChange masterChecksSpec)

/-- ITS FALSE NEIGHBOUR: 'it returns false'. Refute it at one input. -/
def masterChecksWrong : ChangeSpec := { name := "masterChecks", fn := fun _ => fun
  | [d1, d2] => { results := [.lit (.bool false)], args := [d1, d2] }
  | _ => none }
def MasterChecksWrongFalsely : Prop := masterChecksRow.holds Try.pinned (OpenSpec.ofChange masterChecksWrong)

/-- 'spylaw3.QuantaDecks': WHATEVER THE INPUT: true; the input reads as it did. -/
def quantaDecksSpec : ChangeSpec := { name := "quantaDecks", fn := fun _ => fun
  | [d1, d2, d3] => { results := [.lit (.bool true)], args := [d1, d2, d3] }
  | _ => none }
def quantaDecksRow : OpenClaim := { program := "ytjplkbeolakbjaa", sum := "f9b0609b02d2916c75a3361d7f71035b2fcaa980692420e86389434976f4f78a", func := "spyglass/spylaw3.QuantaDecks", spec := "quantaDecks", apart := false }
def QuantaDecksSaid : Prop := quantaDecksRow.holds Try.pinned (OpenSpec.ofChange quantaDecksSpec)

/-- ITS FALSE NEIGHBOUR: 'it returns false'. Refute it at one input. -/
def quantaDecksWrong : ChangeSpec := { name := "quantaDecks", fn := fun _ => fun
  | [d1, d2, d3] => { results := [.lit (.bool false)], args := [d1, d2, d3] }
  | _ => none }
def QuantaDecksWrongFalsely : Prop := quantaDecksRow.holds Try.pinned (OpenSpec.ofChange quantaDecksWrong)

/-- 'spylaw3.QuantaMeans': WHATEVER THE INPUT: true; the input reads as it did. -/
def quantaMeansSpec : ChangeSpec := { name := "quantaMeans", fn := fun _ => fun
  | [d] => { results := [.lit (.bool true)], args := [d] }
  | _ => none }
def quantaMeansRow : OpenClaim := { program := "ytjplkbeolakbjaa", sum := "f9b0609b02d2916c75a3361d7f71035b2fcaa980692420e86389434976f4f78a", func := "spyglass/spylaw3.QuantaMeans", spec := "quantaMeans", apart := false }
def QuantaMeansSaid : Prop := quantaMeansRow.holds Try.pinned (OpenSpec.ofChange quantaMeansSpec)

/-- ITS FALSE NEIGHBOUR: 'it returns false'. Refute it at one input. -/
def quantaMeansWrong : ChangeSpec := { name := "quantaMeans", fn := fun _ => fun
  | [d] => { results := [.lit (.bool false)], args := [d] }
  | _ => none }
def QuantaMeansWrongFalsely : Prop := quantaMeansRow.holds Try.pinned (OpenSpec.ofChange quantaMeansWrong)

/-- 'spylaw3.SensorChecks': WHATEVER THE INPUT: true; the input reads as it did. -/
def sensorChecksSpec : ChangeSpec := { name := "sensorChecks", fn := fun _ => fun
  | [d] => { results := [.lit (.bool true)], args := [d] }
  | _ => none }
def sensorChecksRow : OpenClaim := { program := "ytjplkbeolakbjaa", sum := "f9b0609b02d2916c75a3361d7f71035b2fcaa980692420e86389434976f4f78a", func := "spyglass/spylaw3.SensorChecks", spec := "sensorChecks", unfollowed := true, recurses := true, apart := false }
def SensorChecksSaid : Prop := sensorChecksRow.holds Try.pinned (OpenSpec.ofChange sensorChecksSpec)

/-- ITS FALSE NEIGHBOUR: 'it returns false'. Refute it at one input. -/
def sensorChecksWrong : ChangeSpec := { name := "sensorChecks", fn := fun _ => fun
  | [d] => { results := [.lit (.bool false)], args := [d] }
  | _ => none }
def SensorChecksWrongFalsely : Prop := sensorChecksRow.holds Try.pinned (OpenSpec.ofChange sensorChecksWrong)

/-- 'spylaw3.SensorBleeds': WHATEVER THE INPUT: true; the input reads as it did. -/
def sensorBleedsSpec : ChangeSpec := { name := "sensorBleeds", fn := fun _ => fun
  | [d1, d2] => { results := [.lit (.bool true)], args := [d1, d2] }
  | _ => none }
def sensorBleedsRow : OpenClaim := { program := "ytjplkbeolakbjaa", sum := "f9b0609b02d2916c75a3361d7f71035b2fcaa980692420e86389434976f4f78a", func := "spyglass/spylaw3.SensorBleeds", spec := "sensorBleeds", unfollowed := true, recurses := true, apart := false }
def SensorBleedsSaid : Prop := sensorBleedsRow.holds Try.pinned (OpenSpec.ofChange sensorBleedsSpec)

/-- ITS FALSE NEIGHBOUR: 'it returns false'. Refute it at one input. -/
def sensorBleedsWrong : ChangeSpec := { name := "sensorBleeds", fn := fun _ => fun
  | [d1, d2] => { results := [.lit (.bool false)], args := [d1, d2] }
  | _ => none }
def SensorBleedsWrongFalsely : Prop := sensorBleedsRow.holds Try.pinned (OpenSpec.ofChange sensorBleedsWrong)

/-- 'spylaw3.SensorReads': WHATEVER THE INPUT: true; the input reads as it did. -/
def sensorReadsSpec : ChangeSpec := { name := "sensorReads", fn := fun _ => fun
  | [d1, d2, d3, d4] => { results := [.lit (.bool true)], args := [d1, d2, d3, d4] }
  | _ => none }
def sensorReadsRow : OpenClaim := { program := "ytjplkbeolakbjaa", sum := "f9b0609b02d2916c75a3361d7f71035b2fcaa980692420e86389434976f4f78a", func := "spyglass/spylaw3.SensorReads", spec := "sensorReads", unfollowed := true, recurses := true, apart := false }
def SensorReadsSaid : Prop := sensorReadsRow.holds Try.pinned (OpenSpec.ofChange sensorReadsSpec)

/-- ITS FALSE NEIGHBOUR: 'it returns false'. Refute it at one input. -/
def sensorReadsWrong : ChangeSpec := { name := "sensorReads", fn := fun _ => fun
  | [d1, d2, d3, d4] => { results := [.lit (.bool false)], args := [d1, d2, d3, d4] }
  | _ => none }
def SensorReadsWrongFalsely : Prop := sensorReadsRow.holds Try.pinned (OpenSpec.ofChange sensorReadsWrong)

/-- 'spylaw3.CleanCombines': WHATEVER THE INPUT: true; the input reads as it did. -/
def cleanCombinesSpec : ChangeSpec := { name := "cleanCombines", fn := fun _ => fun
  | [d1, d2] => { results := [.lit (.bool true)], args := [d1, d2] }
  | _ => none }
def cleanCombinesRow : OpenClaim := { program := "ytjplkbeolakbjaa", sum := "f9b0609b02d2916c75a3361d7f71035b2fcaa980692420e86389434976f4f78a", func := "spyglass/spylaw3.CleanCombines", spec := "cleanCombines", unfollowed := true, recurses := true, apart := false }
def CleanCombinesSaid : Prop := cleanCombinesRow.holds Try.pinned (OpenSpec.ofChange cleanCombinesSpec)

/-- ITS FALSE NEIGHBOUR: 'it returns false'. Refute it at one input. -/
def cleanCombinesWrong : ChangeSpec := { name := "cleanCombines", fn := fun _ => fun
  | [d1, d2] => { results := [.lit (.bool false)], args := [d1, d2] }
  | _ => none }
def CleanCombinesWrongFalsely : Prop := cleanCombinesRow.holds Try.pinned (OpenSpec.ofChange cleanCombinesWrong)

/-- 'spylaw3.SensorStrikes': WHATEVER THE INPUT: true; the input reads as it did. -/
def sensorStrikesSpec : ChangeSpec := { name := "sensorStrikes", fn := fun _ => fun
  | [d1, d2, d3] => { results := [.lit (.bool true)], args := [d1, d2, d3] }
  | _ => none }
def sensorStrikesRow : OpenClaim := { program := "ytjplkbeolakbjaa", sum := "f9b0609b02d2916c75a3361d7f71035b2fcaa980692420e86389434976f4f78a", func := "spyglass/spylaw3.SensorStrikes", spec := "sensorStrikes", unfollowed := true, recurses := true, apart := false }
def SensorStrikesSaid : Prop := sensorStrikesRow.holds Try.pinned (OpenSpec.ofChange sensorStrikesSpec)

/-- ITS FALSE NEIGHBOUR: 'it returns false'. Refute it at one input. -/
def sensorStrikesWrong : ChangeSpec := { name := "sensorStrikes", fn := fun _ => fun
  | [d1, d2, d3] => { results := [.lit (.bool false)], args := [d1, d2, d3] }
  | _ => none }
def SensorStrikesWrongFalsely : Prop := sensorStrikesRow.holds Try.pinned (OpenSpec.ofChange sensorStrikesWrong)

/-- 'spylaw3.CleanStrikes': WHATEVER THE INPUT: true; the input reads as it did. -/
def cleanStrikesSpec : ChangeSpec := { name := "cleanStrikes", fn := fun _ => fun
  | [d1, d2] => { results := [.lit (.bool true)], args := [d1, d2] }
  | _ => none }
def cleanStrikesRow : OpenClaim := { program := "ytjplkbeolakbjaa", sum := "f9b0609b02d2916c75a3361d7f71035b2fcaa980692420e86389434976f4f78a", func := "spyglass/spylaw3.CleanStrikes", spec := "cleanStrikes", unfollowed := true, recurses := true, apart := false }
def CleanStrikesSaid : Prop := cleanStrikesRow.holds Try.pinned (OpenSpec.ofChange cleanStrikesSpec)

/-- ITS FALSE NEIGHBOUR: 'it returns false'. Refute it at one input. -/
def cleanStrikesWrong : ChangeSpec := { name := "cleanStrikes", fn := fun _ => fun
  | [d1, d2] => { results := [.lit (.bool false)], args := [d1, d2] }
  | _ => none }
def CleanStrikesWrongFalsely : Prop := cleanStrikesRow.holds Try.pinned (OpenSpec.ofChange cleanStrikesWrong)

/- THE SECOND FORM. 'bulk': how many values and letters a reading holds, each counted each time it is reached (what is shared counts as often as it is met; a slice's spare places count too). A statement '..UptoSaid' is the law's where the arguments, and the package variables that the reading takes, are together of bulk at most 1048576: NARROWER than '..Said'. Prove '..Said' where nothing that the law and all that it calls make is longer than what came in: it says more and counts as full. Else prove '..UptoSaid'. A law counts once. -/
mutual
def uptoBulk {H : Type} : DataW H → Nat
  | .lit (.string bytes) => bytes.length + 1
  | .lit _ => 1
  | .nil => 1
  | .ptr d => uptoBulk d + 1
  | .slice elems spare => uptoBulkAll elems + uptoBulkAll spare + 1
  | .agg parts => uptoBulkAll parts + 1
  | .iface _ d => uptoBulk d + 1
  | .map entries => uptoBulkEntries entries + 1
  | .held _ => 1
def uptoBulkAll {H : Type} : List (DataW H) → Nat
  | [] => 0
  | d :: r => uptoBulk d + uptoBulkAll r
def uptoBulkEntries {H : Type} : List (Lit × DataW H) → Nat
  | [] => 0
  | x :: r => uptoBulkEntry x + uptoBulkEntries r
def uptoBulkEntry {H : Type} : Lit × DataW H → Nat
  | (.string bytes, d) => bytes.length + uptoBulk d + 1
  | (_, d) => uptoBulk d + 1
 end
def uptoSmall : (H : Type) → List (DataW H) → Bool := fun _ ds => decide (uptoBulkAll ds ≤ 1048576)
def OpenSpec.upto (s : _root_.Go.ChangeSpec) : _root_.Go.OpenSpec := { _root_.Go.OpenSpec.ofChange s with cond := some uptoSmall }

/-- 'spylaw3.QuantaMixes', WHERE WHAT IT READS IS OF BULK AT MOST 1048576: true; the input reads as it did. -/
def quantaMixesUptoRow : OpenClaim := { program := "ytjplkbeolakbjaa", sum := "f9b0609b02d2916c75a3361d7f71035b2fcaa980692420e86389434976f4f78a", func := "spyglass/spylaw3.QuantaMixes", spec := "quantaMixes", apart := false, narrowed := true }
def QuantaMixesUptoSaid : Prop := quantaMixesUptoRow.holds Try.pinned (OpenSpec.upto quantaMixesSpec)

/-- 'spylaw3.MasterHolds', WHERE WHAT IT READS IS OF BULK AT MOST 1048576: true; the input reads as it did. -/
def masterHoldsUptoRow : OpenClaim := { program := "ytjplkbeolakbjaa", sum := "f9b0609b02d2916c75a3361d7f71035b2fcaa980692420e86389434976f4f78a", func := "spyglass/spylaw3.MasterHolds", spec := "masterHolds", unfollowed := true, recurses := true, apart := false, narrowed := true }
def MasterHoldsUptoSaid : Prop := masterHoldsUptoRow.holds Try.pinned (OpenSpec.upto masterHoldsSpec)

/-- 'spylaw3.QuantaDraws', WHERE WHAT IT READS IS OF BULK AT MOST 1048576: true; the input reads as it did. -/
def quantaDrawsUptoRow : OpenClaim := { program := "ytjplkbeolakbjaa", sum := "f9b0609b02d2916c75a3361d7f71035b2fcaa980692420e86389434976f4f78a", func := "spyglass/spylaw3.QuantaDraws", spec := "quantaDraws", apart := false, narrowed := true }
def QuantaDrawsUptoSaid : Prop := quantaDrawsUptoRow.holds Try.pinned (OpenSpec.upto quantaDrawsSpec)

/-- 'spylaw3.MasterChecks', WHERE WHAT IT READS IS OF BULK AT MOST 1048576: true; the input reads as it did. -/
def masterChecksUptoRow : OpenClaim := { program := "ytjplkbeolakbjaa", sum := "f9b0609b02d2916c75a3361d7f71035b2fcaa980692420e86389434976f4f78a", func := "spyglass/spylaw3.MasterChecks", spec := "masterChecks", apart := false, narrowed := true }
def MasterChecksUptoSaid : Prop := masterChecksUptoRow.holds Try.pinned (OpenSpec.upto masterChecksSpec)

/-- 'spylaw3.QuantaDecks', WHERE WHAT IT READS IS OF BULK AT MOST 1048576: true; the input reads as it did. -/
def quantaDecksUptoRow : OpenClaim := { program := "ytjplkbeolakbjaa", sum := "f9b0609b02d2916c75a3361d7f71035b2fcaa980692420e86389434976f4f78a", func := "spyglass/spylaw3.QuantaDecks", spec := "quantaDecks", apart := false, narrowed := true }
def QuantaDecksUptoSaid : Prop := quantaDecksUptoRow.holds Try.pinned (OpenSpec.upto quantaDecksSpec)

/-- 'spylaw3.QuantaMeans', WHERE WHAT IT READS IS OF BULK AT MOST 1048576: true; the input reads as it did. -/
def quantaMeansUptoRow : OpenClaim := { program := "ytjplkbeolakbjaa", sum := "f9b0609b02d2916c75a3361d7f71035b2fcaa980692420e86389434976f4f78a", func := "spyglass/spylaw3.QuantaMeans", spec := "quantaMeans", apart := false, narrowed := true }
def QuantaMeansUptoSaid : Prop := quantaMeansUptoRow.holds Try.pinned (OpenSpec.upto quantaMeansSpec)

/-- 'spylaw3.SensorChecks', WHERE WHAT IT READS IS OF BULK AT MOST 1048576: true; the input reads as it did. -/
def sensorChecksUptoRow : OpenClaim := { program := "ytjplkbeolakbjaa", sum := "f9b0609b02d2916c75a3361d7f71035b2fcaa980692420e86389434976f4f78a", func := "spyglass/spylaw3.SensorChecks", spec := "sensorChecks", unfollowed := true, recurses := true, apart := false, narrowed := true }
def SensorChecksUptoSaid : Prop := sensorChecksUptoRow.holds Try.pinned (OpenSpec.upto sensorChecksSpec)

/-- 'spylaw3.SensorBleeds', WHERE WHAT IT READS IS OF BULK AT MOST 1048576: true; the input reads as it did. -/
def sensorBleedsUptoRow : OpenClaim := { program := "ytjplkbeolakbjaa", sum := "f9b0609b02d2916c75a3361d7f71035b2fcaa980692420e86389434976f4f78a", func := "spyglass/spylaw3.SensorBleeds", spec := "sensorBleeds", unfollowed := true, recurses := true, apart := false, narrowed := true }
def SensorBleedsUptoSaid : Prop := sensorBleedsUptoRow.holds Try.pinned (OpenSpec.upto sensorBleedsSpec)

/-- 'spylaw3.SensorReads', WHERE WHAT IT READS IS OF BULK AT MOST 1048576: true; the input reads as it did. -/
def sensorReadsUptoRow : OpenClaim := { program := "ytjplkbeolakbjaa", sum := "f9b0609b02d2916c75a3361d7f71035b2fcaa980692420e86389434976f4f78a", func := "spyglass/spylaw3.SensorReads", spec := "sensorReads", unfollowed := true, recurses := true, apart := false, narrowed := true }
def SensorReadsUptoSaid : Prop := sensorReadsUptoRow.holds Try.pinned (OpenSpec.upto sensorReadsSpec)

/-- 'spylaw3.CleanCombines', WHERE WHAT IT READS IS OF BULK AT MOST 1048576: true; the input reads as it did. -/
def cleanCombinesUptoRow : OpenClaim := { program := "ytjplkbeolakbjaa", sum := "f9b0609b02d2916c75a3361d7f71035b2fcaa980692420e86389434976f4f78a", func := "spyglass/spylaw3.CleanCombines", spec := "cleanCombines", unfollowed := true, recurses := true, apart := false, narrowed := true }
def CleanCombinesUptoSaid : Prop := cleanCombinesUptoRow.holds Try.pinned (OpenSpec.upto cleanCombinesSpec)

/-- 'spylaw3.SensorStrikes', WHERE WHAT IT READS IS OF BULK AT MOST 1048576: true; the input reads as it did. -/
def sensorStrikesUptoRow : OpenClaim := { program := "ytjplkbeolakbjaa", sum := "f9b0609b02d2916c75a3361d7f71035b2fcaa980692420e86389434976f4f78a", func := "spyglass/spylaw3.SensorStrikes", spec := "sensorStrikes", unfollowed := true, recurses := true, apart := false, narrowed := true }
def SensorStrikesUptoSaid : Prop := sensorStrikesUptoRow.holds Try.pinned (OpenSpec.upto sensorStrikesSpec)

/-- 'spylaw3.CleanStrikes', WHERE WHAT IT READS IS OF BULK AT MOST 1048576: true; the input reads as it did. -/
def cleanStrikesUptoRow : OpenClaim := { program := "ytjplkbeolakbjaa", sum := "f9b0609b02d2916c75a3361d7f71035b2fcaa980692420e86389434976f4f78a", func := "spyglass/spylaw3.CleanStrikes", spec := "cleanStrikes", unfollowed := true, recurses := true, apart := false, narrowed := true }
def CleanStrikesUptoSaid : Prop := cleanStrikesUptoRow.holds Try.pinned (OpenSpec.upto cleanStrikesSpec)

end Rows
end Go.Proofs.Ytjplkbeolakbjaa
