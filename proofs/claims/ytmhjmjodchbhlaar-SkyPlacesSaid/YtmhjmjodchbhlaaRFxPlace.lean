/- Facts of the translated program: its types, and the functions that are entered. Printed by a program of this workplace; Lean checks each by the kernel. -/
import Derived.Test.YtmhjmjodchbhlaaREvT
import Derived.Test.YtmhjmjodchbhlaaRProg
set_option maxRecDepth 100000
namespace Go.Proofs.YtmhjmjodchbhlaaR.FxPlace
open Go.Ev
theorem tk2 : tk Try.prog 2 = .one := by kernel_rfl
theorem ik2 : intK Try.prog 2 = some .i64 := by kernel_rfl
theorem ek2 : ek Try.prog 2 = .int := by kernel_rfl
theorem zv2 : zeroV Try.prog 2 = some (.d (.int .i64 0)) := by kernel_rfl
theorem tk3 : tk Try.prog 3 = .one := by kernel_rfl
theorem ik3 : intK Try.prog 3 = some .i64 := by kernel_rfl
theorem zv3 : zeroV Try.prog 3 = some (.d (.int .i64 0)) := by kernel_rfl
theorem tk4 : tk Try.prog 4 = .one := by kernel_rfl
theorem ub4 : Try.prog.underlying 4 = some .bool := by kernel_rfl
theorem zv4 : zeroV Try.prog 4 = some (.d (.bool false)) := by kernel_rfl
theorem tk23 : tk Try.prog 23 = .agg 3 false := by kernel_rfl
theorem ct23 : compTs Try.prog 23 = [2, 2, 2] := by kernel_rfl
theorem ek23 : ek Try.prog 23 = .agg := by kernel_rfl
theorem zv23 : zeroV Try.prog 23 = some (.d (.agg 23 [.int .i64 0, .int .i64 0, .int .i64 0])) := by kernel_rfl
theorem tk27 : tk Try.prog 27 = .one := by kernel_rfl
theorem ik27 : intK Try.prog 27 = some .i64 := by kernel_rfl
theorem zv27 : zeroV Try.prog 27 = some (.d (.int .i64 0)) := by kernel_rfl
theorem tk37 : tk Try.prog 37 = .one := by kernel_rfl
theorem ik37 : intK Try.prog 37 = some .i64 := by kernel_rfl
theorem zv37 : zeroV Try.prog 37 = some (.d (.int .i64 0)) := by kernel_rfl
theorem tk39 : tk Try.prog 39 = .agg 4 false := by kernel_rfl
theorem ct39 : compTs Try.prog 39 = [3, 23, 23, 37] := by kernel_rfl
theorem zv39 : zeroV Try.prog 39 = some (.d (.agg 39 [.int .i64 0, .agg 23 [.int .i64 0, .int .i64 0, .int .i64 0], .agg 23 [.int .i64 0, .int .i64 0, .int .i64 0], .int .i64 0])) := by kernel_rfl
theorem tk48 : tk Try.prog 48 = .one := by kernel_rfl
theorem ik48 : intK Try.prog 48 = some .i64 := by kernel_rfl
theorem zv48 : zeroV Try.prog 48 = some (.d (.int .i64 0)) := by kernel_rfl
theorem tk91 : tk Try.prog 91 = .one := by kernel_rfl
theorem zv91 : zeroV Try.prog 91 = some (.jk) := by kernel_rfl
noncomputable def en8 : Entry := ⟨Try.f8, [(1000000, [false, false, false, false, true, false, false, false, false, false, false, false, false, false, false, false, false, false, false, false, false, false, false, false, false, false, false, false, false, false, false, false])]⟩
theorem mk8_1000000 (vs : List V) : mask (maskOf en8.ms 1000000) vs = mask [false, false, false, false, true, false, false, false, false, false, false, false, false, false, false, false, false, false, false, false, false, false, false, false, false, false, false, false, false, false, false, false] vs := nr rfl
def hr8 (t4 : V) : List V := [.und, .und, .und, .und, t4, .und, .und, .und, .und, .und, .und, .und, .und, .und, .und, .und, .und, .und, .und, .und, .und, .und, .und, .und, .und, .und, .und, .und, .und, .und, .und, .und]
noncomputable def en26 : Entry := ⟨Try.f26, [(1000000, [false, false, false, false, true, true, false, false, false, false, false, false, false, false, false, false, false, false, false, false, false, false, false, false, false, false, false, false, false, false, false, false, false, false, false, false, false, false, false, false, false, false, false, false, false, false, false, false, false, false, false, false, false, false, false, false, false, false, false, false, false, false, false, false, false, false, false]), (2000012, [true])]⟩
theorem dw26_12 (env : List V) (o : Option (List V × Store)) : drawR en26.ms 12 env o = o := nr rfl
theorem nc26_12 : ncOf en26.ms 12 = true := nr rfl
theorem mk26_1000000 (vs : List V) : mask (maskOf en26.ms 1000000) vs = mask [false, false, false, false, true, true, false, false, false, false, false, false, false, false, false, false, false, false, false, false, false, false, false, false, false, false, false, false, false, false, false, false, false, false, false, false, false, false, false, false, false, false, false, false, false, false, false, false, false, false, false, false, false, false, false, false, false, false, false, false, false, false, false, false, false, false, false] vs := nr rfl
def hr26 (t4 t5 : V) : List V := [.und, .und, .und, .und, t4, t5, .und, .und, .und, .und, .und, .und, .und, .und, .und, .und, .und, .und, .und, .und, .und, .und, .und, .und, .und, .und, .und, .und, .und, .und, .und, .und, .und, .und, .und, .und, .und, .und, .und, .und, .und, .und, .und, .und, .und, .und, .und, .und, .und, .und, .und, .und, .und, .und, .und, .und, .und, .und, .und, .und, .und, .und, .und, .und, .und, .und, .und]
noncomputable def en27 : Entry := ⟨Try.f27, [(1000000, [false, false, false, false, true, true, false, false, false, false, false, false, false, false, false, false, false, false, false, false, false, false, false, false, false, false, false, false, false, false, false, false, false, false, false, false, false, false, false, false, false, false, false, false, false, false, false, false, false, false, false, false, false, false, false, false, false, false, false, false, false, false, false, false, false, false, false, false, false, false, false, false, false, false]), (2000013, [true])]⟩
theorem dw27_3 (env : List V) (o : Option (List V × Store)) : drawR en27.ms 3 env o = o := nr rfl
theorem nc27_3 : ncOf en27.ms 3 = false := nr rfl
theorem dw27_13 (env : List V) (o : Option (List V × Store)) : drawR en27.ms 13 env o = o := nr rfl
theorem nc27_13 : ncOf en27.ms 13 = true := nr rfl
theorem mk27_1000000 (vs : List V) : mask (maskOf en27.ms 1000000) vs = mask [false, false, false, false, true, true, false, false, false, false, false, false, false, false, false, false, false, false, false, false, false, false, false, false, false, false, false, false, false, false, false, false, false, false, false, false, false, false, false, false, false, false, false, false, false, false, false, false, false, false, false, false, false, false, false, false, false, false, false, false, false, false, false, false, false, false, false, false, false, false, false, false, false, false] vs := nr rfl
def hr27 (t4 t5 : V) : List V := [.und, .und, .und, .und, t4, t5, .und, .und, .und, .und, .und, .und, .und, .und, .und, .und, .und, .und, .und, .und, .und, .und, .und, .und, .und, .und, .und, .und, .und, .und, .und, .und, .und, .und, .und, .und, .und, .und, .und, .und, .und, .und, .und, .und, .und, .und, .und, .und, .und, .und, .und, .und, .und, .und, .und, .und, .und, .und, .und, .und, .und, .und, .und, .und, .und, .und, .und, .und, .und, .und, .und, .und, .und, .und]
noncomputable def en69 : Entry := ⟨Try.f69, [(1000000, [false, false, false, false, true, false, false, false, false, false, false, false, false, false, false, false, false, false])]⟩
theorem mk69_1000000 (vs : List V) : mask (maskOf en69.ms 1000000) vs = mask [false, false, false, false, true, false, false, false, false, false, false, false, false, false, false, false, false, false] vs := nr rfl
def hr69 (t4 : V) : List V := [.und, .und, .und, .und, t4, .und, .und, .und, .und, .und, .und, .und, .und, .und, .und, .und, .und, .und]
noncomputable def en70 : Entry := ⟨Try.f70, [(1000000, [false, false, false, false, false, true, false, false, false, false, false, false, false, false])]⟩
theorem mk70_1000000 (vs : List V) : mask (maskOf en70.ms 1000000) vs = mask [false, false, false, false, false, true, false, false, false, false, false, false, false, false] vs := nr rfl
def hr70 (t5 : V) : List V := [.und, .und, .und, .und, .und, t5, .und, .und, .und, .und, .und, .und, .und, .und]
noncomputable def en71 : Entry := ⟨Try.f71, [(0, [true, false, false, false, false, false, true, false, false, false, false, false, false, false, false, false, false, false, false, false, false, false, false, false, false]), (1000001, [true, false, false, false, false, false, true, false, false, false, false, false, false, false, false, false, false, false, false, false, false, false, false, false, false]), (1000002, [true, false, false, false, false, false, true, false, false, false, false, false, false, false, false, false, false, false, false, false, false, false, false, false, false]), (1000000, [false, false, false, false, false, true, false, false, false, false, false, false, false, false, false, false, false, false, false, false, false, false, false, false, false])]⟩
theorem mk71_0 (vs : List V) : mask (maskOf en71.ms 0) vs = mask [true, false, false, false, false, false, true, false, false, false, false, false, false, false, false, false, false, false, false, false, false, false, false, false, false] vs := nr rfl
theorem mk71_1000001 (vs : List V) : mask (maskOf en71.ms 1000001) vs = mask [true, false, false, false, false, false, true, false, false, false, false, false, false, false, false, false, false, false, false, false, false, false, false, false, false] vs := nr rfl
theorem mk71_1000002 (vs : List V) : mask (maskOf en71.ms 1000002) vs = mask [true, false, false, false, false, false, true, false, false, false, false, false, false, false, false, false, false, false, false, false, false, false, false, false, false] vs := nr rfl
theorem mk71_1000000 (vs : List V) : mask (maskOf en71.ms 1000000) vs = mask [false, false, false, false, false, true, false, false, false, false, false, false, false, false, false, false, false, false, false, false, false, false, false, false, false] vs := nr rfl
noncomputable def lb71_0 : Code := loopN Try.f71 0
def hd71_0 (t0 t6 : V) : List V := [t0, .und, .und, .und, .und, .und, t6, .und, .und, .und, .und, .und, .und, .und, .und, .und, .und, .und, .und, .und, .und, .und, .und, .und, .und]
def hx71_0 (t0 t6 : V) : List V := [t0, .und, .und, .und, .und, .und, t6, .und, .und, .und, .und, .und, .und, .und, .und, .und, .und, .und, .und, .und, .und, .und, .und, .und, .und]
def hx71_1 (t0 t6 : V) : List V := [t0, .und, .und, .und, .und, .und, t6, .und, .und, .und, .und, .und, .und, .und, .und, .und, .und, .und, .und, .und, .und, .und, .und, .und, .und]
def hr71 (t5 : V) : List V := [.und, .und, .und, .und, .und, t5, .und, .und, .und, .und, .und, .und, .und, .und, .und, .und, .und, .und, .und, .und, .und, .und, .und, .und, .und]
theorem mixed : Try.prog.follows .mixedOrders = true := by kernel_rfl
end Go.Proofs.YtmhjmjodchbhlaaR.FxPlace
