/- Parts of one proof, joined: FxNum, Ari, Num1Num. -/
import Derived.Test.YtnojehmbiceceaaMQueryNears8
import Derived.Test.YtnojehmbiceceaaProg
import Derived.Laws.MathBits
import Derived.Laws.Bits64b
import Derived.Laws.Externs
section
set_option maxRecDepth 100000
namespace Go.Proofs.Ytnojehmbiceceaa.FxNum
open Go.Ev
theorem tk2 : tk Try.prog 2 = .one := by kernel_rfl
theorem ik2 : intK Try.prog 2 = some .i64 := by kernel_rfl
theorem zv2 : zeroV Try.prog 2 = some (.d (.int .i64 0)) := by kernel_rfl
theorem tk3 : tk Try.prog 3 = .one := by kernel_rfl
theorem ik3 : intK Try.prog 3 = some .i64 := by kernel_rfl
theorem zv3 : zeroV Try.prog 3 = some (.d (.int .i64 0)) := by kernel_rfl
theorem tk4 : tk Try.prog 4 = .one := by kernel_rfl
theorem ub4 : Try.prog.underlying 4 = some .bool := by kernel_rfl
theorem zv4 : zeroV Try.prog 4 = some (.d (.bool false)) := by kernel_rfl
theorem tk5 : tk Try.prog 5 = .one := by kernel_rfl
theorem ik5 : intK Try.prog 5 = some .u8 := by kernel_rfl
theorem zv5 : zeroV Try.prog 5 = some (.d (.int .u8 0)) := by kernel_rfl
theorem tk9 : tk Try.prog 9 = .one := by kernel_rfl
theorem ek9 : ek Try.prog 9 = .str := by kernel_rfl
theorem tk27 : tk Try.prog 27 = .one := by kernel_rfl
theorem ik27 : intK Try.prog 27 = some .i64 := by kernel_rfl
theorem zv27 : zeroV Try.prog 27 = some (.d (.int .i64 0)) := by kernel_rfl
theorem tk133 : tk Try.prog 133 = .one := by kernel_rfl
theorem ik133 : intK Try.prog 133 = some .u64 := by kernel_rfl
theorem zv133 : zeroV Try.prog 133 = some (.d (.int .u64 0)) := by kernel_rfl
theorem tk147 : tk Try.prog 147 = .one := by kernel_rfl
theorem ik147 : intK Try.prog 147 = some .u64 := by kernel_rfl
theorem zv147 : zeroV Try.prog 147 = some (.d (.int .u64 0)) := by kernel_rfl
theorem tk176 : tk Try.prog 176 = .agg 2 false := by kernel_rfl
theorem ct176 : compTs Try.prog 176 = [2, 133] := by kernel_rfl
theorem zv176 : zeroV Try.prog 176 = some (.d (.agg 176 [.int .i64 0, .int .u64 0])) := by kernel_rfl
theorem tk295 : tk Try.prog 295 = .one := by kernel_rfl
noncomputable def en66 : Entry := ⟨Try.f66, [(1000000, [false, false, false, false, false, false, true, true, false, false, false, false, false, false, false])]⟩
theorem mk66_1000000 (vs : List V) : mask (maskOf en66.ms 1000000) vs = mask [false, false, false, false, false, false, true, true, false, false, false, false, false, false, false] vs := nr rfl
def hr66 (t6 t7 : V) : List V := [.und, .und, .und, .und, .und, .und, t6, t7, .und, .und, .und, .und, .und, .und, .und]
noncomputable def en86 : Entry := ⟨Try.f86, [(1000000, [false, false, false, false, false, false, true, false, false, false, false, false, false, false, false, false, false, false, false])]⟩
theorem mk86_1000000 (vs : List V) : mask (maskOf en86.ms 1000000) vs = mask [false, false, false, false, false, false, true, false, false, false, false, false, false, false, false, false, false, false, false] vs := nr rfl
def hr86 (t6 : V) : List V := [.und, .und, .und, .und, .und, .und, t6, .und, .und, .und, .und, .und, .und, .und, .und, .und, .und, .und, .und]
noncomputable def en87 : Entry := ⟨Try.f87, [(1000000, [false, false, false, false, false, false, true, false, false, false, false, false, false, false, false, false, false, false, false, false, false, false, false, false, false, false, false, false, false, false, false, false, false, false, false, false, false, false, false, false, false, false, false, false, false, false, false, false, false, false, false])]⟩
theorem mk87_1000000 (vs : List V) : mask (maskOf en87.ms 1000000) vs = mask [false, false, false, false, false, false, true, false, false, false, false, false, false, false, false, false, false, false, false, false, false, false, false, false, false, false, false, false, false, false, false, false, false, false, false, false, false, false, false, false, false, false, false, false, false, false, false, false, false, false, false] vs := nr rfl
def hr87 (t6 : V) : List V := [.und, .und, .und, .und, .und, .und, t6, .und, .und, .und, .und, .und, .und, .und, .und, .und, .und, .und, .und, .und, .und, .und, .und, .und, .und, .und, .und, .und, .und, .und, .und, .und, .und, .und, .und, .und, .und, .und, .und, .und, .und, .und, .und, .und, .und, .und, .und, .und, .und, .und, .und]
noncomputable def en109 : Entry := ⟨Try.f109, [(0, [false, false, false, false, false, true, true, true, true, false, false, false, false, false, false, false, false, false, false, false, false, false, false, false, false, false, false, false, false, false, false, false, false, false, false, false, false, false, false, false, false, false, false, false, false, false, false, false, false, false, false, false, false, false, false, false, false]), (1000001, [false, false, false, false, false, false, false, true, false, false, false, false, false, false, false, false, false, false, false, false, false, false, false, false, false, false, false, false, false, false, false, false, false, false, false, false, false, false, false, false, false, false, false, false, false, false, false, false, false, false, false, false, false, false, false, false, false]), (1000002, [false, false, false, false, false, true, true, true, true, false, false, false, false, false, false, false, false, false, false, false, false, false, false, false, false, false, false, false, false, false, false, false, false, false, false, false, false, false, false, false, false, false, false, false, false, false, false, false, false, false, false, false, false, false, false, false, false]), (1000000, [false, false, false, false, true, false, false, false, false, false, false, false, false, false, false, false, false, false, false, false, false, false, false, false, false, false, false, false, false, false, false, false, false, false, false, false, false, false, false, false, false, false, false, false, false, false, false, false, false, false, false, false, false, false, false, false, false])]⟩
theorem mk109_0 (vs : List V) : mask (maskOf en109.ms 0) vs = mask [false, false, false, false, false, true, true, true, true, false, false, false, false, false, false, false, false, false, false, false, false, false, false, false, false, false, false, false, false, false, false, false, false, false, false, false, false, false, false, false, false, false, false, false, false, false, false, false, false, false, false, false, false, false, false, false, false] vs := nr rfl
theorem mk109_1000001 (vs : List V) : mask (maskOf en109.ms 1000001) vs = mask [false, false, false, false, false, false, false, true, false, false, false, false, false, false, false, false, false, false, false, false, false, false, false, false, false, false, false, false, false, false, false, false, false, false, false, false, false, false, false, false, false, false, false, false, false, false, false, false, false, false, false, false, false, false, false, false, false] vs := nr rfl
theorem mk109_1000002 (vs : List V) : mask (maskOf en109.ms 1000002) vs = mask [false, false, false, false, false, true, true, true, true, false, false, false, false, false, false, false, false, false, false, false, false, false, false, false, false, false, false, false, false, false, false, false, false, false, false, false, false, false, false, false, false, false, false, false, false, false, false, false, false, false, false, false, false, false, false, false, false] vs := nr rfl
theorem mk109_1000000 (vs : List V) : mask (maskOf en109.ms 1000000) vs = mask [false, false, false, false, true, false, false, false, false, false, false, false, false, false, false, false, false, false, false, false, false, false, false, false, false, false, false, false, false, false, false, false, false, false, false, false, false, false, false, false, false, false, false, false, false, false, false, false, false, false, false, false, false, false, false, false, false] vs := nr rfl
noncomputable def lb109_0 : Code := loopN Try.f109 0
theorem fi109_0 (lv : Nat) (env : List V) (st : Store) (q : Store → Out) : frzI en109.ms lv 0 env st q = q st := nr rfl
def hd109_0 (t5 t6 t7 t8 : V) : List V := [.und, .und, .und, .und, .und, t5, t6, t7, t8, .und, .und, .und, .und, .und, .und, .und, .und, .und, .und, .und, .und, .und, .und, .und, .und, .und, .und, .und, .und, .und, .und, .und, .und, .und, .und, .und, .und, .und, .und, .und, .und, .und, .und, .und, .und, .und, .und, .und, .und, .und, .und, .und, .und, .und, .und, .und, .und]
def hx109_0 (t7 : V) : List V := [.und, .und, .und, .und, .und, .und, .und, t7, .und, .und, .und, .und, .und, .und, .und, .und, .und, .und, .und, .und, .und, .und, .und, .und, .und, .und, .und, .und, .und, .und, .und, .und, .und, .und, .und, .und, .und, .und, .und, .und, .und, .und, .und, .und, .und, .und, .und, .und, .und, .und, .und, .und, .und, .und, .und, .und, .und]
def hx109_1 (t5 t6 t7 t8 : V) : List V := [.und, .und, .und, .und, .und, t5, t6, t7, t8, .und, .und, .und, .und, .und, .und, .und, .und, .und, .und, .und, .und, .und, .und, .und, .und, .und, .und, .und, .und, .und, .und, .und, .und, .und, .und, .und, .und, .und, .und, .und, .und, .und, .und, .und, .und, .und, .und, .und, .und, .und, .und, .und, .und, .und, .und, .und, .und]
def hr109 (t4 : V) : List V := [.und, .und, .und, .und, t4, .und, .und, .und, .und, .und, .und, .und, .und, .und, .und, .und, .und, .und, .und, .und, .und, .und, .und, .und, .und, .und, .und, .und, .und, .und, .und, .und, .und, .und, .und, .und, .und, .und, .und, .und, .und, .und, .und, .und, .und, .und, .und, .und, .und, .und, .und, .und, .und, .und, .und, .und, .und]
noncomputable def en110 : Entry := ⟨Try.f110, [(1000000, [false, false, false, false, true, false, false, false, false, false, false, false, false, false, false, false, false, false, false, false, false, false, false, false, false, false, false, false])]⟩
theorem mk110_1000000 (vs : List V) : mask (maskOf en110.ms 1000000) vs = mask [false, false, false, false, true, false, false, false, false, false, false, false, false, false, false, false, false, false, false, false, false, false, false, false, false, false, false, false] vs := nr rfl
def hr110 (t4 : V) : List V := [.und, .und, .und, .und, t4, .und, .und, .und, .und, .und, .und, .und, .und, .und, .und, .und, .und, .und, .und, .und, .und, .und, .und, .und, .und, .und, .und, .und]
noncomputable def en118 : Entry := ⟨Try.f118, [(0, [false, false, false, false, false, true, true, true, true, false, false, false, false, false, false, false, false, false, false, false, false, false, false, false, false, false, false, false, false, false, false, false, false, false, false, false, false, false, false, false, false, false, false, false, false, false, false, false, false, false, false, false, false]), (1000001, [false, false, false, false, false, false, false, true, false, false, false, false, false, false, false, false, false, false, false, false, false, false, false, false, false, false, false, false, false, false, false, false, false, false, false, false, false, false, false, false, false, false, false, false, false, false, false, false, false, false, false, false, false]), (1000002, [false, false, false, false, false, true, true, true, true, false, false, false, false, false, false, false, false, false, false, false, false, false, false, false, false, false, false, false, false, false, false, false, false, false, false, false, false, false, false, false, false, false, false, false, false, false, false, false, false, false, false, false, false]), (1000000, [false, false, false, false, true, false, false, false, false, false, false, false, false, false, false, false, false, false, false, false, false, false, false, false, false, false, false, false, false, false, false, false, false, false, false, false, false, false, false, false, false, false, false, false, false, false, false, false, false, false, false, false, false])]⟩
theorem mk118_0 (vs : List V) : mask (maskOf en118.ms 0) vs = mask [false, false, false, false, false, true, true, true, true, false, false, false, false, false, false, false, false, false, false, false, false, false, false, false, false, false, false, false, false, false, false, false, false, false, false, false, false, false, false, false, false, false, false, false, false, false, false, false, false, false, false, false, false] vs := nr rfl
theorem mk118_1000001 (vs : List V) : mask (maskOf en118.ms 1000001) vs = mask [false, false, false, false, false, false, false, true, false, false, false, false, false, false, false, false, false, false, false, false, false, false, false, false, false, false, false, false, false, false, false, false, false, false, false, false, false, false, false, false, false, false, false, false, false, false, false, false, false, false, false, false, false] vs := nr rfl
theorem mk118_1000002 (vs : List V) : mask (maskOf en118.ms 1000002) vs = mask [false, false, false, false, false, true, true, true, true, false, false, false, false, false, false, false, false, false, false, false, false, false, false, false, false, false, false, false, false, false, false, false, false, false, false, false, false, false, false, false, false, false, false, false, false, false, false, false, false, false, false, false, false] vs := nr rfl
theorem mk118_1000000 (vs : List V) : mask (maskOf en118.ms 1000000) vs = mask [false, false, false, false, true, false, false, false, false, false, false, false, false, false, false, false, false, false, false, false, false, false, false, false, false, false, false, false, false, false, false, false, false, false, false, false, false, false, false, false, false, false, false, false, false, false, false, false, false, false, false, false, false] vs := nr rfl
noncomputable def lb118_0 : Code := loopN Try.f118 0
theorem fi118_0 (lv : Nat) (env : List V) (st : Store) (q : Store → Out) : frzI en118.ms lv 0 env st q = q st := nr rfl
def hd118_0 (t5 t6 t7 t8 : V) : List V := [.und, .und, .und, .und, .und, t5, t6, t7, t8, .und, .und, .und, .und, .und, .und, .und, .und, .und, .und, .und, .und, .und, .und, .und, .und, .und, .und, .und, .und, .und, .und, .und, .und, .und, .und, .und, .und, .und, .und, .und, .und, .und, .und, .und, .und, .und, .und, .und, .und, .und, .und, .und, .und]
def hx118_0 (t7 : V) : List V := [.und, .und, .und, .und, .und, .und, .und, t7, .und, .und, .und, .und, .und, .und, .und, .und, .und, .und, .und, .und, .und, .und, .und, .und, .und, .und, .und, .und, .und, .und, .und, .und, .und, .und, .und, .und, .und, .und, .und, .und, .und, .und, .und, .und, .und, .und, .und, .und, .und, .und, .und, .und, .und]
def hx118_1 (t5 t6 t7 t8 : V) : List V := [.und, .und, .und, .und, .und, t5, t6, t7, t8, .und, .und, .und, .und, .und, .und, .und, .und, .und, .und, .und, .und, .und, .und, .und, .und, .und, .und, .und, .und, .und, .und, .und, .und, .und, .und, .und, .und, .und, .und, .und, .und, .und, .und, .und, .und, .und, .und, .und, .und, .und, .und, .und, .und]
def hr118 (t4 : V) : List V := [.und, .und, .und, .und, t4, .und, .und, .und, .und, .und, .und, .und, .und, .und, .und, .und, .und, .und, .und, .und, .und, .und, .und, .und, .und, .und, .und, .und, .und, .und, .und, .und, .und, .und, .und, .und, .und, .und, .und, .und, .und, .und, .und, .und, .und, .und, .und, .und, .und, .und, .und, .und, .und]
noncomputable def en150 : Entry := ⟨Try.f150, [(1000001, [false, false, false, false, false, false, false, true, false, false, false, false, false, false, false, false, false, false, false, false, false, false, false, false, false, false, false, false, false, false, false, false, false, false, false, false, false, false, false, false, false, false, false, false, false, false, false, false, false, false, false, false, false, false, false, false, false, false, false, false, false]), (1000000, [false, false, false, false, true, true, false, false, false, false, false, false, false, false, false, false, false, false, false, false, false, false, false, false, false, false, false, false, false, false, false, false, false, false, false, false, false, false, false, false, false, false, false, false, false, false, false, false, false, false, false, false, false, false, false, false, false, false, false, false, false])]⟩
theorem mk150_1000001 (vs : List V) : mask (maskOf en150.ms 1000001) vs = mask [false, false, false, false, false, false, false, true, false, false, false, false, false, false, false, false, false, false, false, false, false, false, false, false, false, false, false, false, false, false, false, false, false, false, false, false, false, false, false, false, false, false, false, false, false, false, false, false, false, false, false, false, false, false, false, false, false, false, false, false, false] vs := nr rfl
theorem mk150_1000000 (vs : List V) : mask (maskOf en150.ms 1000000) vs = mask [false, false, false, false, true, true, false, false, false, false, false, false, false, false, false, false, false, false, false, false, false, false, false, false, false, false, false, false, false, false, false, false, false, false, false, false, false, false, false, false, false, false, false, false, false, false, false, false, false, false, false, false, false, false, false, false, false, false, false, false, false] vs := nr rfl
def hx150_0 (t7 : V) : List V := [.und, .und, .und, .und, .und, .und, .und, t7, .und, .und, .und, .und, .und, .und, .und, .und, .und, .und, .und, .und, .und, .und, .und, .und, .und, .und, .und, .und, .und, .und, .und, .und, .und, .und, .und, .und, .und, .und, .und, .und, .und, .und, .und, .und, .und, .und, .und, .und, .und, .und, .und, .und, .und, .und, .und, .und, .und, .und, .und, .und, .und]
def hr150 (t4 t5 : V) : List V := [.und, .und, .und, .und, t4, t5, .und, .und, .und, .und, .und, .und, .und, .und, .und, .und, .und, .und, .und, .und, .und, .und, .und, .und, .und, .und, .und, .und, .und, .und, .und, .und, .und, .und, .und, .und, .und, .und, .und, .und, .und, .und, .und, .und, .und, .und, .und, .und, .und, .und, .und, .und, .und, .und, .und, .und, .und, .und, .und, .und, .und]
noncomputable def en171 : Entry := ⟨Try.f171, [(0, [false, false, true, false, false, false, false, true, true, true, true, false, false, false, false, false, false, false, false, false, false, false, false, false, false, false, false, false, false, false, false, false, false, false, false, false, false, false, false, false, false, false, false, false, false, false, false, false, false, false, false, false, false]), (1000001, [false, false, false, false, false, false, false, false, false, true, false, false, false, false, false, false, false, false, false, false, false, false, false, false, false, false, false, false, false, false, false, false, false, false, false, false, false, false, false, false, false, false, false, false, false, false, false, false, false, false, false, false, false]), (1000002, [false, false, true, false, false, false, false, true, true, true, true, false, false, false, false, false, false, false, false, false, false, false, false, false, false, false, false, false, false, false, false, false, false, false, false, false, false, false, false, false, false, false, false, false, false, false, false, false, false, false, false, false, false]), (1000000, [false, false, false, false, false, false, true, false, false, false, false, false, false, false, false, false, false, false, false, false, false, false, false, false, false, false, false, false, false, false, false, false, false, false, false, false, false, false, false, false, false, false, false, false, false, false, false, false, false, false, false, false, false])]⟩
theorem mk171_0 (vs : List V) : mask (maskOf en171.ms 0) vs = mask [false, false, true, false, false, false, false, true, true, true, true, false, false, false, false, false, false, false, false, false, false, false, false, false, false, false, false, false, false, false, false, false, false, false, false, false, false, false, false, false, false, false, false, false, false, false, false, false, false, false, false, false, false] vs := nr rfl
theorem mk171_1000001 (vs : List V) : mask (maskOf en171.ms 1000001) vs = mask [false, false, false, false, false, false, false, false, false, true, false, false, false, false, false, false, false, false, false, false, false, false, false, false, false, false, false, false, false, false, false, false, false, false, false, false, false, false, false, false, false, false, false, false, false, false, false, false, false, false, false, false, false] vs := nr rfl
theorem mk171_1000002 (vs : List V) : mask (maskOf en171.ms 1000002) vs = mask [false, false, true, false, false, false, false, true, true, true, true, false, false, false, false, false, false, false, false, false, false, false, false, false, false, false, false, false, false, false, false, false, false, false, false, false, false, false, false, false, false, false, false, false, false, false, false, false, false, false, false, false, false] vs := nr rfl
theorem mk171_1000000 (vs : List V) : mask (maskOf en171.ms 1000000) vs = mask [false, false, false, false, false, false, true, false, false, false, false, false, false, false, false, false, false, false, false, false, false, false, false, false, false, false, false, false, false, false, false, false, false, false, false, false, false, false, false, false, false, false, false, false, false, false, false, false, false, false, false, false, false] vs := nr rfl
noncomputable def lb171_0 : Code := loopN Try.f171 0
theorem fi171_0 (lv : Nat) (env : List V) (st : Store) (q : Store → Out) : frzI en171.ms lv 0 env st q = q st := nr rfl
def hd171_0 (t2 t7 t8 t9 t10 : V) : List V := [.und, .und, t2, .und, .und, .und, .und, t7, t8, t9, t10, .und, .und, .und, .und, .und, .und, .und, .und, .und, .und, .und, .und, .und, .und, .und, .und, .und, .und, .und, .und, .und, .und, .und, .und, .und, .und, .und, .und, .und, .und, .und, .und, .und, .und, .und, .und, .und, .und, .und, .und, .und, .und]
def hx171_0 (t9 : V) : List V := [.und, .und, .und, .und, .und, .und, .und, .und, .und, t9, .und, .und, .und, .und, .und, .und, .und, .und, .und, .und, .und, .und, .und, .und, .und, .und, .und, .und, .und, .und, .und, .und, .und, .und, .und, .und, .und, .und, .und, .und, .und, .und, .und, .und, .und, .und, .und, .und, .und, .und, .und, .und, .und]
def hx171_1 (t2 t7 t8 t9 t10 : V) : List V := [.und, .und, t2, .und, .und, .und, .und, t7, t8, t9, t10, .und, .und, .und, .und, .und, .und, .und, .und, .und, .und, .und, .und, .und, .und, .und, .und, .und, .und, .und, .und, .und, .und, .und, .und, .und, .und, .und, .und, .und, .und, .und, .und, .und, .und, .und, .und, .und, .und, .und, .und, .und, .und]
def hr171 (t6 : V) : List V := [.und, .und, .und, .und, .und, .und, t6, .und, .und, .und, .und, .und, .und, .und, .und, .und, .und, .und, .und, .und, .und, .und, .und, .und, .und, .und, .und, .und, .und, .und, .und, .und, .und, .und, .und, .und, .und, .und, .und, .und, .und, .und, .und, .und, .und, .und, .und, .und, .und, .und, .und, .und, .und]
noncomputable def en172 : Entry := ⟨Try.f172, [(1000000, [false, false, false, false, true, true, false, false, false, false, false, false, false, false, false, false, false, false, false, false, false, false, false, false, false, false, false, false, false, false, false, false, false, false, false, false, false, false, false, false, false, false, false, false, false, false, false, false, false, false, false])]⟩
theorem mk172_1000000 (vs : List V) : mask (maskOf en172.ms 1000000) vs = mask [false, false, false, false, true, true, false, false, false, false, false, false, false, false, false, false, false, false, false, false, false, false, false, false, false, false, false, false, false, false, false, false, false, false, false, false, false, false, false, false, false, false, false, false, false, false, false, false, false, false, false] vs := nr rfl
def hr172 (t4 t5 : V) : List V := [.und, .und, .und, .und, t4, t5, .und, .und, .und, .und, .und, .und, .und, .und, .und, .und, .und, .und, .und, .und, .und, .und, .und, .und, .und, .und, .und, .und, .und, .und, .und, .und, .und, .und, .und, .und, .und, .und, .und, .und, .und, .und, .und, .und, .und, .und, .und, .und, .und, .und, .und]
noncomputable def en182 : Entry := ⟨Try.f182, [(1000000, [false, false, true, false, false, false, false, false, false, false])]⟩
theorem mk182_1000000 (vs : List V) : mask (maskOf en182.ms 1000000) vs = mask [false, false, true, false, false, false, false, false, false, false] vs := nr rfl
def hr182 (t2 : V) : List V := [.und, .und, t2, .und, .und, .und, .und, .und, .und, .und]
noncomputable def en183 : Entry := ⟨Try.f183, [(1000000, [false, false, true, false, false, false, false, false, false, false, false, false, false, false, false, false, false, false, false, false, false, false, false, false, false, false, false])]⟩
theorem mk183_1000000 (vs : List V) : mask (maskOf en183.ms 1000000) vs = mask [false, false, true, false, false, false, false, false, false, false, false, false, false, false, false, false, false, false, false, false, false, false, false, false, false, false, false] vs := nr rfl
def hr183 (t2 : V) : List V := [.und, .und, t2, .und, .und, .und, .und, .und, .und, .und, .und, .und, .und, .und, .und, .und, .und, .und, .und, .und, .und, .und, .und, .und, .und, .und, .und]
noncomputable def en203 : Entry := ⟨Try.f203, [(0, [false, false, true, false, false, false, false, false, true, true, true, true, false, true, true, true, true, false, false, false, false, false, false, false, false, false, false, false, false, false, false, false, false, false, false, false, false, false, false, false, false, false, false, false, false, false, false, false, false, false, false, false, false, false, false, false, false, false, false, false, false, false, false, false, false, false, false, false, false, false, false, false, false, false, false, false, false, false, false, false, false, false, false, false, false, false, false, false, false, false, false, false, false, false, false, false, false, false, false, false, false, false, false, false, false, false, false, false, false, false, false, false, false, false, false, false, false, false, false, false, false, false, false, false, false, false, false, false, false, false, false, false, false, false, false]), (2, [false, false, true, false, false, false, false, false, true, true, true, false, false, false, true, true, true, true, true, false, false, false, false, false, false, false, false, false, false, false, false, false, false, false, false, false, false, false, false, false, false, false, false, false, false, false, false, false, false, false, false, false, false, false, false, false, false, false, false, false, false, false, false, false, false, false, false, false, false, false, false, false, false, false, false, false, false, false, false, false, false, false, false, false, false, false, false, false, false, false, false, false, false, false, false, false, false, false, false, false, false, false, false, false, false, false, false, false, false, false, false, false, false, false, false, false, false, false, false, false, false, false, false, false, false, false, false, false, false, false, false, false, false, false, false]), (1000001, [false, false, true, false, false, false, false, false, true, true, true, true, false, true, true, true, false, false, false, false, false, false, false, false, false, false, false, false, false, false, false, false, false, false, false, false, false, false, false, false, false, false, false, false, false, false, false, false, false, false, false, false, false, false, false, false, false, false, false, false, false, false, false, false, false, false, false, false, false, false, false, false, false, false, false, false, false, false, false, false, false, false, false, false, false, false, false, false, false, false, false, false, false, false, false, false, false, false, false, false, false, false, false, false, false, false, false, false, false, false, false, false, false, false, false, false, false, false, false, false, false, false, false, false, false, false, false, false, false, false, false, false, false, false, false]), (1000002, [false, false, true, false, false, false, false, false, true, true, true, true, false, true, true, true, true, false, false, false, false, false, false, false, false, false, false, false, false, false, false, false, false, false, false, false, false, false, false, false, false, false, false, false, false, false, false, false, false, false, false, false, false, false, false, false, false, false, false, false, false, false, false, false, false, false, false, false, false, false, false, false, false, false, false, false, false, false, false, false, false, false, false, false, false, false, false, false, false, false, false, false, false, false, false, false, false, false, false, false, false, false, false, false, false, false, false, false, false, false, false, false, false, false, false, false, false, false, false, false, false, false, false, false, false, false, false, false, false, false, false, false, false, false, false]), (1000003, [false, false, true, false, false, false, false, false, true, false, false, false, false, false, true, true, false, true, true, false, false, false, false, false, false, false, false, false, false, false, false, false, false, false, false, false, false, false, false, false, false, false, false, false, false, false, false, false, false, false, false, false, false, false, false, false, false, false, false, false, false, false, false, false, false, false, false, false, false, false, false, false, false, false, false, false, false, false, false, false, false, false, false, false, false, false, false, false, false, false, false, false, false, false, false, false, false, false, false, false, false, false, false, false, false, false, false, false, false, false, false, false, false, false, false, false, false, false, false, false, false, false, false, false, false, false, false, false, false, false, false, false, false, false, false]), (1000004, [false, false, true, false, false, false, false, false, true, true, true, false, false, false, true, true, true, true, true, false, false, false, false, false, false, false, false, false, false, false, false, false, false, false, false, false, false, false, false, false, false, false, false, false, false, false, false, false, false, false, false, false, false, false, false, false, false, false, false, false, false, false, false, false, false, false, false, false, false, false, false, false, false, false, false, false, false, false, false, false, false, false, false, false, false, false, false, false, false, false, false, false, false, false, false, false, false, false, false, false, false, false, false, false, false, false, false, false, false, false, false, false, false, false, false, false, false, false, false, false, false, false, false, false, false, false, false, false, false, false, false, false, false, false, false]), (1000000, [false, false, false, false, false, false, true, true, false, false, false, false, false, false, false, false, false, false, false, false, false, false, false, false, false, false, false, false, false, false, false, false, false, false, false, false, false, false, false, false, false, false, false, false, false, false, false, false, false, false, false, false, false, false, false, false, false, false, false, false, false, false, false, false, false, false, false, false, false, false, false, false, false, false, false, false, false, false, false, false, false, false, false, false, false, false, false, false, false, false, false, false, false, false, false, false, false, false, false, false, false, false, false, false, false, false, false, false, false, false, false, false, false, false, false, false, false, false, false, false, false, false, false, false, false, false, false, false, false, false, false, false, false, false, false])]⟩
theorem dw203_6 (lv : Nat) (env : List V) (st : Store) (o : Option (List V × Store)) : drawR en203.ms 6 lv env st o = if lv < 1000000000000000000000000000000 then (o) else none := nr rfl
theorem kl203_6 (lv : Nat) (st : Store) : killR en203.ms 6 lv st = st := nr rfl
theorem nc203_6 : ncOf en203.ms 6 = false := nr rfl
theorem mk203_0 (vs : List V) : mask (maskOf en203.ms 0) vs = mask [false, false, true, false, false, false, false, false, true, true, true, true, false, true, true, true, true, false, false, false, false, false, false, false, false, false, false, false, false, false, false, false, false, false, false, false, false, false, false, false, false, false, false, false, false, false, false, false, false, false, false, false, false, false, false, false, false, false, false, false, false, false, false, false, false, false, false, false, false, false, false, false, false, false, false, false, false, false, false, false, false, false, false, false, false, false, false, false, false, false, false, false, false, false, false, false, false, false, false, false, false, false, false, false, false, false, false, false, false, false, false, false, false, false, false, false, false, false, false, false, false, false, false, false, false, false, false, false, false, false, false, false, false, false, false] vs := nr rfl
theorem mk203_2 (vs : List V) : mask (maskOf en203.ms 2) vs = mask [false, false, true, false, false, false, false, false, true, true, true, false, false, false, true, true, true, true, true, false, false, false, false, false, false, false, false, false, false, false, false, false, false, false, false, false, false, false, false, false, false, false, false, false, false, false, false, false, false, false, false, false, false, false, false, false, false, false, false, false, false, false, false, false, false, false, false, false, false, false, false, false, false, false, false, false, false, false, false, false, false, false, false, false, false, false, false, false, false, false, false, false, false, false, false, false, false, false, false, false, false, false, false, false, false, false, false, false, false, false, false, false, false, false, false, false, false, false, false, false, false, false, false, false, false, false, false, false, false, false, false, false, false, false, false] vs := nr rfl
theorem mk203_1000001 (vs : List V) : mask (maskOf en203.ms 1000001) vs = mask [false, false, true, false, false, false, false, false, true, true, true, true, false, true, true, true, false, false, false, false, false, false, false, false, false, false, false, false, false, false, false, false, false, false, false, false, false, false, false, false, false, false, false, false, false, false, false, false, false, false, false, false, false, false, false, false, false, false, false, false, false, false, false, false, false, false, false, false, false, false, false, false, false, false, false, false, false, false, false, false, false, false, false, false, false, false, false, false, false, false, false, false, false, false, false, false, false, false, false, false, false, false, false, false, false, false, false, false, false, false, false, false, false, false, false, false, false, false, false, false, false, false, false, false, false, false, false, false, false, false, false, false, false, false, false] vs := nr rfl
theorem mk203_1000002 (vs : List V) : mask (maskOf en203.ms 1000002) vs = mask [false, false, true, false, false, false, false, false, true, true, true, true, false, true, true, true, true, false, false, false, false, false, false, false, false, false, false, false, false, false, false, false, false, false, false, false, false, false, false, false, false, false, false, false, false, false, false, false, false, false, false, false, false, false, false, false, false, false, false, false, false, false, false, false, false, false, false, false, false, false, false, false, false, false, false, false, false, false, false, false, false, false, false, false, false, false, false, false, false, false, false, false, false, false, false, false, false, false, false, false, false, false, false, false, false, false, false, false, false, false, false, false, false, false, false, false, false, false, false, false, false, false, false, false, false, false, false, false, false, false, false, false, false, false, false] vs := nr rfl
theorem mk203_1000003 (vs : List V) : mask (maskOf en203.ms 1000003) vs = mask [false, false, true, false, false, false, false, false, true, false, false, false, false, false, true, true, false, true, true, false, false, false, false, false, false, false, false, false, false, false, false, false, false, false, false, false, false, false, false, false, false, false, false, false, false, false, false, false, false, false, false, false, false, false, false, false, false, false, false, false, false, false, false, false, false, false, false, false, false, false, false, false, false, false, false, false, false, false, false, false, false, false, false, false, false, false, false, false, false, false, false, false, false, false, false, false, false, false, false, false, false, false, false, false, false, false, false, false, false, false, false, false, false, false, false, false, false, false, false, false, false, false, false, false, false, false, false, false, false, false, false, false, false, false, false] vs := nr rfl
theorem mk203_1000004 (vs : List V) : mask (maskOf en203.ms 1000004) vs = mask [false, false, true, false, false, false, false, false, true, true, true, false, false, false, true, true, true, true, true, false, false, false, false, false, false, false, false, false, false, false, false, false, false, false, false, false, false, false, false, false, false, false, false, false, false, false, false, false, false, false, false, false, false, false, false, false, false, false, false, false, false, false, false, false, false, false, false, false, false, false, false, false, false, false, false, false, false, false, false, false, false, false, false, false, false, false, false, false, false, false, false, false, false, false, false, false, false, false, false, false, false, false, false, false, false, false, false, false, false, false, false, false, false, false, false, false, false, false, false, false, false, false, false, false, false, false, false, false, false, false, false, false, false, false, false] vs := nr rfl
theorem mk203_1000000 (vs : List V) : mask (maskOf en203.ms 1000000) vs = mask [false, false, false, false, false, false, true, true, false, false, false, false, false, false, false, false, false, false, false, false, false, false, false, false, false, false, false, false, false, false, false, false, false, false, false, false, false, false, false, false, false, false, false, false, false, false, false, false, false, false, false, false, false, false, false, false, false, false, false, false, false, false, false, false, false, false, false, false, false, false, false, false, false, false, false, false, false, false, false, false, false, false, false, false, false, false, false, false, false, false, false, false, false, false, false, false, false, false, false, false, false, false, false, false, false, false, false, false, false, false, false, false, false, false, false, false, false, false, false, false, false, false, false, false, false, false, false, false, false, false, false, false, false, false, false] vs := nr rfl
noncomputable def lb203_0 : Code := loopN Try.f203 0
theorem fi203_0 (lv : Nat) (env : List V) (st : Store) (q : Store → Out) : frzI en203.ms lv 0 env st q = q st := nr rfl
def hd203_0 (t2 t8 t9 t10 t11 t13 t14 t15 t16 : V) : List V := [.und, .und, t2, .und, .und, .und, .und, .und, t8, t9, t10, t11, .und, t13, t14, t15, t16, .und, .und, .und, .und, .und, .und, .und, .und, .und, .und, .und, .und, .und, .und, .und, .und, .und, .und, .und, .und, .und, .und, .und, .und, .und, .und, .und, .und, .und, .und, .und, .und, .und, .und, .und, .und, .und, .und, .und, .und, .und, .und, .und, .und, .und, .und, .und, .und, .und, .und, .und, .und, .und, .und, .und, .und, .und, .und, .und, .und, .und, .und, .und, .und, .und, .und, .und, .und, .und, .und, .und, .und, .und, .und, .und, .und, .und, .und, .und, .und, .und, .und, .und, .und, .und, .und, .und, .und, .und, .und, .und, .und, .und, .und, .und, .und, .und, .und, .und, .und, .und, .und, .und, .und, .und, .und, .und, .und, .und, .und, .und, .und, .und, .und, .und, .und, .und, .und]
noncomputable def lb203_2 : Code := loopN Try.f203 1
theorem fi203_2 (lv : Nat) (env : List V) (st : Store) (q : Store → Out) : frzI en203.ms lv 2 env st q = q st := nr rfl
def hd203_2 (t2 t8 t9 t10 t14 t15 t16 t17 t18 : V) : List V := [.und, .und, t2, .und, .und, .und, .und, .und, t8, t9, t10, .und, .und, .und, t14, t15, t16, t17, t18, .und, .und, .und, .und, .und, .und, .und, .und, .und, .und, .und, .und, .und, .und, .und, .und, .und, .und, .und, .und, .und, .und, .und, .und, .und, .und, .und, .und, .und, .und, .und, .und, .und, .und, .und, .und, .und, .und, .und, .und, .und, .und, .und, .und, .und, .und, .und, .und, .und, .und, .und, .und, .und, .und, .und, .und, .und, .und, .und, .und, .und, .und, .und, .und, .und, .und, .und, .und, .und, .und, .und, .und, .und, .und, .und, .und, .und, .und, .und, .und, .und, .und, .und, .und, .und, .und, .und, .und, .und, .und, .und, .und, .und, .und, .und, .und, .und, .und, .und, .und, .und, .und, .und, .und, .und, .und, .und, .und, .und, .und, .und, .und, .und, .und, .und, .und]
def hx203_0 (t2 t8 t9 t10 t11 t13 t14 t15 : V) : List V := [.und, .und, t2, .und, .und, .und, .und, .und, t8, t9, t10, t11, .und, t13, t14, t15, .und, .und, .und, .und, .und, .und, .und, .und, .und, .und, .und, .und, .und, .und, .und, .und, .und, .und, .und, .und, .und, .und, .und, .und, .und, .und, .und, .und, .und, .und, .und, .und, .und, .und, .und, .und, .und, .und, .und, .und, .und, .und, .und, .und, .und, .und, .und, .und, .und, .und, .und, .und, .und, .und, .und, .und, .und, .und, .und, .und, .und, .und, .und, .und, .und, .und, .und, .und, .und, .und, .und, .und, .und, .und, .und, .und, .und, .und, .und, .und, .und, .und, .und, .und, .und, .und, .und, .und, .und, .und, .und, .und, .und, .und, .und, .und, .und, .und, .und, .und, .und, .und, .und, .und, .und, .und, .und, .und, .und, .und, .und, .und, .und, .und, .und, .und, .und, .und, .und]
def hx203_1 (t2 t8 t9 t10 t11 t13 t14 t15 t16 : V) : List V := [.und, .und, t2, .und, .und, .und, .und, .und, t8, t9, t10, t11, .und, t13, t14, t15, t16, .und, .und, .und, .und, .und, .und, .und, .und, .und, .und, .und, .und, .und, .und, .und, .und, .und, .und, .und, .und, .und, .und, .und, .und, .und, .und, .und, .und, .und, .und, .und, .und, .und, .und, .und, .und, .und, .und, .und, .und, .und, .und, .und, .und, .und, .und, .und, .und, .und, .und, .und, .und, .und, .und, .und, .und, .und, .und, .und, .und, .und, .und, .und, .und, .und, .und, .und, .und, .und, .und, .und, .und, .und, .und, .und, .und, .und, .und, .und, .und, .und, .und, .und, .und, .und, .und, .und, .und, .und, .und, .und, .und, .und, .und, .und, .und, .und, .und, .und, .und, .und, .und, .und, .und, .und, .und, .und, .und, .und, .und, .und, .und, .und, .und, .und, .und, .und, .und]
def hx203_2 (t2 t8 t14 t15 t17 t18 : V) : List V := [.und, .und, t2, .und, .und, .und, .und, .und, t8, .und, .und, .und, .und, .und, t14, t15, .und, t17, t18, .und, .und, .und, .und, .und, .und, .und, .und, .und, .und, .und, .und, .und, .und, .und, .und, .und, .und, .und, .und, .und, .und, .und, .und, .und, .und, .und, .und, .und, .und, .und, .und, .und, .und, .und, .und, .und, .und, .und, .und, .und, .und, .und, .und, .und, .und, .und, .und, .und, .und, .und, .und, .und, .und, .und, .und, .und, .und, .und, .und, .und, .und, .und, .und, .und, .und, .und, .und, .und, .und, .und, .und, .und, .und, .und, .und, .und, .und, .und, .und, .und, .und, .und, .und, .und, .und, .und, .und, .und, .und, .und, .und, .und, .und, .und, .und, .und, .und, .und, .und, .und, .und, .und, .und, .und, .und, .und, .und, .und, .und, .und, .und, .und, .und, .und, .und]
def hx203_3 (t2 t8 t9 t10 t14 t15 t16 t17 t18 : V) : List V := [.und, .und, t2, .und, .und, .und, .und, .und, t8, t9, t10, .und, .und, .und, t14, t15, t16, t17, t18, .und, .und, .und, .und, .und, .und, .und, .und, .und, .und, .und, .und, .und, .und, .und, .und, .und, .und, .und, .und, .und, .und, .und, .und, .und, .und, .und, .und, .und, .und, .und, .und, .und, .und, .und, .und, .und, .und, .und, .und, .und, .und, .und, .und, .und, .und, .und, .und, .und, .und, .und, .und, .und, .und, .und, .und, .und, .und, .und, .und, .und, .und, .und, .und, .und, .und, .und, .und, .und, .und, .und, .und, .und, .und, .und, .und, .und, .und, .und, .und, .und, .und, .und, .und, .und, .und, .und, .und, .und, .und, .und, .und, .und, .und, .und, .und, .und, .und, .und, .und, .und, .und, .und, .und, .und, .und, .und, .und, .und, .und, .und, .und, .und, .und, .und, .und]
def hr203 (t6 t7 : V) : List V := [.und, .und, .und, .und, .und, .und, t6, t7, .und, .und, .und, .und, .und, .und, .und, .und, .und, .und, .und, .und, .und, .und, .und, .und, .und, .und, .und, .und, .und, .und, .und, .und, .und, .und, .und, .und, .und, .und, .und, .und, .und, .und, .und, .und, .und, .und, .und, .und, .und, .und, .und, .und, .und, .und, .und, .und, .und, .und, .und, .und, .und, .und, .und, .und, .und, .und, .und, .und, .und, .und, .und, .und, .und, .und, .und, .und, .und, .und, .und, .und, .und, .und, .und, .und, .und, .und, .und, .und, .und, .und, .und, .und, .und, .und, .und, .und, .und, .und, .und, .und, .und, .und, .und, .und, .und, .und, .und, .und, .und, .und, .und, .und, .und, .und, .und, .und, .und, .und, .und, .und, .und, .und, .und, .und, .und, .und, .und, .und, .und, .und, .und, .und, .und, .und, .und]
noncomputable def en225 : Entry := ⟨Try.f225, [(1000000, [false, false, true, false, false, false, false, false, false, false, false, false, false, false, false, false, false, false, false, false, false, false, false, false, false])]⟩
theorem mk225_1000000 (vs : List V) : mask (maskOf en225.ms 1000000) vs = mask [false, false, true, false, false, false, false, false, false, false, false, false, false, false, false, false, false, false, false, false, false, false, false, false, false] vs := nr rfl
def hr225 (t2 : V) : List V := [.und, .und, t2, .und, .und, .und, .und, .und, .und, .und, .und, .und, .und, .und, .und, .und, .und, .und, .und, .und, .und, .und, .und, .und, .und]
noncomputable def en244 : Entry := ⟨Try.f244, [(1000000, [false, false, true, false, false, false])]⟩
theorem mk244_1000000 (vs : List V) : mask (maskOf en244.ms 1000000) vs = mask [false, false, true, false, false, false] vs := nr rfl
def hr244 (t2 : V) : List V := [.und, .und, t2, .und, .und, .und]
theorem mixed : Try.prog.follows .mixedOrders = true := by kernel_rfl
end Go.Proofs.Ytnojehmbiceceaa.FxNum
end
section
set_option linter.unusedVariables false
set_option linter.unusedSimpArgs false
namespace Go.Ari
open Go.Ev
/-! ### words -/
theorem wu (n : Int) : IntKind.u64.wrap n = n % 18446744073709551616 := by simp [IntKind.wrap, IntKind.bits, IntKind.signed]
theorem wu_in {n : Int} (h0 : 0 ≤ n) (h : n < 18446744073709551616) : IntKind.u64.wrap n = n := by rw [wu]; omega
theorem wi (n : Int) : IntKind.i64.wrap n = (n + 9223372036854775808) % 18446744073709551616 - 9223372036854775808 := IntKind.wrap_i64 n
theorem wi_in {n : Int} (h0 : -9223372036854775808 ≤ n) (h : n < 9223372036854775808) : IntKind.i64.wrap n = n := by rw [wi]; omega
theorem wu_bits (o : BinOp) (x y : Int) : 0 ≤ bitsI o .u64 x y ∧ bitsI o .u64 x y < 18446744073709551616 := by unfold bitsI; split <;> rw [wu] <;> omega
theorem shr_lit (k : IntKind) (x : Int) (n : Nat) (hn : n ≤ k.bits) : shrI k x n = x / ((2 ^ n : Nat) : Int) := by
  unfold shrI
  rw [Int.toNat_natCast, Nat.min_eq_left hn, Int.fdiv_eq_ediv_of_nonneg _ (Int.pow_nonneg (by omega)), Int.natCast_pow]
  rfl
theorem shl_lit (k : IntKind) (x : Int) (n : Nat) (hn : n ≤ k.bits) : shlI k x n = k.wrap (x * ((2 ^ n : Nat) : Int)) := by
  unfold shlI
  rw [Int.toNat_natCast, Nat.min_eq_left hn, Int.natCast_pow]
  rfl
theorem shr32 (x : Int) : shrI .u64 x 32 = x / 4294967296 := shr_lit .u64 x 32 (by decide)
theorem shr1 (x : Int) : shrI .u64 x 1 = x / 2 := shr_lit .u64 x 1 (by decide)
theorem and32 (z : Int) (h0 : 0 ≤ z) (h1 : z < 18446744073709551616) : bitsI .and .u64 z 4294967295 = z % 4294967296 := and_low32 z h0 h1
theorem wraps_u64 (n : Int) (h₀ : 0 ≤ n) (h₁ : n < 2 ^ 64) : IntKind.u64.wrap n = n := wu_in h₀ (by simpa using h₁)
/-- Two parts of a word that do not meet. -/
theorem or_add {x y p : Int} (i : Nat) (hp : p = ((2 ^ i : Nat) : Int)) (hx0 : 0 ≤ x) (hx : x < 18446744073709551616) (hm : x % p = 0) (hy0 : 0 ≤ y) (hy : y < p) (hy1 : y < 18446744073709551616) : bitsI .or .u64 x y = x + y := by
  subst hp
  have e : ((2 ^ i : Nat) : Int) = (2 : Int) ^ i := by rw [Int.natCast_pow]; rfl
  rw [e] at hm hy
  exact bits_join .u64 64 (by decide) wraps_u64 i x y hx0 hm (by simpa using hx) hy0 hy (by simpa using hy1)
theorem not_u64 {x : Int} (h0 : 0 ≤ x) (h1 : x < 18446744073709551616) : bitsI .xor .u64 18446744073709551615 x = 18446744073709551615 - x := by
  have e : bitsI .xor .u64 18446744073709551615 x = IntKind.u64.wrap ((BitVec.ofInt 64 18446744073709551615 ^^^ BitVec.ofInt 64 x).toNat : Nat) := rfl
  have a : BitVec.ofInt 64 18446744073709551615 = BitVec.allOnes 64 := by decide
  rw [e, a, BitVec.allOnes_xor, BitVec.toNat_not, BitVec.toNat_ofInt]
  have b : (x % ((2 ^ 64 : Nat) : Int)).toNat = x.toNat := by
    have : ((2 ^ 64 : Nat) : Int) = 18446744073709551616 := by decide
    rw [this]; omega
  rw [b, wu_in]
  · have : (2 : Nat) ^ 64 = 18446744073709551616 := by decide
    omega
  · omega
  · have : (2 : Nat) ^ 64 = 18446744073709551616 := by decide
    omega
/-- The high word of a product, as the library computes it. -/
theorem mul_hi {x y : Int} (hx0 : 0 ≤ x) (hx : x < 18446744073709551616) (hy0 : 0 ≤ y) (hy : y < 18446744073709551616) :
    IntKind.u64.wrap (IntKind.u64.wrap (IntKind.u64.wrap (shrI .u64 x 32 * shrI .u64 y 32) + shrI .u64 (IntKind.u64.wrap (IntKind.u64.wrap (shrI .u64 x 32 * bitsI .and .u64 y 4294967295) + shrI .u64 (IntKind.u64.wrap (bitsI .and .u64 x 4294967295 * bitsI .and .u64 y 4294967295)) 32)) 32) +
      shrI .u64 (IntKind.u64.wrap (bitsI .and .u64 (IntKind.u64.wrap (IntKind.u64.wrap (shrI .u64 x 32 * bitsI .and .u64 y 4294967295) + shrI .u64 (IntKind.u64.wrap (bitsI .and .u64 x 4294967295 * bitsI .and .u64 y 4294967295)) 32)) 4294967295 + IntKind.u64.wrap (bitsI .and .u64 x 4294967295 * shrI .u64 y 32))) 32) = x * y / 18446744073709551616 := by
  have m := mul64_arith x y hx0 hx hy0 hy
  simp only [shr32, and32 x hx0 hx, and32 y hy0 hy, wu]
  rw [and32 _ (by omega) (by omega)]
  exact m
theorem hi_lt {x y : Int} (hx0 : 0 ≤ x) (hx : x < 18446744073709551616) (hy0 : 0 ≤ y) (hy : y < 18446744073709551616) : 0 ≤ x * y ∧ x * y / 18446744073709551616 < 18446744073709551616 := by
  have h : x * y ≤ 18446744073709551615 * 18446744073709551615 := Int.mul_le_mul (by omega) (by omega) hy0 (by omega)
  have h0 := Int.mul_nonneg hx0 hy0
  omega
/-- Two words compared as one number. -/
theorem words_le {a b : Int} : (a / 18446744073709551616 < b / 18446744073709551616 ∨ (a / 18446744073709551616 = b / 18446744073709551616 ∧ a % 18446744073709551616 ≤ b % 18446744073709551616)) ↔ a ≤ b := by omega
theorem words_eq {a b : Int} : (a / 18446744073709551616 = b / 18446744073709551616 ∧ a % 18446744073709551616 = b % 18446744073709551616) ↔ a = b := by omega
/-! ### roots -/
def IsRoot (r n : Int) : Prop := 0 ≤ r ∧ r * r ≤ n ∧ n < (r + 1) * (r + 1)
theorem sq_le {a b : Int} (h0 : 0 ≤ a) (h : a ≤ b) : a * a ≤ b * b := Int.mul_le_mul h h h0 (by omega)
theorem sq_lt {a b : Int} (h0 : 0 ≤ a) (h : a * a < b * b) (hb : 0 ≤ b) : a < b := by
  refine Int.lt_of_not_ge fun hc => ?_
  have := sq_le hb hc
  omega
theorem root_unique {r s n : Int} (h : IsRoot r n) (h' : IsRoot s n) : r = s := by
  obtain ⟨a1, a2, a3⟩ := h
  obtain ⟨b1, b2, b3⟩ := h'
  have := sq_lt (a := r) (b := s + 1) a1 (by omega) (by omega)
  have := sq_lt (a := s) (b := r + 1) b1 (by omega) (by omega)
  omega
open Classical in
noncomputable def isqrt (n : Int) : Int := if h : ∃ r, IsRoot r n then h.choose else 0
theorem isqrt_eq {r n : Int} (h : IsRoot r n) : isqrt n = r := by
  have hx : ∃ r, IsRoot r n := ⟨r, h⟩
  unfold isqrt
  rw [dif_pos hx]
  exact root_unique hx.choose_spec h
theorem root_ex (n : Nat) : ∃ r, IsRoot r n := by
  induction n with
  | zero => exact ⟨0, by simp [IsRoot]⟩
  | succ n ih =>
    obtain ⟨r, h0, h1, h2⟩ := ih
    by_cases h : ((n + 1 : Nat) : Int) < (r + 1) * (r + 1)
    · exact ⟨r, h0, by omega, h⟩
    · refine ⟨r + 1, by omega, by omega, ?_⟩
      have e : (r + 1 + 1) * (r + 1 + 1) = (r + 1) * (r + 1) + 2 * r + 3 := by
        rw [Int.mul_add, Int.add_mul, Int.mul_one, Int.one_mul]; omega
      omega
theorem isqrt_spec {n : Int} (h : 0 ≤ n) : IsRoot (isqrt n) n := by
  obtain ⟨k, rfl⟩ := Int.eq_ofNat_of_zero_le h
  obtain ⟨r, hr⟩ := root_ex k
  rw [isqrt_eq hr]
  exact hr
/-! ### long division -/
/-- One digit of a long division: an estimate that is too large by two at most is brought down. -/
theorem below_top {U y u1 : Int} (hU : U < y) (hu : u1 < 4294967296) (hU0 : 0 ≤ U) (h0 : 0 ≤ u1) (hy : 0 < y) : 0 ≤ (U * 4294967296 + u1) / y ∧ (U * 4294967296 + u1) / y < 4294967296 := by
  refine ⟨Int.ediv_nonneg (by omega) (by omega), Int.ediv_lt_of_lt_mul hy ?_⟩
  have : (U + 1) * 4294967296 ≤ y * 4294967296 := Int.mul_le_mul_of_nonneg_right (by omega) (by omega)
  have e : y * 4294967296 = 4294967296 * y := Int.mul_comm _ _
  omega
theorem prod_split (q y1 y0 : Int) : q * (y1 * 4294967296 + y0) = q * y1 * 4294967296 + q * y0 := by rw [Int.mul_add, Int.mul_assoc]
/-- The digit is less than an estimate that fails the test. -/
theorem digit_down {U y1 y0 u1 q r : Int} (hr : r = U - q * y1) (hU : U < y1 * 4294967296 + y0) (hu : u1 < 4294967296) (hU0 : 0 ≤ U) (h0 : 0 ≤ u1) (hy : 0 < y1 * 4294967296 + y0)
    (hc : 4294967296 ≤ q ∨ 4294967296 * r + u1 < q * y0) : (U * 4294967296 + u1) / (y1 * 4294967296 + y0) ≤ q - 1 := by
  rcases hc with h | h
  · have := (below_top hU hu hU0 h0 hy).2; omega
  · have : (U * 4294967296 + u1) / (y1 * 4294967296 + y0) < q := by
      refine Int.ediv_lt_of_lt_mul hy ?_
      have e := prod_split q y1 y0
      omega
    omega
/-- An estimate that passes the test is the digit. -/
theorem digit_done {U y1 y0 u1 q r : Int} (hr : r = U - q * y1) (hy : 0 < y1 * 4294967296 + y0) (hq : (U * 4294967296 + u1) / (y1 * 4294967296 + y0) ≤ q)
    (hc : q * y0 ≤ 4294967296 * r + u1) : q = (U * 4294967296 + u1) / (y1 * 4294967296 + y0) := by
  have : q ≤ (U * 4294967296 + u1) / (y1 * 4294967296 + y0) := by
    refine (Int.le_ediv_iff_mul_le hy).2 ?_
    have e := prod_split q y1 y0
    omega
  omega
theorem small_prod {q y0 : Int} (hq : q ≤ 4294967296) (h0 : 0 ≤ q) (hy : y0 < 4294967296) (hy0 : 0 ≤ y0) : q * y0 ≤ 4294967296 * 4294967295 := 
  Int.mul_le_mul hq (by omega) hy0 (by omega)
theorem digit_break {U y1 y0 u1 q r : Int} (hr : r = U - q * y1) (hy : 0 < y1 * 4294967296 + y0) (hq : (U * 4294967296 + u1) / (y1 * 4294967296 + y0) ≤ q)
    (h4 : 4294967296 ≤ r) (hq1 : q ≤ 4294967296) (hq0 : 0 ≤ q) (hy0 : y0 < 4294967296) (hy00 : 0 ≤ y0) (h0 : 0 ≤ u1) : q = (U * 4294967296 + u1) / (y1 * 4294967296 + y0) := by
  have := small_prod hq1 hq0 hy0 hy00
  exact digit_done hr hy hq (by omega)
/-- The first estimate. -/
theorem digit_first {U y1 y0 u1 : Int} (hU : U < y1 * 4294967296 + y0) (hU0 : 0 ≤ U) (hy1 : 2147483648 ≤ y1) (hy0 : y0 < 4294967296) (h00 : 0 ≤ y0) (hu : u1 < 4294967296) (h0 : 0 ≤ u1) :
    (U * 4294967296 + u1) / (y1 * 4294967296 + y0) ≤ U / y1 ∧ U / y1 ≤ 4294967297 ∧ 0 ≤ U / y1 ∧ 0 ≤ U - U / y1 * y1 ∧ U - U / y1 * y1 < y1 := by
  have e1 := Int.mul_ediv_add_emod U y1
  have e2 := Int.emod_nonneg U (show y1 ≠ 0 by omega)
  have e3 := Int.emod_lt_of_pos U (show 0 < y1 by omega)
  have e4 : y1 * (U / y1) = U / y1 * y1 := Int.mul_comm _ _
  refine ⟨?_, ?_, Int.ediv_nonneg hU0 (by omega), by omega, by omega⟩
  · rw [Int.le_ediv_iff_mul_le (show 0 < y1 by omega)]
    have e5 := Int.ediv_mul_le (U * 4294967296 + u1) (show y1 * 4294967296 + y0 ≠ 0 by omega)
    have e6 := prod_split ((U * 4294967296 + u1) / (y1 * 4294967296 + y0)) y1 y0
    have e7 : 0 ≤ (U * 4294967296 + u1) / (y1 * 4294967296 + y0) * y0 := Int.mul_nonneg (below_top hU hu hU0 h0 (by omega)).1 h00
    omega
  · have : U / y1 < 4294967298 := Int.ediv_lt_of_lt_mul (by omega) (by omega)
    omega
/-- What two digits of a quotient are. -/
theorem two_digits {U u1 u0 y : Int} (hy : 0 < y) (hu : u0 < 4294967296) (h0 : 0 ≤ u0) :
    let q1 := (U * 4294967296 + u1) / y
    let r1 := U * 4294967296 + u1 - q1 * y
    let q0 := (r1 * 4294967296 + u0) / y
    q1 * 4294967296 + q0 = (U * 18446744073709551616 + u1 * 4294967296 + u0) / y ∧ r1 * 4294967296 + u0 - q0 * y = (U * 18446744073709551616 + u1 * 4294967296 + u0) % y ∧ 0 ≤ r1 ∧ r1 < y := by
  intro q1 r1 q0
  have a1 := Int.mul_ediv_add_emod (U * 4294967296 + u1) y
  have a2 := Int.emod_nonneg (U * 4294967296 + u1) (show y ≠ 0 by omega)
  have a3 := Int.emod_lt_of_pos (U * 4294967296 + u1) hy
  have b1 := Int.mul_ediv_add_emod (r1 * 4294967296 + u0) y
  have b2 := Int.emod_nonneg (r1 * 4294967296 + u0) (show y ≠ 0 by omega)
  have b3 := Int.emod_lt_of_pos (r1 * 4294967296 + u0) hy
  have c1 : y * ((U * 4294967296 + u1) / y) = q1 * y := Int.mul_comm _ _
  have c2 : y * ((r1 * 4294967296 + u0) / y) = q0 * y := Int.mul_comm _ _
  have c3 : (q1 * 4294967296 + q0) * y = q1 * y * 4294967296 + q0 * y := by rw [Int.add_mul, Int.mul_right_comm]
  have hd : U * 18446744073709551616 + u1 * 4294967296 + u0 = (r1 * 4294967296 + u0 - q0 * y) + (q1 * 4294967296 + q0) * y := by
    simp only [r1] at *
    omega
  have hlo : 0 ≤ r1 * 4294967296 + u0 - q0 * y := by omega
  have hhi : r1 * 4294967296 + u0 - q0 * y < y := by omega
  refine ⟨?_, ?_, by omega, by omega⟩
  · rw [hd, Int.add_mul_ediv_right _ _ (by omega), Int.ediv_eq_zero_of_lt hlo hhi]; omega
  · rw [hd, Int.add_mul_emod_self_right, Int.emod_eq_of_lt hlo hhi]
/-- Both numbers multiplied: the quotient stays, the remainder is multiplied. -/
theorem scale_div (n y s : Int) (hs : 0 < s) : (n * s) / (y * s) = n / y ∧ (n * s) % (y * s) = n % y * s := by
  refine ⟨Int.mul_ediv_mul_of_pos_left _ _ hs, ?_⟩
  rw [Int.mul_comm n s, Int.mul_comm y s, Int.mul_emod_mul_of_pos _ _ hs, Int.mul_comm]
end Go.Ari
end
section
set_option linter.unusedVariables false
set_option linter.unusedSimpArgs false
set_option maxRecDepth 100000
namespace Go.Proofs.Ytnojehmbiceceaa.Num1Num
open Go.Ev Go.Ari Go.Proofs.Ytnojehmbiceceaa.FxNum
attribute [local go_sem] Ev.putR_s Ev.putR_0 Ev.thenO_s Ev.thenO_0 Ev.seqR_n Ev.seqR_e Ev.seqR_r Ev.seqR_0 Ev.blkR_e Ev.blkR_n Ev.blkR_r Ev.blkR_0 Ev.normR_s Ev.normR_0 Ev.outR_r Ev.outR_n Ev.outR_0 Ev.retS_s Ev.retS_0 Ev.pureO_s Ev.pureO_0 Ev.topR_0 Ev.topR_t Ev.topR_t0 Ev.oneL_0 Ev.oneL_s Ev.topR_d Ev.topR_nils Ev.topR_agg Ev.topR_rs Ev.evOp_move Ev.evOp_assign Ev.evOp_pick Ev.evOp_alloc Ev.evOp_box Ev.evOp_build Ev.evOp_buildSlice Ev.evOp_load Ev.evOp_store Ev.evOp_makeMap Ev.evOp_lookup Ev.evOp_mapUpdate Ev.evOp_insert Ev.evOp_nilCheck Ev.evOp_binOp Ev.evOp_unOp Ev.evOp_convert Ev.evOp_makeFunc Ev.evOp_makeSlice Ev.evOp_slice Ev.evOp_fieldAddr Ev.evOp_field Ev.evOp_indexAddr Ev.evOp_index Ev.evOp_extract Ev.evOp_call Ev.evOp_append Ev.evOp_clear Ev.evOp_len Ev.evOp_min Ev.evOp_max Ev.condR_b Ev.condR_t Ev.evOps_nil Ev.evOps_plain Ev.evOps_guard Ev.runG_eq Ev.skipG_eq Ev.condL_tt Ev.condL_ff Ev.condL_tf Ev.condL_ft Ev.condL_u Ev.condC_t Ev.condC_f Ev.evC_skip Ev.evC_ret Ev.evC_exit Ev.evC_label Ev.evC_region Ev.evC_draw Ev.evC_seq Ev.evC_cond Ev.evC_block Ev.evC_loop Ev.fin_d Ev.fin_nils Ev.fin_agg_ Ev.fin_rs Ev.finS_s Ev.mapO_fin Ev.upd_upd Ev.argv_d Ev.argv_nils Ev.argv_agg Ev.argv_rs Ev.argv_p Ev.fk_low Ev.appendTo_nils Ev.appendTo_rs Ev.consV_d Ev.consV_agg Ev.consV_p Ev.consV_rs Ev.consV_nils Ev.consV_fn Ev.consV_und Ev.consV_jk Ev.consV_grown Ev.topR_grown Ev.len_grown Ev.consV_mp Ev.sameK_i Ev.sameK_s Ev.mget_0 Ev.mget_hit Ev.mget_miss Ev.mput_0 Ev.mput_hit Ev.mput_miss Ev.apartAll Ev.apartL Ev.apartV Ev.freeAll Ev.sel Ev.keyOfV Ev.evLookup Ev.evPut Ev.hintOk Ev.keyOk Ev.consP Ev.lookV Ev.guardV Ev.dstAt Ev.evPure Ev.evStore Ev.evPureB Ev.evBin Ev.evBinO Ev.evNil Ev.isNilC Ev.evUn Ev.evConv Ev.evSlice Ev.optI Ev.lenV Ev.elemT Ev.foldI Ev.capsOk Ev.noTup Ev.nth Ev.setN Ev.killAt Ev.pad Ev.V.get Ev.V.put Ev.putD Ev.hasT Ev.newBlk Ev.upd Ev.keq Ev.empty Ev.evCall Ev.V.args Ev.argP Ev.callOf Ev.evNilP Ev.isNilP Ev.look Ev.V.view.views Ev.V.view Ev.V.toD Ev.V.toD.V.toDs Ev.V.pure.pures Ev.V.pure Ev.D.flat.flats Ev.D.flat Ev.mkAgg Ev.allD Ev.aggParts Ev.setParts Ev.setElems Ev.getPath Ev.setPath Ev.subL Ev.eqD Ev.eqD.eqDs Ev.and2 Ev.strCut Ev.evalT Ev.constT Ev.evArgs Ev.mask Ev.maskOf Ev.tableOf Ev.compT Ev.resV Ev.retV Ev.mapO Ev.elemsOf Int.cast_ofNat_Int IntWalk.i64_in IntWalk.u64_in IntWalk.u8_in beq_self_eq_true Bool.true_beq Bool.false_beq Bool.and_true Bool.true_and Bool.false_and Bool.and_false Bool.and_self Bool.not_true Bool.not_false Bool.not_eq_true cond_true cond_false if_true if_false and_true true_and and_self decide_true decide_false Bool.or_true Bool.true_or Bool.or_false Bool.false_or List.isEmpty List.isEmpty_nil List.size_toArray List.map List.length_map List.length_cons List.length_nil Option.map Option.bind Option.getD Option.isSome List.replicate Bool.false_eq_true implies_true false_implies forall_const Array.toList Array.isEmpty List.append List.nil_append List.cons_append List.drop_zero List.take_length List.take_succ_cons List.take_zero List.take_nil List.getElem?_map List.getElem?_cons_zero List.getElem?_cons_succ List.getElem?_nil List.append_nil
attribute [local go_sem] FxNum.tk2 FxNum.ik2 FxNum.zv2 FxNum.tk3 FxNum.ik3 FxNum.zv3 FxNum.tk4 FxNum.ub4 FxNum.zv4 FxNum.tk5 FxNum.ik5 FxNum.zv5 FxNum.tk9 FxNum.ek9 FxNum.tk27 FxNum.ik27 FxNum.zv27 FxNum.tk133 FxNum.ik133 FxNum.zv133 FxNum.tk147 FxNum.ik147 FxNum.zv147 FxNum.tk176 FxNum.ct176 FxNum.zv176 FxNum.tk295 FxNum.mk66_1000000 FxNum.mk86_1000000 FxNum.mk87_1000000 FxNum.mk109_0 FxNum.mk109_1000001 FxNum.mk109_1000002 FxNum.mk109_1000000 FxNum.fi109_0 FxNum.mk110_1000000 FxNum.mk118_0 FxNum.mk118_1000001 FxNum.mk118_1000002 FxNum.mk118_1000000 FxNum.fi118_0 FxNum.mk150_1000001 FxNum.mk150_1000000 FxNum.mk171_0 FxNum.mk171_1000001 FxNum.mk171_1000002 FxNum.mk171_1000000 FxNum.fi171_0 FxNum.mk172_1000000 FxNum.mk182_1000000 FxNum.mk183_1000000 FxNum.dw203_6 FxNum.kl203_6 FxNum.nc203_6 FxNum.mk203_0 FxNum.mk203_2 FxNum.mk203_1000001 FxNum.mk203_1000002 FxNum.mk203_1000003 FxNum.mk203_1000004 FxNum.mk203_1000000 FxNum.fi203_0 FxNum.fi203_2 FxNum.mk225_1000000 FxNum.mk244_1000000
def c3 (k : IntKind) : CodL (Int × Int × Int) := cCons (cI k) (cCons (cI k) (cOne (cI k)))
def c2 (k : IntKind) : CodL (Int × Int) := cCons (cI k) (cOne (cI k))
def c1 (k : IntKind) : CodL Int := cOne (cI k)
def U (x : Int) : Prop := 0 ≤ x ∧ x < 18446744073709551616
def I (x : Int) : Prop := -9223372036854775808 ≤ x ∧ x < 9223372036854775808
/-! ### Add64 -/
noncomputable def sAdd : Ev.Spec := specC (c3 .u64) (fun x => U x.1 ∧ U x.2.1 ∧ 0 ≤ x.2.2 ∧ x.2.2 ≤ 1) fun x => [.int .u64 ((x.1 + x.2.1 + x.2.2) % 18446744073709551616), .int .u64 ((x.1 + x.2.1 + x.2.2) / 18446744073709551616)]
theorem sAdd_run (x y c : Int) (hx : U x) (hy : U y) (h0 : 0 ≤ c) (h1 : c ≤ 1) : sAdd.run [.int .u64 x, .int .u64 y, .int .u64 c] = some [.int .u64 ((x + y + c) % 18446744073709551616), .int .u64 ((x + y + c) / 18446744073709551616)] := specC_run (c3 .u64) _ _ (x, y, c) ⟨hx, hy, h0, h1⟩
theorem sAdd_ok : SpecOk Try.prog 228 sAdd := by
  intro xs rs S w vals hrun hS hargs
  unfold sAdd specC at hrun
  obtain ⟨⟨x, y, c⟩, rfl, ⟨hx, hy, h0, h1⟩, rfl⟩ := mkSpec_inv hrun
  have hr := hargs (fun _ => none) empty
  obtain ⟨v1, r1, rfl, a1, hr⟩ := hr
  obtain ⟨v2, r2, rfl, a2, hr⟩ := hr
  obtain ⟨v3, r3, rfl, a3, hr⟩ := hr
  cases hr
  have e1 := relV_int (RelN.to_v a1)
  have e2 := relV_int (RelN.to_v a2)
  have e3 := relV_int (RelN.to_v a3)
  subst e1 e2 e3
  refine .inr ⟨.tuple #[.int .u64 ((x + y + c) % 18446744073709551616), .int .u64 ((x + y + c) / 18446744073709551616)], w, ?_, RowKit.Below.refl _ _, ?_⟩
  · rw [run_callFunc_extern Try.func228 (by kernel_rfl) (by kernel_rfl) (by kernel_rfl) (e := add64Entry) (by kernel_rfl)]
    simp only [run_add64 x y c hx.1 hy.1 h0 h1, Result.andThen_ok]
  · intro σ st
    exact ⟨[_, _], rfl, ⟨_, _, rfl, .inr (.inr ⟨rfl, rfl⟩), ⟨_, _, rfl, .inr (.inr ⟨rfl, rfl⟩), rfl⟩⟩⟩
/-! ### Mul64 -/
noncomputable def T1 : Table := tableOf [(172, en172), (225, en225), (244, en244)]
theorem T1_ok : TableOk Try.prog (([] : Specs).map (·.1)) T1 := (table_cons Try.func172 (by kernel_rfl) (by kernel_rfl) (table_cons Try.func225 (by kernel_rfl) (by kernel_rfl) (table_cons Try.func244 (by kernel_rfl) (by kernel_rfl) table_nil)))
noncomputable def sMul : Ev.Spec := specC (c2 .u64) (fun x => U x.1 ∧ U x.2) fun x => [.int .u64 (x.1 * x.2 / 18446744073709551616), .int .u64 (x.1 * x.2 % 18446744073709551616)]
theorem sMul_run (x y : Int) (hx : U x) (hy : U y) : sMul.run [.int .u64 x, .int .u64 y] = some [.int .u64 (x * y / 18446744073709551616), .int .u64 (x * y % 18446744073709551616)] := specC_run (c2 .u64) _ _ (x, y) ⟨hx, hy⟩
theorem eMul (x y : Int) (hx : U x) (hy : U y) : evTop Try.prog [] T1 0 1 172 [.int .u64 x, .int .u64 y] = some [.int .u64 (x * y / 18446744073709551616), .int .u64 (x * y % 18446744073709551616)] := by
  unfold evTop
  simp only [List.map]
  rw [evF_s (fn := Try.f172) (msk := en172.ms) (hT := by rfl) (hb := by rfl)]
  simp only [Try.f172, go_sem, Nat.reduceAdd, Nat.reduceSub, Nat.reduceMul, Nat.reduceEqDiff, Nat.reduceBEq, Nat.reduceLT, Nat.reduceLeDiff, Nat.reducePow, Int.reduceToNat, Int.reduceLT, Int.reduceLE, Int.reduceGT, Int.reduceGE, Int.reduceEq, Int.reduceNeg, Int.reduceAdd, Int.reduceSub, ↓reduceIte, reduceCtorEq]
  have m := mul_hi hx.1 hx.2 hy.1 hy.2
  rw [m, wu (x * y)]
theorem sMul_ok : SpecOk Try.prog 172 sMul := specC_ok mixed specs_nil T1_ok fun x hp => ⟨0, 1, eMul x.1 x.2 hp.1 hp.2⟩
/-! ### Len64 -/
theorem tab_at {n : Int} (h0 : 0 ≤ n) (h : n < 256) : strAt ⟨#[0, 1, 2, 2, 3, 3, 3, 3, 4, 4, 4, 4, 4, 4, 4, 4, 5, 5, 5, 5, 5, 5, 5, 5, 5, 5, 5, 5, 5, 5, 5, 5, 6, 6, 6, 6, 6, 6, 6, 6, 6, 6, 6, 6, 6, 6, 6, 6, 6, 6, 6, 6, 6, 6, 6, 6, 6, 6, 6, 6, 6, 6, 6, 6, 7, 7, 7, 7, 7, 7, 7, 7, 7, 7, 7, 7, 7, 7, 7, 7, 7, 7, 7, 7, 7, 7, 7, 7, 7, 7, 7, 7, 7, 7, 7, 7, 7, 7, 7, 7, 7, 7, 7, 7, 7, 7, 7, 7, 7, 7, 7, 7, 7, 7, 7, 7, 7, 7, 7, 7, 7, 7, 7, 7, 7, 7, 7, 7, 8, 8, 8, 8, 8, 8, 8, 8, 8, 8, 8, 8, 8, 8, 8, 8, 8, 8, 8, 8, 8, 8, 8, 8, 8, 8, 8, 8, 8, 8, 8, 8, 8, 8, 8, 8, 8, 8, 8, 8, 8, 8, 8, 8, 8, 8, 8, 8, 8, 8, 8, 8, 8, 8, 8, 8, 8, 8, 8, 8, 8, 8, 8, 8, 8, 8, 8, 8, 8, 8, 8, 8, 8, 8, 8, 8, 8, 8, 8, 8, 8, 8, 8, 8, 8, 8, 8, 8, 8, 8, 8, 8, 8, 8, 8, 8, 8, 8, 8, 8, 8, 8, 8, 8, 8, 8, 8, 8, 8, 8, 8, 8, 8, 8, 8, 8, 8, 8, 8, 8, 8, 8, 8, 8, 8, 8, 8, 8]⟩ n = some (.d (.int .u8 (bitLen n.toNat))) := by
  have hs : n.toNat < (⟨#[0, 1, 2, 2, 3, 3, 3, 3, 4, 4, 4, 4, 4, 4, 4, 4, 5, 5, 5, 5, 5, 5, 5, 5, 5, 5, 5, 5, 5, 5, 5, 5, 6, 6, 6, 6, 6, 6, 6, 6, 6, 6, 6, 6, 6, 6, 6, 6, 6, 6, 6, 6, 6, 6, 6, 6, 6, 6, 6, 6, 6, 6, 6, 6, 7, 7, 7, 7, 7, 7, 7, 7, 7, 7, 7, 7, 7, 7, 7, 7, 7, 7, 7, 7, 7, 7, 7, 7, 7, 7, 7, 7, 7, 7, 7, 7, 7, 7, 7, 7, 7, 7, 7, 7, 7, 7, 7, 7, 7, 7, 7, 7, 7, 7, 7, 7, 7, 7, 7, 7, 7, 7, 7, 7, 7, 7, 7, 7, 8, 8, 8, 8, 8, 8, 8, 8, 8, 8, 8, 8, 8, 8, 8, 8, 8, 8, 8, 8, 8, 8, 8, 8, 8, 8, 8, 8, 8, 8, 8, 8, 8, 8, 8, 8, 8, 8, 8, 8, 8, 8, 8, 8, 8, 8, 8, 8, 8, 8, 8, 8, 8, 8, 8, 8, 8, 8, 8, 8, 8, 8, 8, 8, 8, 8, 8, 8, 8, 8, 8, 8, 8, 8, 8, 8, 8, 8, 8, 8, 8, 8, 8, 8, 8, 8, 8, 8, 8, 8, 8, 8, 8, 8, 8, 8, 8, 8, 8, 8, 8, 8, 8, 8, 8, 8, 8, 8, 8, 8, 8, 8, 8, 8, 8, 8, 8, 8, 8, 8, 8, 8, 8, 8, 8, 8, 8, 8]⟩ : ByteArray).size := by
    show n.toNat < 256; omega
  have ht := len8tab_get n.toNat hs
  unfold strAt
  rw [if_pos h0, ByteArray.getElem?_lt' _ _ hs]
  simp only [ht]
theorem bl_shift {x : Int} (b : Nat) (p : Int) (hp : p = ((2 ^ b : Nat) : Int)) (h0 : 0 ≤ x) (h : p ≤ x) : (bitLen x.toNat : Int) = b + bitLen (x / p).toNat := by
  subst hp
  obtain ⟨n, rfl⟩ := Int.eq_ofNat_of_zero_le h0
  have hp : 0 < 2 ^ b := Nat.two_pow_pos b
  have hle : 2 ^ b ≤ n := by exact_mod_cast h
  have hd : n / 2 ^ b ≠ 0 := by
    have := Nat.div_pos hle hp
    omega
  have e : ((n : Int) / ((2 ^ b : Nat) : Int)).toNat = n / 2 ^ b := by rw [← Int.natCast_ediv, Int.toNat_natCast]
  rw [e, Int.toNat_natCast, bitLen_shift n b hd]
  simp
def lenR (x : Int) : V := .d (.int .i64 (bitLen x.toNat))
theorem eLen (x : Int) (hx : U x) (st : Store) (lv L : Nat) (c : Nat) : evF Try.prog [] T1 L (c + 1) 225 [.d (.int .u64 x)] lv st = some (lenR x, st) := by
  rw [evF_s (fn := Try.f225) (msk := en225.ms) (hT := by rfl) (hb := by rfl)]
  obtain ⟨h0, h1⟩ := hx
  have d0 : 0 ≤ x ∧ x < 18446744073709551616 := ⟨h0, h1⟩
  by_cases a1 : x ≥ 4294967296
  · have b1 := bl_shift 32 4294967296 (by decide) d0.1 a1
    have d1 : 0 ≤ x / 4294967296 ∧ x / 4294967296 < 4294967296 := by omega
    generalize hy : x / 4294967296 = y at *
    by_cases a2 : y ≥ 65536
    · have b2 := bl_shift 16 65536 (by decide) d1.1 a2
      have d2 : 0 ≤ y / 65536 ∧ y / 65536 < 65536 := by omega
      generalize hz : y / 65536 = z at *
      by_cases a3 : z ≥ 256
      · have b3 := bl_shift 8 256 (by decide) d2.1 a3
        have d3 : 0 ≤ z / 256 ∧ z / 256 < 256 := by omega
        generalize ht : z / 256 = t at *
        have s2 : shrI .u64 y 16 = y / 65536 := shr_lit .u64 y 16 (by decide)
        have s3 : shrI .u64 z 8 = z / 256 := shr_lit .u64 z 8 (by decide)
        have w8 : IntKind.u8.wrap t = t := by rw [IntKind.wrap_u8]; omega
        have hb := bitLen_le8 t.toNat (by omega)
        have wl : IntKind.i64.wrap (bitLen t.toNat : Int) = bitLen t.toNat := by rw [wi]; omega
        have wt : IntKind.i64.wrap (56 + (bitLen t.toNat : Int)) = bitLen x.toNat := by rw [wi]; omega
        simp only [Try.f225, go_sem, Nat.reduceAdd, Nat.reduceSub, Nat.reduceMul, Nat.reduceEqDiff, Nat.reduceBEq, Nat.reduceLT, Nat.reduceLeDiff, Nat.reducePow, Int.reduceToNat, Int.reduceLT, Int.reduceLE, Int.reduceGT, Int.reduceGE, Int.reduceEq, Int.reduceNeg, Int.reduceAdd, Int.reduceSub, ↓reduceIte, reduceCtorEq, a1, shr32, hy, a2, s2, hz, a3, s3, ht, w8, tab_at d3.1 d3.2, wl, wt, lenR]
      · have d3 : 0 ≤ z ∧ z < 256 := by omega
        have e3 : z = z := rfl
        have s2 : shrI .u64 y 16 = y / 65536 := shr_lit .u64 y 16 (by decide)
        have s3 : shrI .u64 z 8 = z / 256 := shr_lit .u64 z 8 (by decide)
        have w8 : IntKind.u8.wrap z = z := by rw [IntKind.wrap_u8]; omega
        have hb := bitLen_le8 z.toNat (by omega)
        have wl : IntKind.i64.wrap (bitLen z.toNat : Int) = bitLen z.toNat := by rw [wi]; omega
        have wt : IntKind.i64.wrap (48 + (bitLen z.toNat : Int)) = bitLen x.toNat := by rw [wi]; omega
        simp only [Try.f225, go_sem, Nat.reduceAdd, Nat.reduceSub, Nat.reduceMul, Nat.reduceEqDiff, Nat.reduceBEq, Nat.reduceLT, Nat.reduceLeDiff, Nat.reducePow, Int.reduceToNat, Int.reduceLT, Int.reduceLE, Int.reduceGT, Int.reduceGE, Int.reduceEq, Int.reduceNeg, Int.reduceAdd, Int.reduceSub, ↓reduceIte, reduceCtorEq, a1, shr32, hy, a2, s2, hz, a3, s3,  w8, tab_at d3.1 d3.2, wl, wt, lenR]
    · have d2 : 0 ≤ y ∧ y < 65536 := by omega
      have e2 : y = y := rfl
      by_cases a3 : y ≥ 256
      · have b3 := bl_shift 8 256 (by decide) d2.1 a3
        have d3 : 0 ≤ y / 256 ∧ y / 256 < 256 := by omega
        generalize ht : y / 256 = t at *
        have s2 : shrI .u64 y 16 = y / 65536 := shr_lit .u64 y 16 (by decide)
        have s3 : shrI .u64 y 8 = y / 256 := shr_lit .u64 y 8 (by decide)
        have w8 : IntKind.u8.wrap t = t := by rw [IntKind.wrap_u8]; omega
        have hb := bitLen_le8 t.toNat (by omega)
        have wl : IntKind.i64.wrap (bitLen t.toNat : Int) = bitLen t.toNat := by rw [wi]; omega
        have wt : IntKind.i64.wrap (40 + (bitLen t.toNat : Int)) = bitLen x.toNat := by rw [wi]; omega
        simp only [Try.f225, go_sem, Nat.reduceAdd, Nat.reduceSub, Nat.reduceMul, Nat.reduceEqDiff, Nat.reduceBEq, Nat.reduceLT, Nat.reduceLeDiff, Nat.reducePow, Int.reduceToNat, Int.reduceLT, Int.reduceLE, Int.reduceGT, Int.reduceGE, Int.reduceEq, Int.reduceNeg, Int.reduceAdd, Int.reduceSub, ↓reduceIte, reduceCtorEq, a1, shr32, hy, a2, s2,  a3, s3, ht, w8, tab_at d3.1 d3.2, wl, wt, lenR]
      · have d3 : 0 ≤ y ∧ y < 256 := by omega
        have e3 : y = y := rfl
        have s2 : shrI .u64 y 16 = y / 65536 := shr_lit .u64 y 16 (by decide)
        have s3 : shrI .u64 y 8 = y / 256 := shr_lit .u64 y 8 (by decide)
        have w8 : IntKind.u8.wrap y = y := by rw [IntKind.wrap_u8]; omega
        have hb := bitLen_le8 y.toNat (by omega)
        have wl : IntKind.i64.wrap (bitLen y.toNat : Int) = bitLen y.toNat := by rw [wi]; omega
        have wt : IntKind.i64.wrap (32 + (bitLen y.toNat : Int)) = bitLen x.toNat := by rw [wi]; omega
        simp only [Try.f225, go_sem, Nat.reduceAdd, Nat.reduceSub, Nat.reduceMul, Nat.reduceEqDiff, Nat.reduceBEq, Nat.reduceLT, Nat.reduceLeDiff, Nat.reducePow, Int.reduceToNat, Int.reduceLT, Int.reduceLE, Int.reduceGT, Int.reduceGE, Int.reduceEq, Int.reduceNeg, Int.reduceAdd, Int.reduceSub, ↓reduceIte, reduceCtorEq, a1, shr32, hy, a2, s2,  a3, s3,  w8, tab_at d3.1 d3.2, wl, wt, lenR]
  · have d1 : 0 ≤ x ∧ x < 4294967296 := by omega
    have e1 : x = x := rfl
    by_cases a2 : x ≥ 65536
    · have b2 := bl_shift 16 65536 (by decide) d1.1 a2
      have d2 : 0 ≤ x / 65536 ∧ x / 65536 < 65536 := by omega
      generalize hz : x / 65536 = z at *
      by_cases a3 : z ≥ 256
      · have b3 := bl_shift 8 256 (by decide) d2.1 a3
        have d3 : 0 ≤ z / 256 ∧ z / 256 < 256 := by omega
        generalize ht : z / 256 = t at *
        have s2 : shrI .u64 x 16 = x / 65536 := shr_lit .u64 x 16 (by decide)
        have s3 : shrI .u64 z 8 = z / 256 := shr_lit .u64 z 8 (by decide)
        have w8 : IntKind.u8.wrap t = t := by rw [IntKind.wrap_u8]; omega
        have hb := bitLen_le8 t.toNat (by omega)
        have wl : IntKind.i64.wrap (bitLen t.toNat : Int) = bitLen t.toNat := by rw [wi]; omega
        have wt : IntKind.i64.wrap (24 + (bitLen t.toNat : Int)) = bitLen x.toNat := by rw [wi]; omega
        simp only [Try.f225, go_sem, Nat.reduceAdd, Nat.reduceSub, Nat.reduceMul, Nat.reduceEqDiff, Nat.reduceBEq, Nat.reduceLT, Nat.reduceLeDiff, Nat.reducePow, Int.reduceToNat, Int.reduceLT, Int.reduceLE, Int.reduceGT, Int.reduceGE, Int.reduceEq, Int.reduceNeg, Int.reduceAdd, Int.reduceSub, ↓reduceIte, reduceCtorEq, a1, shr32,  a2, s2, hz, a3, s3, ht, w8, tab_at d3.1 d3.2, wl, wt, lenR]
      · have d3 : 0 ≤ z ∧ z < 256 := by omega
        have e3 : z = z := rfl
        have s2 : shrI .u64 x 16 = x / 65536 := shr_lit .u64 x 16 (by decide)
        have s3 : shrI .u64 z 8 = z / 256 := shr_lit .u64 z 8 (by decide)
        have w8 : IntKind.u8.wrap z = z := by rw [IntKind.wrap_u8]; omega
        have hb := bitLen_le8 z.toNat (by omega)
        have wl : IntKind.i64.wrap (bitLen z.toNat : Int) = bitLen z.toNat := by rw [wi]; omega
        have wt : IntKind.i64.wrap (16 + (bitLen z.toNat : Int)) = bitLen x.toNat := by rw [wi]; omega
        simp only [Try.f225, go_sem, Nat.reduceAdd, Nat.reduceSub, Nat.reduceMul, Nat.reduceEqDiff, Nat.reduceBEq, Nat.reduceLT, Nat.reduceLeDiff, Nat.reducePow, Int.reduceToNat, Int.reduceLT, Int.reduceLE, Int.reduceGT, Int.reduceGE, Int.reduceEq, Int.reduceNeg, Int.reduceAdd, Int.reduceSub, ↓reduceIte, reduceCtorEq, a1, shr32,  a2, s2, hz, a3, s3,  w8, tab_at d3.1 d3.2, wl, wt, lenR]
    · have d2 : 0 ≤ x ∧ x < 65536 := by omega
      have e2 : x = x := rfl
      by_cases a3 : x ≥ 256
      · have b3 := bl_shift 8 256 (by decide) d2.1 a3
        have d3 : 0 ≤ x / 256 ∧ x / 256 < 256 := by omega
        generalize ht : x / 256 = t at *
        have s2 : shrI .u64 x 16 = x / 65536 := shr_lit .u64 x 16 (by decide)
        have s3 : shrI .u64 x 8 = x / 256 := shr_lit .u64 x 8 (by decide)
        have w8 : IntKind.u8.wrap t = t := by rw [IntKind.wrap_u8]; omega
        have hb := bitLen_le8 t.toNat (by omega)
        have wl : IntKind.i64.wrap (bitLen t.toNat : Int) = bitLen t.toNat := by rw [wi]; omega
        have wt : IntKind.i64.wrap (8 + (bitLen t.toNat : Int)) = bitLen x.toNat := by rw [wi]; omega
        simp only [Try.f225, go_sem, Nat.reduceAdd, Nat.reduceSub, Nat.reduceMul, Nat.reduceEqDiff, Nat.reduceBEq, Nat.reduceLT, Nat.reduceLeDiff, Nat.reducePow, Int.reduceToNat, Int.reduceLT, Int.reduceLE, Int.reduceGT, Int.reduceGE, Int.reduceEq, Int.reduceNeg, Int.reduceAdd, Int.reduceSub, ↓reduceIte, reduceCtorEq, a1, shr32,  a2, s2,  a3, s3, ht, w8, tab_at d3.1 d3.2, wl, wt, lenR]
      · have d3 : 0 ≤ x ∧ x < 256 := by omega
        have e3 : x = x := rfl
        have s2 : shrI .u64 x 16 = x / 65536 := shr_lit .u64 x 16 (by decide)
        have s3 : shrI .u64 x 8 = x / 256 := shr_lit .u64 x 8 (by decide)
        have w8 : IntKind.u8.wrap x = x := by rw [IntKind.wrap_u8]; omega
        have hb := bitLen_le8 x.toNat (by omega)
        have wl : IntKind.i64.wrap (bitLen x.toNat : Int) = bitLen x.toNat := by rw [wi]; omega
        have wt : IntKind.i64.wrap (0 + (bitLen x.toNat : Int)) = bitLen x.toNat := by rw [wi]; omega
        have wz : IntKind.i64.wrap (0 + (bitLen x.toNat : Int)) = bitLen x.toNat := wt
        simp only [Try.f225, go_sem, Nat.reduceAdd, Nat.reduceSub, Nat.reduceMul, Nat.reduceEqDiff, Nat.reduceBEq, Nat.reduceLT, Nat.reduceLeDiff, Nat.reducePow, Int.reduceToNat, Int.reduceLT, Int.reduceLE, Int.reduceGT, Int.reduceGE, Int.reduceEq, Int.reduceNeg, Int.reduceAdd, Int.reduceSub, ↓reduceIte, reduceCtorEq, a1, shr32,  a2, s2,  a3, s3,  w8, tab_at d3.1 d3.2, wl, wt, lenR]
/-! ### LeadingZeros64 -/
noncomputable def sLz : Ev.Spec := specC (c1 .u64) U fun x => [.int .i64 (64 - bitLen x.toNat)]
theorem sLz_run (x : Int) (hx : U x) : sLz.run [.int .u64 x] = some [.int .i64 (64 - bitLen x.toNat)] := specC_run (c1 .u64) _ _ x hx
theorem bl_le {x : Int} (hx : U x) : bitLen x.toNat ≤ 64 := by
  obtain ⟨h0, h1⟩ := hx
  by_cases h : x.toNat = 0
  · rw [h]; decide
  · obtain ⟨a, b⟩ := bitLen_spec x.toNat
    refine Nat.le_of_not_lt fun hc => ?_
    have := b h
    have : 2 ^ 64 ≤ 2 ^ (bitLen x.toNat - 1) := Nat.pow_le_pow_right (by decide) (by omega)
    have : (2 : Nat) ^ 64 = 18446744073709551616 := by decide
    omega
theorem eLz (x : Int) (hx : U x) : evTop Try.prog [] T1 0 2 244 [.int .u64 x] = some [.int .i64 (64 - bitLen x.toNat)] := by
  unfold evTop
  simp only [List.map]
  rw [evF_s (fn := Try.f244) (msk := en244.ms) (hT := by rfl) (hb := by rfl)]
  have hb := bl_le hx
  have w : IntKind.i64.wrap (64 - (bitLen x.toNat : Int)) = 64 - bitLen x.toNat := by rw [wi]; omega
  simp only [Try.f244, go_sem, Nat.reduceAdd, Nat.reduceSub, Nat.reduceMul, Nat.reduceEqDiff, Nat.reduceBEq, Nat.reduceLT, Nat.reduceLeDiff, Nat.reducePow, Int.reduceToNat, Int.reduceLT, Int.reduceLE, Int.reduceGT, Int.reduceGE, Int.reduceEq, Int.reduceNeg, Int.reduceAdd, Int.reduceSub, ↓reduceIte, reduceCtorEq, eLen x hx, lenR, w]
theorem sLz_ok : SpecOk Try.prog 244 sLz := specC_ok mixed specs_nil T1_ok fun x hp => ⟨0, 2, eLz x hp⟩
#print axioms sLz_ok
#print axioms sAdd_ok
#print axioms sMul_ok
end Go.Proofs.Ytnojehmbiceceaa.Num1Num
end
