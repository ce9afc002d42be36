/- The law's own check that the package works at all (sensors), run by the kernel. -/
import Derived.Test.YtnojehmbiceceaaMixExp
set_option maxRecDepth 1000000
namespace Go.Proofs.Ytnojehmbiceceaa.Sens0Exp
open Go.Ev Go.Proofs.Ytnojehmbiceceaa.FxExp Go.Proofs.Ytnojehmbiceceaa.MixExp
/-- A function of no arguments whose answer is known. -/
def known (r : List D) : Ev.Spec := ⟨fun xs => match xs with | [] => some r | _ => none⟩
theorem known_ok {G : Specs} {T : Table} {f : FuncId} {r : List D} (L c : Nat) (hG : ∀ g s, Ev.look G g = some s → SpecOk Try.prog g s) (hT : TableOk Try.prog (G.map (·.1)) T) (h : evTop Try.prog G T L c f [] = some r) : SpecOk Try.prog f (known r) :=
  spec_of_ev mixed hG hT fun xs rs hr => by
    simp only [known] at hr
    split at hr
    · cases hr; exact ⟨L, c, h⟩
    · cases hr
def tinyD : D := .agg 26 [.int .i64 1, .int .i64 3, .sl 3 [.int .i64 5, .int .i64 5, .int .i64 5], .sl 32 [.int .i64 0, .int .i64 0, .int .i64 0], .sl 3 [.int .i64 4096, .int .i64 4096, .int .i64 2048], .int .i64 10, .int .i64 2, .int .i64 0]
noncomputable def T83 : Table := tableOf [(69, en69)]
theorem e83 : evTop Try.prog [] T83 30 8 69 [] = some [tinyD] := by kernel_rfl
theorem s83_ok : SpecOk Try.prog 69 (known [tinyD]) := known_ok 30 8 specs_nil (table_cons Try.func69 (by kernel_rfl) (by kernel_rfl) table_nil) e83
def G42 : Specs := [(159, s_mix), (158, s_below), (69, known [tinyD])]
noncomputable def T42 : Table := tableOf [(16, en16), (68, en68), (70, en70), (71, en71), (25, en25), (64, en64), (147, en147), (201, en201), (65, en65), (152, en152), (242, en242), (243, en243), (148, en148), (149, en149), (204, en204), (205, en205), (262, en262), (202, en202), (245, en245), (153, en153), (154, en154), (155, en155), (156, en156), (157, en157)]
theorem e42 : evTop Try.prog G42 T42 30 8 16 [] = some [.bool true] := by kernel_rfl
theorem G42_ok : ∀ g s, Ev.look G42 g = some s → SpecOk Try.prog g s := specs_cons mix_ok (specs_cons below_ok (specs_cons s83_ok specs_nil))
theorem T42_ok : TableOk Try.prog (G42.map (·.1)) T42 := (table_cons Try.func16 (by kernel_rfl) (by kernel_rfl) (table_cons Try.func68 (by kernel_rfl) (by kernel_rfl) (table_cons Try.func70 (by kernel_rfl) (by kernel_rfl) (table_cons Try.func71 (by kernel_rfl) (by kernel_rfl) (table_cons Try.func25 (by kernel_rfl) (by kernel_rfl) (table_cons Try.func64 (by kernel_rfl) (by kernel_rfl) (table_cons Try.func147 (by kernel_rfl) (by kernel_rfl) (table_cons Try.func201 (by kernel_rfl) (by kernel_rfl) (table_cons Try.func65 (by kernel_rfl) (by kernel_rfl) (table_cons Try.func152 (by kernel_rfl) (by kernel_rfl) (table_cons Try.func242 (by kernel_rfl) (by kernel_rfl) (table_cons Try.func243 (by kernel_rfl) (by kernel_rfl) (table_cons Try.func148 (by kernel_rfl) (by kernel_rfl) (table_cons Try.func149 (by kernel_rfl) (by kernel_rfl) (table_cons Try.func204 (by kernel_rfl) (by kernel_rfl) (table_cons Try.func205 (by kernel_rfl) (by kernel_rfl) (table_cons Try.func262 (by kernel_rfl) (by kernel_rfl) (table_cons Try.func202 (by kernel_rfl) (by kernel_rfl) (table_cons Try.func245 (by kernel_rfl) (by kernel_rfl) (table_cons Try.func153 (by kernel_rfl) (by kernel_rfl) (table_cons Try.func154 (by kernel_rfl) (by kernel_rfl) (table_cons Try.func155 (by kernel_rfl) (by kernel_rfl) (table_cons Try.func156 (by kernel_rfl) (by kernel_rfl) (table_cons Try.func157 (by kernel_rfl) (by kernel_rfl) table_nil))))))))))))))))))))))))
theorem s42_ok : SpecOk Try.prog 16 (known [.bool true]) := known_ok 30 8 G42_ok T42_ok e42
#print axioms s42_ok
end Go.Proofs.Ytnojehmbiceceaa.Sens0Exp
