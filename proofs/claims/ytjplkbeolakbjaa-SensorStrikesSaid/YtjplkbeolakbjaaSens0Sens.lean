/- The law's own check that the package works at all (sensors), run by the kernel. -/
import Derived.Test.YtjplkbeolakbjaaMixSens
set_option maxRecDepth 1000000
namespace Go.Proofs.Ytjplkbeolakbjaa.Sens0Sens
open Go.Ev Go.Proofs.Ytjplkbeolakbjaa.FxSens Go.Proofs.Ytjplkbeolakbjaa.MixSens
/-- A function of no arguments whose answer is known. -/
def known (r : List D) : Ev.Spec := ⟨fun xs => match xs with | [] => some r | _ => none⟩
theorem known_ok {G : Specs} {T : Table} {f : FuncId} {r : List D} (L c : Nat) (hG : ∀ g s, Ev.look G g = some s → SpecOk Try.prog g s) (hT : TableOk Try.prog (G.map (·.1)) T) (h : evTop Try.prog G T L c f [] = some r) : SpecOk Try.prog f (known r) :=
  spec_of_ev mixed hG hT fun xs rs hr => by
    simp only [known] at hr
    split at hr
    · cases hr; exact ⟨L, c, h⟩
    · cases hr
def tinyD : D := .agg 56 [.int .i64 1, .int .i64 3, .sl 3 [.int .i64 5, .int .i64 5, .int .i64 5], .sl 47 [.int .i64 0, .int .i64 0, .int .i64 0], .sl 3 [.int .i64 4096, .int .i64 4096, .int .i64 2048], .int .i64 10, .int .i64 2, .int .i64 0]
noncomputable def T83 : Table := tableOf [(83, en83)]
theorem e83 : evTop Try.prog [] T83 30 8 83 [] = some [tinyD] := by kernel_rfl
theorem s83_ok : SpecOk Try.prog 83 (known [tinyD]) := known_ok 30 8 specs_nil (table_cons Try.func83 (by kernel_rfl) (by kernel_rfl) table_nil) e83
def G42 : Specs := [(15, s_mix), (18, s_below), (83, known [tinyD])]
noncomputable def T42 : Table := tableOf [(42, en42), (45, en45), (48, en48), (47, en47), (39, en39), (86, en86), (43, en43), (84, en84), (85, en85), (87, en87), (114, en114), (115, en115), (116, en116), (117, en117), (118, en118), (119, en119), (128, en128), (129, en129), (130, en130), (88, en88), (89, en89), (90, en90), (91, en91), (92, en92)]
theorem e42 : evTop Try.prog G42 T42 30 8 42 [] = some [.bool true] := by kernel_rfl
theorem G42_ok : ∀ g s, Ev.look G42 g = some s → SpecOk Try.prog g s := specs_cons mix_ok (specs_cons below_ok (specs_cons s83_ok specs_nil))
theorem T42_ok : TableOk Try.prog (G42.map (·.1)) T42 := (table_cons Try.func42 (by kernel_rfl) (by kernel_rfl) (table_cons Try.func45 (by kernel_rfl) (by kernel_rfl) (table_cons Try.func48 (by kernel_rfl) (by kernel_rfl) (table_cons Try.func47 (by kernel_rfl) (by kernel_rfl) (table_cons Try.func39 (by kernel_rfl) (by kernel_rfl) (table_cons Try.func86 (by kernel_rfl) (by kernel_rfl) (table_cons Try.func43 (by kernel_rfl) (by kernel_rfl) (table_cons Try.func84 (by kernel_rfl) (by kernel_rfl) (table_cons Try.func85 (by kernel_rfl) (by kernel_rfl) (table_cons Try.func87 (by kernel_rfl) (by kernel_rfl) (table_cons Try.func114 (by kernel_rfl) (by kernel_rfl) (table_cons Try.func115 (by kernel_rfl) (by kernel_rfl) (table_cons Try.func116 (by kernel_rfl) (by kernel_rfl) (table_cons Try.func117 (by kernel_rfl) (by kernel_rfl) (table_cons Try.func118 (by kernel_rfl) (by kernel_rfl) (table_cons Try.func119 (by kernel_rfl) (by kernel_rfl) (table_cons Try.func128 (by kernel_rfl) (by kernel_rfl) (table_cons Try.func129 (by kernel_rfl) (by kernel_rfl) (table_cons Try.func130 (by kernel_rfl) (by kernel_rfl) (table_cons Try.func88 (by kernel_rfl) (by kernel_rfl) (table_cons Try.func89 (by kernel_rfl) (by kernel_rfl) (table_cons Try.func90 (by kernel_rfl) (by kernel_rfl) (table_cons Try.func91 (by kernel_rfl) (by kernel_rfl) (table_cons Try.func92 (by kernel_rfl) (by kernel_rfl) table_nil))))))))))))))))))))))))
theorem s42_ok : SpecOk Try.prog 42 (known [.bool true]) := known_ok 30 8 G42_ok T42_ok e42
#print axioms s42_ok
end Go.Proofs.Ytjplkbeolakbjaa.Sens0Sens
