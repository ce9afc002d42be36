/- The law's own check that the package works at all (skies), run by the kernel. -/
import Derived.Test.YtmhjmjodchbhlaaRPullPull
set_option linter.unusedVariables false
set_option maxRecDepth 1000000
namespace Go.Proofs.YtmhjmjodchbhlaaR.SkiesPull
open Go.Ev Go.Proofs.YtmhjmjodchbhlaaR.FxPull Go.Proofs.YtmhjmjodchbhlaaR.PullPull
/-- A function of no arguments whose answer is known. -/
def known (r : List D) : Ev.Spec := ⟨fun xs => match xs with | [] => some r | _ => none⟩
theorem known_run (r : List D) : (known r).run [] = some r := rfl
theorem known_ok {G : Specs} {T : Table} {f : FuncId} {r : List D} (L c : Nat) (hG : ∀ g s, Ev.look G g = some s → SpecOk Try.prog g s) (hT : TableOk Try.prog (G.map (·.1)) T) (h : evTop Try.prog G T L c f [] = some r) : SpecOk Try.prog f (known r) :=
  spec_of_ev mixed hG hT fun xs rs hr => by
    simp only [known] at hr
    split at hr
    · cases hr; exact ⟨L, c, h⟩
    · cases hr
/-- The part's contract, as the kernel can run it. -/
def sPartC : Ev.Spec := ⟨fun xs => match xs with | [.int .i64 x, .ptr (.int .i64 r)] => if -4194304 ≤ x ∧ x ≤ 4194304 ∧ 65536 ≤ r ∧ r < 1073741824 then some [.int .i64 (plx r x)] else none | _ => none⟩
theorem sPartC_ok : SpecOk Try.prog 48 sPartC := sPart_ok.weak fun xs rs h => by
  simp only [sPartC] at h
  split at h
  · split at h
    · rename_i hp
      cases h
      exact sPart_run _ _ hp
    · cases h
  · cases h
def G0 : Specs := [(48, sPartC)]
theorem G0_ok : ∀ g s, Ev.look G0 g = some s → SpecOk Try.prog g s := specs_cons sPartC_ok specs_nil
noncomputable def T0 : Table := tableOf [(14, en14), (30, en30), (46, en46), (78, en78), (93, en93), (15, en15), (47, en47), (98, en98), (101, en101), (40, en40)]
theorem e0 : evTop Try.prog G0 T0 70 9 14 [] = some [.bool true] := by kernel_rfl
theorem T0_ok : TableOk Try.prog (G0.map (·.1)) T0 := (table_cons Try.func14 (by kernel_rfl) (by kernel_rfl) (table_cons Try.func30 (by kernel_rfl) (by kernel_rfl) (table_cons Try.func46 (by kernel_rfl) (by kernel_rfl) (table_cons Try.func78 (by kernel_rfl) (by kernel_rfl) (table_cons Try.func93 (by kernel_rfl) (by kernel_rfl) (table_cons Try.func15 (by kernel_rfl) (by kernel_rfl) (table_cons Try.func47 (by kernel_rfl) (by kernel_rfl) (table_cons Try.func98 (by kernel_rfl) (by kernel_rfl) (table_cons Try.func101 (by kernel_rfl) (by kernel_rfl) (table_cons Try.func40 (by kernel_rfl) (by kernel_rfl) table_nil))))))))))
theorem skies_ok : SpecOk Try.prog 14 (known [.bool true]) := known_ok 70 9 G0_ok T0_ok e0
#print axioms skies_ok
end Go.Proofs.YtmhjmjodchbhlaaR.SkiesPull
