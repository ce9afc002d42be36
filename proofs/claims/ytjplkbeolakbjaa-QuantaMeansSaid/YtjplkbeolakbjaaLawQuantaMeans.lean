/- The row of the law QuantaMeans: for every input the call returns true. Over the law's printed contract and its pure statement. No conditions. -/
import Derived.Test.YtjplkbeolakbjaaRows
import Derived.Test.YtjplkbeolakbjaaSayQuantaMeans
import Derived.Test.YtjplkbeolakbjaaPureQuantaMeans
import Derived.Test.YtjplkbeolakbjaaOpen
import Derived.WalkKit
import Derived.ProofKit
import Derived.OpenShut
import Derived.ShutString
import Derived.ChangeOld
import Derived.Below
import Derived.SizedLaws
import Derived.Carry
import Derived.WideShapes
import Derived.KernelRfl
set_option linter.unusedVariables false
set_option linter.unusedSimpArgs false
namespace Go.Proofs.Ytjplkbeolakbjaa.quantaMeans
open Go.ChangeShapes Go.WideShapes Go.ChangeAt Go.RowKit
open Go.ChangeMaps (open_string shut_string)
open Go.Proofs.Ytjplkbeolakbjaa.PQuantaMeans Go.Proofs.YtjplkbeolakbjaaW.PrintWords Go.Proofs.Ytjplkbeolakbjaa.Open
theorem own : ownKnob Try.prog.godebug = none := by kernel_rfl
theorem laidOut : laidOutB Try.prog = true := by kernel_rfl
set_option maxRecDepth 100000 in
set_option maxHeartbeats 4000000 in
theorem lifted (os : Os) (started : os.Started) (H : Type) (enc : TypeId × Value → H) :
    ReturnsInHanded {} Try.checked os 8 .any (Rows.quantaMeansSpec.pre6 enc Try.prog Try.f8 Rows.quantaMeansRow.domain false) (Rows.quantaMeansSpec.post enc Try.prog Try.f8 false true false false) := by
  refine returnsInHanded_of_change_sized (C := Try.checked) own started (by kernel_rfl) Try.func8
    (ChangeSpec.witness6 (enc := enc) (C := Try.checked) false ⟨#[], #[.agg #[.int .i64 0, .int .i64 0, .bool false]], []⟩ 8 (by kernel_rfl) (by kernel_rfl) (by kernel_rfl) (by kernel_rfl)) ?_
  intro W base args ds gs before hval0 hW hcnd hsz0 _
  have hsz : (DataW.weightsEach Try.prog (Try.f8.params.toList ++ Rows.quantaMeansSpec.plain.varTypes Try.prog) (ds ++ gs)).all (· ≤ reachBytes) = true := hsz0
  have hval : ∀ (j : Nat) t v, Try.f8.params[j]? = some t → args[j]? = some v → Value.okWide Try.prog W .any base t v := hval0
  have hW' := hW
  obtain ⟨p, q, hA0, hV, rfl, hfz, hnd⟩ := hW
  have hA : DataW.TrodAll enc Try.prog W 0 (fun _ => true) true Try.f8.params.toList args.toList ds p := hA0
  rw [Try.params8] at hA hval hsz
  obtain ⟨v0, vs0, d0, ds0, p0, q0, hargs, rfl, rfl, h0, r0⟩ := trodAll_cons hA
  obtain ⟨rfl, rfl, rfl⟩ := trodAll_nil r0
  obtain rfl : args = #[v0] := by cases args; simp_all
  obtain ⟨rfl, rfl⟩ := trodVars_none hV
  obtain ⟨cs0, rfl, hcs0⟩ := okWide_struct Try.underlying43 (hval 0 43 v0 rfl rfl)
  have k0_ := h0
  have lt0 : ∀ x ∈ p0, x.block < W.heap.size := by obtain ⟨m, hm⟩ := k0_; exact DataW.trod_lt m _ _ _ hm
  obtain ⟨fuel0, hf0⟩ := h0
  obtain ⟨x0, hK0, hw0⟩ := (Opens.struct Try.underlying43 (by kernel_rfl) (OpensF.cons rfl (by kernel_rfl) (Opens.int Try.underlying27) (OpensF.cons rfl (by kernel_rfl) (Opens.int Try.underlying27) (OpensF.one rfl (by kernel_rfl) (Opens.bool Try.underlying4))))) enc W fuel0 _ _ hf0 (weight_at hsz (j := 0) rfl rfl)
  have e0 : (Value.agg cs0).cells.toList = cs0.toList := rfl
  rw [e0] at hK0
  generalize hg0 : cs0.toList = L0 at hK0
  obtain ⟨a0_0, a0_1, a0_2⟩ := x0
  obtain ⟨b1, b1', rfl, g1, g1'⟩ := hK0
  obtain rfl := (show (_ : List Value) = [(.int .i64 a0_0 : Value)] from g1)
  obtain ⟨b2, b2', rfl, g2, g2'⟩ := g1'
  obtain rfl := (show (_ : List Value) = [(.int .i64 a0_1 : Value)] from g2)
  obtain rfl := (show (_ : List Value) = [(.bool a0_2 : Value)] from g2')
  obtain rfl : cs0 = #[.int .i64 a0_0, .int .i64 a0_1, .bool a0_2] := by cases cs0; simpa using hg0
  clear hA0 hval0 hsz0 hsz
  obtain ⟨k, hp⟩ := Pure.QuantaMeans a0_0 a0_1 a0_2 (hw0.1) (hw0.2.1)
  refine (spylaw3_QuantaMeans.calls k a0_0 a0_1 a0_2 true W  hp).mono fun e W' ⟨he, bel_⟩ => ?_
  have bel : Below W.heap.size W W' := bel_
  subst he
  exact ⟨_, rfl, _, _, _, [], _, [], hW', trodAll_mk1 (shut_bool Try.underlying4 _), (trodAll_cons_mk (Below.trod laidOut (by kernel_rfl) (of_decide_eq_true (by kernel_rfl)) k0_ bel lt0) trodAll_mk0), rfl, bel.frame _, fun h => by cases h⟩
theorem over : Rows.quantaMeansRow.holds Try.pinned (OpenSpec.ofChange Rows.quantaMeansSpec) :=
  OpenClaim.holds_of_wide 8 Try.f8 rfl rfl rfl rfl rfl rfl rfl ⟨rfl, rfl, rfl, rfl, rfl⟩ rfl rfl rfl rfl rfl (by kernel_rfl) Try.func8 (by kernel_rfl)
    (of_decide_eq_true (by kernel_rfl)) (by unfold Func.isWrapper; first | (rw [if_pos (by decide +kernel)]; kernel_rfl) | (rw [if_neg (by decide +kernel)]; exact ⟨rfl, rfl⟩))
    (fun os started H enc _ => lifted os started H enc)
theorem proved : Rows.QuantaMeansSaid := over
#print axioms proved
end Go.Proofs.Ytjplkbeolakbjaa.quantaMeans
namespace Go.Proofs.Ytjplkbeolakbjaa
/-- The row, under a short name, for the claim. -/
theorem quantaMeans_holds : Rows.QuantaMeansSaid := quantaMeans.proved
end Go.Proofs.Ytjplkbeolakbjaa
