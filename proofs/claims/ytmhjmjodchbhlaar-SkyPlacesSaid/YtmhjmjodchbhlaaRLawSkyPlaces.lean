/- The row of the law SkyPlaces: for every input the call returns true. Over the evaluator's contract of the law's function. No conditions. -/
import Derived.Test.YtmhjmjodchbhlaaRRows
import Derived.Test.YtmhjmjodchbhlaaREvQ
import Derived.Test.YtmhjmjodchbhlaaRTopSkyPlaces
import Derived.WalkKit
import Derived.ProofKit
import Derived.OpenShut
import Derived.ShutString
import Derived.ChangeOld
import Derived.Below
import Derived.SizedLaws
import Derived.Carry
import Derived.WideShapes
import Derived.KernelRfl
set_option linter.unusedVariables false
set_option linter.unusedSimpArgs false
namespace Go.Proofs.YtmhjmjodchbhlaaR.skyPlaces
open Go.ChangeShapes Go.WideShapes Go.ChangeAt Go.RowKit
open Go.ChangeMaps (open_string shut_string)
open Go.Ev (Opens OpensF arg_agg arg_one weight_at law_calls call_of_ev ArgsOk D Fl)
theorem own : ownKnob Try.prog.godebug = none := by kernel_rfl
theorem laidOut : laidOutB Try.prog = true := by kernel_rfl
set_option maxRecDepth 100000 in
set_option maxHeartbeats 4000000 in
theorem lifted (os : Os) (started : os.Started) (H : Type) (enc : TypeId × Value → H) :
    ReturnsInHanded {} Try.checked os 8 .any (Rows.skyPlacesSpec.pre6 enc Try.prog Try.f8 Rows.skyPlacesRow.domain false) (Rows.skyPlacesSpec.post enc Try.prog Try.f8 false true false false) := by
  refine returnsInHanded_of_change_sized (C := Try.checked) own started (by kernel_rfl) Try.func8
    (ChangeSpec.witness6 (enc := enc) (C := Try.checked) false ⟨#[], #[.agg #[.int .i64 0, .int .i64 0, .int .i64 0, .int .i64 0, .int .i64 0, .int .i64 0, .int .i64 0, .int .i64 0], .int .i64 0], []⟩ 8 (by kernel_rfl) (by kernel_rfl) (by kernel_rfl) (by kernel_rfl)) ?_
  intro W base args ds gs before hval0 hW hcnd hsz0 _
  have hsz : (DataW.weightsEach Try.prog (Try.f8.params.toList ++ Rows.skyPlacesSpec.plain.varTypes Try.prog) (ds ++ gs)).all (· ≤ reachBytes) = true := hsz0
  have hval : ∀ (j : Nat) t v, Try.f8.params[j]? = some t → args[j]? = some v → Value.okWide Try.prog W .any base t v := hval0
  have hW' := hW
  obtain ⟨p, q, hA0, hV, rfl, hfz, hnd⟩ := hW
  have hA : DataW.TrodAll enc Try.prog W 0 (fun _ => true) true Try.f8.params.toList args.toList ds p := hA0
  rw [Try.params8] at hA hval hsz
  obtain ⟨v0, vs0, d0, ds0, p0, q0, hargs, rfl, rfl, h0, r0⟩ := trodAll_cons hA
  obtain ⟨v1, vs1, d1, ds1, p1, q1, rfl, rfl, rfl, h1, r1⟩ := trodAll_cons r0
  obtain ⟨rfl, rfl, rfl⟩ := trodAll_nil r1
  obtain rfl : args = #[v0, v1] := by cases args; simp_all
  obtain ⟨rfl, rfl⟩ := trodVars_none hV
  obtain ⟨cs0, rfl, hcs0⟩ := okWide_struct Try.underlying39 (hval 0 39 v0 rfl rfl)
  have k0_ := h0
  have lt0 : ∀ x ∈ p0, x.block < W.heap.size := by obtain ⟨m, hm⟩ := k0_; exact DataW.trod_lt m _ _ _ hm
  obtain ⟨fuel0, hf0⟩ := h0
  obtain ⟨x0, hK0, hw0⟩ := (Opens.struct Try.underlying39 (by kernel_rfl) (OpensF.cons rfl (Opens.int Try.underlying3) (OpensF.cons rfl (Opens.struct Try.underlying23 (by kernel_rfl) (OpensF.cons rfl (Opens.int Try.underlying2) (OpensF.cons rfl (Opens.int Try.underlying2) (OpensF.cons rfl (Opens.int Try.underlying2) OpensF.nil)))) (OpensF.cons rfl (Opens.struct Try.underlying23 (by kernel_rfl) (OpensF.cons rfl (Opens.int Try.underlying2) (OpensF.cons rfl (Opens.int Try.underlying2) (OpensF.cons rfl (Opens.int Try.underlying2) OpensF.nil)))) (OpensF.cons rfl (Opens.int Try.underlying37) OpensF.nil))))) enc W fuel0 _ _ hf0 (weight_at hsz (j := 0) rfl rfl)
  obtain ⟨a0_0, ⟨a0_1_0, a0_1_1, a0_1_2, ⟨⟩⟩, ⟨a0_2_0, a0_2_1, a0_2_2, ⟨⟩⟩, a0_3, ⟨⟩⟩ := x0
  obtain ⟨a1, rfl, rfl, rfl, hw1⟩ := open_int Try.underlying48 (hval 1 48 v1 rfl rfl) h1
  clear hA0 hval0 hsz0 hsz
  obtain ⟨L, c, ht⟩ := TopSkyPlaces.top a0_0 a0_1_0 a0_1_1 a0_1_2 a0_2_0 a0_2_1 a0_2_2 a0_3 a1 hw0 hw1
  have hok : ArgsOk Try.prog (Go.Ev.Old W) W [D.agg 39 [.int .i64 a0_0, D.agg 23 [.int .i64 a0_1_0, .int .i64 a0_1_1, .int .i64 a0_1_2], D.agg 23 [.int .i64 a0_2_0, .int .i64 a0_2_1, .int .i64 a0_2_2], .int .i64 a0_3], .int .i64 a1] [(.agg cs0 : Value), (.int .i64 a1 : Value)] := fun σ st => ⟨_, _, rfl, arg_agg rfl hK0, ⟨_, _, rfl, arg_one rfl rfl, rfl⟩⟩
  refine (law_calls Try.func8 (by kernel_rfl) (by kernel_rfl) (call_of_ev FxPlace.mixed TopSkyPlaces.G_ok TopSkyPlaces.T_ok ht (fun _ h => h) hok)).mono fun e W' ⟨he, bel⟩ => ?_
  subst he
  exact ⟨_, rfl, _, _, _, [], _, [], hW', trodAll_mk1 (shut_bool Try.underlying4 _), (trodAll_cons_mk (Below.trod laidOut (by kernel_rfl) (of_decide_eq_true (by kernel_rfl)) k0_ bel lt0) (trodAll_cons_mk (shut_int Try.underlying48 hw1) trodAll_mk0)), rfl, bel.frame _, fun h => by cases h⟩
theorem over : Rows.skyPlacesRow.holds Try.pinned (OpenSpec.ofChange Rows.skyPlacesSpec) :=
  OpenClaim.holds_of_wide 8 Try.f8 rfl rfl rfl rfl rfl rfl rfl ⟨rfl, rfl, rfl, rfl, rfl⟩ rfl rfl rfl rfl rfl (by kernel_rfl) Try.func8 (by kernel_rfl)
    (of_decide_eq_true (by kernel_rfl)) (by unfold Func.isWrapper; first | (rw [if_pos (by decide +kernel)]; kernel_rfl) | (rw [if_neg (by decide +kernel)]; exact ⟨rfl, rfl⟩))
    (fun os started H enc _ => lifted os started H enc)
theorem proved : Rows.SkyPlacesSaid := over
#print axioms proved
end Go.Proofs.YtmhjmjodchbhlaaR.skyPlaces
namespace Go.Proofs.YtmhjmjodchbhlaaR
/-- The row, under a short name, for the claim. -/
theorem skyPlaces_holds : Rows.SkyPlacesSaid := skyPlaces.proved
end Go.Proofs.YtmhjmjodchbhlaaR
