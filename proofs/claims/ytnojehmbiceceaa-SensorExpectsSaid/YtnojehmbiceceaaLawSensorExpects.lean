/- The row of the law SensorExpects: for every input the call returns true. Over the evaluator's contract of the law's function. No conditions. -/
import Derived.Test.YtnojehmbiceceaaRows
import Derived.Test.YtnojehmbiceceaaEvQ
import Derived.Test.YtnojehmbiceceaaTopSensorExpects
import Derived.WalkKit
import Derived.ProofKit
import Derived.OpenShut
import Derived.ShutString
import Derived.ChangeOld
import Derived.Below
import Derived.SizedLaws
import Derived.Carry
import Derived.WideShapes
import Derived.KernelRfl
set_option linter.unusedVariables false
set_option linter.unusedSimpArgs false
namespace Go.Proofs.Ytnojehmbiceceaa.sensorExpects
open Go.ChangeShapes Go.WideShapes Go.ChangeAt Go.RowKit
open Go.ChangeMaps (open_string shut_string)
open Go.Ev (Opens OpensF arg_agg arg_one weight_at law_calls call_of_ev ArgsOk D Fl)
theorem own : ownKnob Try.prog.godebug = none := by kernel_rfl
theorem laidOut : laidOutB Try.prog = true := by kernel_rfl
set_option maxRecDepth 100000 in
set_option maxHeartbeats 4000000 in
theorem lifted (os : Os) (started : os.Started) (H : Type) (enc : TypeId × Value → H) :
    ReturnsInHanded {} Try.checked os 3 .any (Rows.sensorExpectsSpec.pre6 enc Try.prog Try.f3 Rows.sensorExpectsRow.domain false) (Rows.sensorExpectsSpec.post enc Try.prog Try.f3 false true false false) := by
  refine returnsInHanded_of_change_sized (C := Try.checked) own started (by kernel_rfl) Try.func3
    (ChangeSpec.witness6 (enc := enc) (C := Try.checked) false ⟨#[], #[.agg #[.int .i64 0, .int .i64 0, .slice none 0 0, .slice none 0 0, .slice none 0 0, .int .i64 0, .int .i64 0, .int .i64 0], .slice none 0 0, .int .i64 0], []⟩ 8 (by kernel_rfl) (by kernel_rfl) (by kernel_rfl) (by kernel_rfl)) ?_
  intro W base args ds gs before hval0 hW hcnd hsz0 _
  have hsz : (DataW.weightsEach Try.prog (Try.f3.params.toList ++ Rows.sensorExpectsSpec.plain.varTypes Try.prog) (ds ++ gs)).all (· ≤ reachBytes) = true := hsz0
  have hval : ∀ (j : Nat) t v, Try.f3.params[j]? = some t → args[j]? = some v → Value.okWide Try.prog W .any base t v := hval0
  have hW' := hW
  obtain ⟨p, q, hA0, hV, rfl, hfz, hnd⟩ := hW
  have hA : DataW.TrodAll enc Try.prog W 0 (fun _ => true) true Try.f3.params.toList args.toList ds p := hA0
  rw [Try.params3] at hA hval hsz
  obtain ⟨v0, vs0, d0, ds0, p0, q0, hargs, rfl, rfl, h0, r0⟩ := trodAll_cons hA
  obtain ⟨v1, vs1, d1, ds1, p1, q1, rfl, rfl, rfl, h1, r1⟩ := trodAll_cons r0
  obtain ⟨v2, vs2, d2, ds2, p2, q2, rfl, rfl, rfl, h2, r2⟩ := trodAll_cons r1
  obtain ⟨rfl, rfl, rfl⟩ := trodAll_nil r2
  obtain rfl : args = #[v0, v1, v2] := by cases args; simp_all
  obtain ⟨rfl, rfl⟩ := trodVars_none hV
  obtain ⟨cs0, rfl, hcs0⟩ := okWide_struct Try.underlying26 (hval 0 26 v0 rfl rfl)
  have k0_ := h0
  have lt0 : ∀ x ∈ p0, x.block < W.heap.size := by obtain ⟨m, hm⟩ := k0_; exact DataW.trod_lt m _ _ _ hm
  obtain ⟨fuel0, hf0⟩ := h0
  obtain ⟨x0, hK0, hw0⟩ := (Opens.struct Try.underlying26 (by kernel_rfl) (OpensF.cons rfl (Opens.int Try.underlying3) (OpensF.cons rfl (Opens.int Try.underlying3) (OpensF.cons rfl (Opens.slice (B := 8) Try.underlying22 (of_decide_eq_true (by kernel_rfl)) (by kernel_rfl) (Opens.int Try.underlying3)) (OpensF.cons rfl (Opens.slice (B := 8) Try.underlying23 (of_decide_eq_true (by kernel_rfl)) (by kernel_rfl) (Opens.int Try.underlying32)) (OpensF.cons rfl (Opens.slice (B := 8) Try.underlying22 (of_decide_eq_true (by kernel_rfl)) (by kernel_rfl) (Opens.int Try.underlying3)) (OpensF.cons rfl (Opens.int Try.underlying24) (OpensF.cons rfl (Opens.int Try.underlying24) (OpensF.cons rfl (Opens.int Try.underlying3) OpensF.nil))))))))) enc W fuel0 _ _ hf0 (weight_at hsz (j := 0) rfl rfl)
  obtain ⟨a0_0, a0_1, a0_2, a0_3, a0_4, a0_5, a0_6, a0_7, ⟨⟩⟩ := x0
  obtain ⟨A1, len1, c1, rfl⟩ := okWide_slice Try.underlying23 (hval 1 23 v1 rfl rfl)
  have k1_ := h1
  have lt1 : ∀ x ∈ p1, x.block < W.heap.size := by obtain ⟨m, hm⟩ := k1_; exact DataW.trod_lt m _ _ _ hm
  obtain ⟨fuel1, hf1⟩ := h1
  obtain ⟨a1, hK1, hw1⟩ := (Opens.slice (B := 8) Try.underlying23 (of_decide_eq_true (by kernel_rfl)) (by kernel_rfl) (Opens.int Try.underlying32)) enc W fuel1 _ _ hf1 (weight_at hsz (j := 1) rfl rfl)
  obtain ⟨a2, rfl, rfl, rfl, hw2⟩ := open_int Try.underlying3 (hval 2 3 v2 rfl rfl) h2
  clear hA0 hval0 hsz0 hsz
  obtain ⟨L, c, ht⟩ := TopSensorExpects.top a0_0 a0_1 a0_2 a0_3 a0_4 a0_5 a0_6 a0_7 a1 a2 hw0 hw1 hw2
  have hok : ArgsOk Try.prog (Go.Ev.Old W) W [D.agg 26 [.int .i64 a0_0, .int .i64 a0_1, D.sl 3 (a0_2.map (.int .i64)), D.sl 32 (a0_3.map (.int .i64)), D.sl 3 (a0_4.map (.int .i64)), .int .i64 a0_5, .int .i64 a0_6, .int .i64 a0_7], D.sl 32 (a1.map (.int .i64)), .int .i64 a2] [(.agg cs0 : Value), (.slice A1 len1 c1 : Value), (.int .i64 a2 : Value)] := fun σ st => ⟨_, _, rfl, arg_agg rfl hK0, ⟨_, _, rfl, arg_one rfl hK1, ⟨_, _, rfl, arg_one rfl rfl, rfl⟩⟩⟩
  refine (law_calls Try.func3 (by kernel_rfl) (by kernel_rfl) (call_of_ev FxExp.mixed TopSensorExpects.G_ok TopSensorExpects.T_ok ht (fun _ h => h) hok)).mono fun e W' ⟨he, bel⟩ => ?_
  subst he
  exact ⟨_, rfl, _, _, _, [], _, [], hW', trodAll_mk1 (shut_bool Try.underlying4 _), (trodAll_cons_mk (Below.trod laidOut (by kernel_rfl) (of_decide_eq_true (by kernel_rfl)) k0_ bel lt0) (trodAll_cons_mk (Below.trod laidOut (by kernel_rfl) (of_decide_eq_true (by kernel_rfl)) k1_ bel lt1) (trodAll_cons_mk (shut_int Try.underlying3 hw2) trodAll_mk0))), rfl, bel.frame _, fun h => by cases h⟩
theorem over : Rows.sensorExpectsRow.holds Try.pinned (OpenSpec.ofChange Rows.sensorExpectsSpec) :=
  OpenClaim.holds_of_wide 3 Try.f3 rfl rfl rfl rfl rfl rfl rfl ⟨rfl, rfl, rfl, rfl, rfl⟩ rfl rfl rfl rfl rfl (by kernel_rfl) Try.func3 (by kernel_rfl)
    (of_decide_eq_true (by kernel_rfl)) (by unfold Func.isWrapper; first | (rw [if_pos (by decide +kernel)]; kernel_rfl) | (rw [if_neg (by decide +kernel)]; exact ⟨rfl, rfl⟩))
    (fun os started H enc _ => lifted os started H enc)
theorem proved : Rows.SensorExpectsSaid := over
#print axioms proved
end Go.Proofs.Ytnojehmbiceceaa.sensorExpects
namespace Go.Proofs.Ytnojehmbiceceaa
/-- The row, under a short name, for the claim. -/
theorem sensorExpects_holds : Rows.SensorExpectsSaid := sensorExpects.proved
end Go.Proofs.Ytnojehmbiceceaa
