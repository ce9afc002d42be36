/- The row of the law SensorStrikes: for every input the call returns true. Over the evaluator's contract of the law's function. No conditions. -/
import Derived.Test.YtjplkbeolakbjaaRows
import Derived.Test.YtjplkbeolakbjaaEvQ
import Derived.Test.YtjplkbeolakbjaaTopSensorStrikes
import Derived.WalkKit
import Derived.ProofKit
import Derived.OpenShut
import Derived.ShutString
import Derived.ChangeOld
import Derived.Below
import Derived.SizedLaws
import Derived.Carry
import Derived.WideShapes
import Derived.KernelRfl
set_option linter.unusedVariables false
set_option linter.unusedSimpArgs false
namespace Go.Proofs.Ytjplkbeolakbjaa.sensorStrikes
open Go.ChangeShapes Go.WideShapes Go.ChangeAt Go.RowKit
open Go.ChangeMaps (open_string shut_string)
open Go.Ev (Opens OpensF arg_agg arg_one weight_at law_calls call_of_ev ArgsOk D Fl)
theorem own : ownKnob Try.prog.godebug = none := by kernel_rfl
theorem laidOut : laidOutB Try.prog = true := by kernel_rfl
set_option maxRecDepth 100000 in
set_option maxHeartbeats 4000000 in
theorem lifted (os : Os) (started : os.Started) (H : Type) (enc : TypeId × Value → H) :
    ReturnsInHanded {} Try.checked os 13 .any (Rows.sensorStrikesSpec.pre6 enc Try.prog Try.f13 Rows.sensorStrikesRow.domain false) (Rows.sensorStrikesSpec.post enc Try.prog Try.f13 false true false false) := by
  refine returnsInHanded_of_change_sized (C := Try.checked) own started (by kernel_rfl) Try.func13
    (ChangeSpec.witness6 (enc := enc) (C := Try.checked) false ⟨#[], #[.agg #[.int .i64 0, .int .i64 0, .slice none 0 0, .slice none 0 0, .slice none 0 0, .int .i64 0, .int .i64 0, .int .i64 0], .slice none 0 0, .slice none 0 0], []⟩ 8 (by kernel_rfl) (by kernel_rfl) (by kernel_rfl) (by kernel_rfl)) ?_
  intro W base args ds gs before hval0 hW hcnd hsz0 _
  have hsz : (DataW.weightsEach Try.prog (Try.f13.params.toList ++ Rows.sensorStrikesSpec.plain.varTypes Try.prog) (ds ++ gs)).all (· ≤ reachBytes) = true := hsz0
  have hval : ∀ (j : Nat) t v, Try.f13.params[j]? = some t → args[j]? = some v → Value.okWide Try.prog W .any base t v := hval0
  have hW' := hW
  obtain ⟨p, q, hA0, hV, rfl, hfz, hnd⟩ := hW
  have hA : DataW.TrodAll enc Try.prog W 0 (fun _ => true) true Try.f13.params.toList args.toList ds p := hA0
  rw [Try.params13] at hA hval hsz
  obtain ⟨v0, vs0, d0, ds0, p0, q0, hargs, rfl, rfl, h0, r0⟩ := trodAll_cons hA
  obtain ⟨v1, vs1, d1, ds1, p1, q1, rfl, rfl, rfl, h1, r1⟩ := trodAll_cons r0
  obtain ⟨v2, vs2, d2, ds2, p2, q2, rfl, rfl, rfl, h2, r2⟩ := trodAll_cons r1
  obtain ⟨rfl, rfl, rfl⟩ := trodAll_nil r2
  obtain rfl : args = #[v0, v1, v2] := by cases args; simp_all
  obtain ⟨rfl, rfl⟩ := trodVars_none hV
  obtain ⟨cs0, rfl, hcs0⟩ := okWide_struct Try.underlying56 (hval 0 56 v0 rfl rfl)
  have k0_ := h0
  have lt0 : ∀ x ∈ p0, x.block < W.heap.size := by obtain ⟨m, hm⟩ := k0_; exact DataW.trod_lt m _ _ _ hm
  obtain ⟨fuel0, hf0⟩ := h0
  obtain ⟨x0, hK0, hw0⟩ := (Opens.struct Try.underlying56 (by kernel_rfl) (OpensF.cons rfl (Opens.int Try.underlying3) (OpensF.cons rfl (Opens.int Try.underlying3) (OpensF.cons rfl (Opens.slice (B := 8) Try.underlying32 (of_decide_eq_true (by kernel_rfl)) (by kernel_rfl) (Opens.int Try.underlying3)) (OpensF.cons rfl (Opens.slice (B := 8) Try.underlying54 (of_decide_eq_true (by kernel_rfl)) (by kernel_rfl) (Opens.int Try.underlying47)) (OpensF.cons rfl (Opens.slice (B := 8) Try.underlying32 (of_decide_eq_true (by kernel_rfl)) (by kernel_rfl) (Opens.int Try.underlying3)) (OpensF.cons rfl (Opens.int Try.underlying27) (OpensF.cons rfl (Opens.int Try.underlying27) (OpensF.cons rfl (Opens.int Try.underlying3) OpensF.nil))))))))) enc W fuel0 _ _ hf0 (weight_at hsz (j := 0) rfl rfl)
  obtain ⟨a0_0, a0_1, a0_2, a0_3, a0_4, a0_5, a0_6, a0_7, ⟨⟩⟩ := x0
  obtain ⟨A1, len1, c1, rfl⟩ := okWide_slice Try.underlying73 (hval 1 73 v1 rfl rfl)
  have k1_ := h1
  have lt1 : ∀ x ∈ p1, x.block < W.heap.size := by obtain ⟨m, hm⟩ := k1_; exact DataW.trod_lt m _ _ _ hm
  obtain ⟨fuel1, hf1⟩ := h1
  obtain ⟨a1, hK1, hw1⟩ := (Opens.slice (B := 8) Try.underlying73 (of_decide_eq_true (by kernel_rfl)) (by kernel_rfl) (Opens.int Try.underlying27)) enc W fuel1 _ _ hf1 (weight_at hsz (j := 1) rfl rfl)
  obtain ⟨A2, len2, c2, rfl⟩ := okWide_slice Try.underlying88 (hval 2 88 v2 rfl rfl)
  have k2_ := h2
  have lt2 : ∀ x ∈ p2, x.block < W.heap.size := by obtain ⟨m, hm⟩ := k2_; exact DataW.trod_lt m _ _ _ hm
  obtain ⟨fuel2, hf2⟩ := h2
  obtain ⟨a2, hK2, hw2⟩ := (Opens.slice (B := 24) Try.underlying88 (of_decide_eq_true (by kernel_rfl)) (by kernel_rfl) (Opens.struct Try.underlying134 (by kernel_rfl) (OpensF.cons rfl (Opens.int Try.underlying3) (OpensF.cons rfl (Opens.int Try.underlying3) (OpensF.cons rfl (Opens.int Try.underlying27) OpensF.nil))))) enc W fuel2 _ _ hf2 (weight_at hsz (j := 2) rfl rfl)
  clear hA0 hval0 hsz0 hsz
  obtain ⟨L, c, ht⟩ := TopSensorStrikes.top a0_0 a0_1 a0_2 a0_3 a0_4 a0_5 a0_6 a0_7 a1 a2 hw0 hw1 hw2
  have hok : ArgsOk Try.prog (Go.Ev.Old W) W [D.agg 56 [.int .i64 a0_0, .int .i64 a0_1, D.sl 3 (a0_2.map (.int .i64)), D.sl 47 (a0_3.map (.int .i64)), D.sl 3 (a0_4.map (.int .i64)), .int .i64 a0_5, .int .i64 a0_6, .int .i64 a0_7], D.sl 27 (a1.map (.int .i64)), D.sl 134 (a2.map (fun ya2 : Int × Int × Int × Unit => D.agg 134 [.int .i64 ya2.1, .int .i64 ya2.2.1, .int .i64 ya2.2.2.1]))] [(.agg cs0 : Value), (.slice A1 len1 c1 : Value), (.slice A2 len2 c2 : Value)] := fun σ st => ⟨_, _, rfl, arg_agg rfl hK0, ⟨_, _, rfl, arg_one rfl hK1, ⟨_, _, rfl, arg_one rfl hK2, rfl⟩⟩⟩
  refine (law_calls Try.func13 (by kernel_rfl) (by kernel_rfl) (call_of_ev FxSens.mixed TopSensorStrikes.G_ok TopSensorStrikes.T_ok ht (fun _ h => h) hok)).mono fun e W' ⟨he, bel⟩ => ?_
  subst he
  exact ⟨_, rfl, _, _, _, [], _, [], hW', trodAll_mk1 (shut_bool Try.underlying4 _), (trodAll_cons_mk (Below.trod laidOut (by kernel_rfl) (of_decide_eq_true (by kernel_rfl)) k0_ bel lt0) (trodAll_cons_mk (Below.trod laidOut (by kernel_rfl) (of_decide_eq_true (by kernel_rfl)) k1_ bel lt1) (trodAll_cons_mk (Below.trod laidOut (by kernel_rfl) (of_decide_eq_true (by kernel_rfl)) k2_ bel lt2) trodAll_mk0))), rfl, bel.frame _, fun h => by cases h⟩
theorem over : Rows.sensorStrikesRow.holds Try.pinned (OpenSpec.ofChange Rows.sensorStrikesSpec) :=
  OpenClaim.holds_of_wide 13 Try.f13 rfl rfl rfl rfl rfl rfl rfl ⟨rfl, rfl, rfl, rfl, rfl⟩ rfl rfl rfl rfl rfl (by kernel_rfl) Try.func13 (by kernel_rfl)
    (of_decide_eq_true (by kernel_rfl)) (by unfold Func.isWrapper; first | (rw [if_pos (by decide +kernel)]; kernel_rfl) | (rw [if_neg (by decide +kernel)]; exact ⟨rfl, rfl⟩))
    (fun os started H enc _ => lifted os started H enc)
theorem proved : Rows.SensorStrikesSaid := over
#print axioms proved
end Go.Proofs.Ytjplkbeolakbjaa.sensorStrikes
namespace Go.Proofs.Ytjplkbeolakbjaa
/-- The row, under a short name, for the claim. -/
theorem sensorStrikes_holds : Rows.SensorStrikesSaid := sensorStrikes.proved
end Go.Proofs.Ytjplkbeolakbjaa
