/- The row of the law SkyRates: for every input the call returns true. Over the evaluator's contract of the law's function. No conditions. -/
import Derived.Test.YtmhjmjodchbhlaaRRows
import Derived.Test.YtmhjmjodchbhlaaREvV
import Derived.Test.YtmhjmjodchbhlaaRTopSkyRates
import Derived.WalkKit
import Derived.ProofKit
import Derived.OpenShut
import Derived.ShutString
import Derived.ChangeOld
import Derived.Below
import Derived.SizedLaws
import Derived.Carry
import Derived.WideShapes
import Derived.KernelRfl
set_option linter.unusedVariables false
set_option linter.unusedSimpArgs false
namespace Go.Proofs.YtmhjmjodchbhlaaR.skyRates
open Go.ChangeShapes Go.WideShapes Go.ChangeAt Go.RowKit
open Go.ChangeMaps (open_string shut_string)
open Go.Ev (Opens OpensF OpensU OpensFU bulk_at returns_cond_sized witness_small arg_agg arg_one weight_at law_calls call_of_ev ArgsOk D Fl)
theorem own : ownKnob Try.prog.godebug = none := by kernel_rfl
theorem laidOut : laidOutB Try.prog = true := by kernel_rfl
set_option maxRecDepth 100000 in
set_option maxHeartbeats 4000000 in
theorem lifted (os : Os) (started : os.Started) (H : Type) (enc : TypeId × Value → H) (F : Stop.Interp) :
    ReturnsInHanded {} Try.checked os 7 .any ((Rows.OpenSpec.upto Rows.skyRatesSpec).pre6 enc Try.prog Try.f7 Rows.skyRatesUptoRow.domain false) (((Rows.OpenSpec.upto Rows.skyRatesSpec).at F).post enc Try.prog Try.f7 false true false false) := by
  refine returns_cond_sized (C := Try.checked) (s := Rows.OpenSpec.upto Rows.skyRatesSpec) (k := Rows.uptoSmall) rfl (F := F) own started (by kernel_rfl) Try.func7
    (witness_small (enc := enc) (C := Try.checked) (s := Rows.OpenSpec.upto Rows.skyRatesSpec) (k := Rows.uptoSmall) rfl false ⟨#[], #[.agg #[.int .i64 0, .slice none 0 0, .slice none 0 0, .slice none 0 0, .int .i64 0, .int .i64 0, .int .i64 0, .int .i64 0, .int .i64 0, .int .i64 0, .int .i64 0, .int .i64 0], .int .i64 0, .int .i64 0], []⟩ 8 (by kernel_rfl) (by kernel_rfl) (by kernel_rfl) (by kernel_rfl) (by kernel_rfl)) ?_
  intro W base args ds gs before hval0 hW hsz0 hbk0
  have hsz : (DataW.weightsEach Try.prog (Try.f7.params.toList ++ Rows.skyRatesSpec.plain.varTypes Try.prog) (ds ++ gs)).all (· ≤ reachBytes) = true := hsz0
  have hval : ∀ (j : Nat) t v, Try.f7.params[j]? = some t → args[j]? = some v → Value.okWide Try.prog W .any base t v := hval0
  have hW' := hW
  obtain ⟨p, q, hA0, hV, rfl, hfz, hnd⟩ := hW
  have hA : DataW.TrodAll enc Try.prog W 0 (fun _ => true) true Try.f7.params.toList args.toList ds p := hA0
  rw [Try.params7] at hA hval hsz
  obtain ⟨v0, vs0, d0, ds0, p0, q0, hargs, rfl, rfl, h0, r0⟩ := trodAll_cons hA
  obtain ⟨v1, vs1, d1, ds1, p1, q1, rfl, rfl, rfl, h1, r1⟩ := trodAll_cons r0
  obtain ⟨v2, vs2, d2, ds2, p2, q2, rfl, rfl, rfl, h2, r2⟩ := trodAll_cons r1
  obtain ⟨rfl, rfl, rfl⟩ := trodAll_nil r2
  obtain rfl : args = #[v0, v1, v2] := by cases args; simp_all
  obtain ⟨rfl, rfl⟩ := trodVars_none hV
  have hbk := of_decide_eq_true (hbk0 : decide (Rows.uptoBulkAll _ ≤ 1048576) = true)
  obtain ⟨cs0, rfl, hcs0⟩ := okWide_struct Try.underlying47 (hval 0 47 v0 rfl rfl)
  have k0_ := h0
  have lt0 : ∀ x ∈ p0, x.block < W.heap.size := by obtain ⟨m, hm⟩ := k0_; exact DataW.trod_lt m _ _ _ hm
  obtain ⟨fuel0, hf0⟩ := h0
  obtain ⟨x0, hK0, hw0⟩ := (OpensU.struct Try.underlying47 (by kernel_rfl) (OpensFU.cons rfl (OpensU.of (Opens.int Try.underlying37)) (OpensFU.cons rfl (OpensU.slice (B := 88) Try.underlying43 (of_decide_eq_true (by kernel_rfl)) (by kernel_rfl) (OpensU.struct Try.underlying79 (by kernel_rfl) (OpensFU.cons rfl (OpensU.of (Opens.int Try.underlying3)) (OpensFU.cons rfl (OpensU.struct Try.underlying23 (by kernel_rfl) (OpensFU.cons rfl (OpensU.of (Opens.int Try.underlying2)) (OpensFU.cons rfl (OpensU.of (Opens.int Try.underlying2)) (OpensFU.cons rfl (OpensU.of (Opens.int Try.underlying2)) OpensFU.nil)))) (OpensFU.cons rfl (OpensU.of (Opens.int Try.underlying37)) (OpensFU.cons rfl (OpensU.slice (B := 8) Try.underlying77 (of_decide_eq_true (by kernel_rfl)) (by kernel_rfl) (OpensU.of (Opens.int Try.underlying37))) (OpensFU.cons rfl (OpensU.of (Opens.int Try.underlying48)) (OpensFU.cons rfl (OpensU.of (Opens.int Try.underlying48)) (OpensFU.cons rfl (OpensU.of (Opens.int Try.underlying48)) OpensFU.nil))))))))) (OpensFU.cons rfl (OpensU.slice (B := 56) Try.underlying44 (of_decide_eq_true (by kernel_rfl)) (by kernel_rfl) (OpensU.struct Try.underlying76 (by kernel_rfl) (OpensFU.cons rfl (OpensU.of (Opens.int Try.underlying3)) (OpensFU.cons rfl (OpensU.struct Try.underlying23 (by kernel_rfl) (OpensFU.cons rfl (OpensU.of (Opens.int Try.underlying2)) (OpensFU.cons rfl (OpensU.of (Opens.int Try.underlying2)) (OpensFU.cons rfl (OpensU.of (Opens.int Try.underlying2)) OpensFU.nil)))) (OpensFU.cons rfl (OpensU.of (Opens.int Try.underlying37)) (OpensFU.cons rfl (OpensU.of (Opens.int Try.underlying3)) (OpensFU.cons rfl (OpensU.of (Opens.int Try.underlying3)) OpensFU.nil))))))) (OpensFU.cons rfl (OpensU.slice (B := 64) Try.underlying45 (of_decide_eq_true (by kernel_rfl)) (by kernel_rfl) (OpensU.struct Try.underlying39 (by kernel_rfl) (OpensFU.cons rfl (OpensU.of (Opens.int Try.underlying3)) (OpensFU.cons rfl (OpensU.struct Try.underlying23 (by kernel_rfl) (OpensFU.cons rfl (OpensU.of (Opens.int Try.underlying2)) (OpensFU.cons rfl (OpensU.of (Opens.int Try.underlying2)) (OpensFU.cons rfl (OpensU.of (Opens.int Try.underlying2)) OpensFU.nil)))) (OpensFU.cons rfl (OpensU.struct Try.underlying23 (by kernel_rfl) (OpensFU.cons rfl (OpensU.of (Opens.int Try.underlying2)) (OpensFU.cons rfl (OpensU.of (Opens.int Try.underlying2)) (OpensFU.cons rfl (OpensU.of (Opens.int Try.underlying2)) OpensFU.nil)))) (OpensFU.cons rfl (OpensU.of (Opens.int Try.underlying37)) OpensFU.nil)))))) (OpensFU.cons rfl (OpensU.struct Try.underlying39 (by kernel_rfl) (OpensFU.cons rfl (OpensU.of (Opens.int Try.underlying3)) (OpensFU.cons rfl (OpensU.struct Try.underlying23 (by kernel_rfl) (OpensFU.cons rfl (OpensU.of (Opens.int Try.underlying2)) (OpensFU.cons rfl (OpensU.of (Opens.int Try.underlying2)) (OpensFU.cons rfl (OpensU.of (Opens.int Try.underlying2)) OpensFU.nil)))) (OpensFU.cons rfl (OpensU.struct Try.underlying23 (by kernel_rfl) (OpensFU.cons rfl (OpensU.of (Opens.int Try.underlying2)) (OpensFU.cons rfl (OpensU.of (Opens.int Try.underlying2)) (OpensFU.cons rfl (OpensU.of (Opens.int Try.underlying2)) OpensFU.nil)))) (OpensFU.cons rfl (OpensU.of (Opens.int Try.underlying37)) OpensFU.nil))))) OpensFU.nil)))))) enc W fuel0 _ _ hf0 (weight_at hsz (j := 0) rfl rfl) (bulk_at hbk (j := 0) rfl)
  obtain ⟨a0_0, a0_1, a0_2, a0_3, ⟨a0_4_0, ⟨a0_4_1_0, a0_4_1_1, a0_4_1_2, ⟨⟩⟩, ⟨a0_4_2_0, a0_4_2_1, a0_4_2_2, ⟨⟩⟩, a0_4_3, ⟨⟩⟩, ⟨⟩⟩ := x0
  obtain ⟨a1, rfl, rfl, rfl, hw1⟩ := open_int Try.underlying3 (hval 1 3 v1 rfl rfl) h1
  obtain ⟨a2, rfl, rfl, rfl, hw2⟩ := open_int Try.underlying48 (hval 2 48 v2 rfl rfl) h2
  clear hA0 hval0 hsz0 hsz hbk0 hbk
  obtain ⟨L, c, ht⟩ := TopSkyRates.top a0_0 a0_1 a0_2 a0_3 a0_4_0 a0_4_1_0 a0_4_1_1 a0_4_1_2 a0_4_2_0 a0_4_2_1 a0_4_2_2 a0_4_3 a1 a2 hw0 hw1 hw2
  have hok : ArgsOk Try.prog (Go.Ev.Old W) W [D.agg 47 [.int .i64 a0_0, D.sl 79 (a0_1.map (fun ya0_1 : Int × (Int × Int × Int × Unit) × Int × List Int × Int × Int × Int × Unit => D.agg 79 [.int .i64 ya0_1.1, D.agg 23 [.int .i64 ya0_1.2.1.1, .int .i64 ya0_1.2.1.2.1, .int .i64 ya0_1.2.1.2.2.1], .int .i64 ya0_1.2.2.1, D.sl 37 (ya0_1.2.2.2.1.map (.int .i64)), .int .i64 ya0_1.2.2.2.2.1, .int .i64 ya0_1.2.2.2.2.2.1, .int .i64 ya0_1.2.2.2.2.2.2.1])), D.sl 76 (a0_2.map (fun ya0_2 : Int × (Int × Int × Int × Unit) × Int × Int × Int × Unit => D.agg 76 [.int .i64 ya0_2.1, D.agg 23 [.int .i64 ya0_2.2.1.1, .int .i64 ya0_2.2.1.2.1, .int .i64 ya0_2.2.1.2.2.1], .int .i64 ya0_2.2.2.1, .int .i64 ya0_2.2.2.2.1, .int .i64 ya0_2.2.2.2.2.1])), D.sl 39 (a0_3.map (fun ya0_3 : Int × (Int × Int × Int × Unit) × (Int × Int × Int × Unit) × Int × Unit => D.agg 39 [.int .i64 ya0_3.1, D.agg 23 [.int .i64 ya0_3.2.1.1, .int .i64 ya0_3.2.1.2.1, .int .i64 ya0_3.2.1.2.2.1], D.agg 23 [.int .i64 ya0_3.2.2.1.1, .int .i64 ya0_3.2.2.1.2.1, .int .i64 ya0_3.2.2.1.2.2.1], .int .i64 ya0_3.2.2.2.1])), D.agg 39 [.int .i64 a0_4_0, D.agg 23 [.int .i64 a0_4_1_0, .int .i64 a0_4_1_1, .int .i64 a0_4_1_2], D.agg 23 [.int .i64 a0_4_2_0, .int .i64 a0_4_2_1, .int .i64 a0_4_2_2], .int .i64 a0_4_3]], .int .i64 a1, .int .i64 a2] [(.agg cs0 : Value), (.int .i64 a1 : Value), (.int .i64 a2 : Value)] := fun σ st => ⟨_, _, rfl, arg_agg rfl hK0, ⟨_, _, rfl, arg_one rfl rfl, ⟨_, _, rfl, arg_one rfl rfl, rfl⟩⟩⟩
  refine (law_calls Try.func7 (by kernel_rfl) (by kernel_rfl) (call_of_ev FxRate.mixed TopSkyRates.G_ok TopSkyRates.T_ok ht (fun _ h => h) hok)).mono fun e W' ⟨he, bel⟩ => ?_
  subst he
  exact ⟨_, rfl, _, _, _, [], _, [], hW', trodAll_mk1 (shut_bool Try.underlying4 _), (trodAll_cons_mk (Below.trod laidOut (by kernel_rfl) (of_decide_eq_true (by kernel_rfl)) k0_ bel lt0) (trodAll_cons_mk (shut_int Try.underlying3 hw1) (trodAll_cons_mk (shut_int Try.underlying48 hw2) trodAll_mk0))), rfl, bel.frame _, fun h => by cases h⟩
theorem over : Rows.skyRatesUptoRow.holds Try.pinned (Rows.OpenSpec.upto Rows.skyRatesSpec) :=
  OpenClaim.holds_of_cond 7 Try.f7 rfl rfl rfl rfl rfl rfl rfl ⟨rfl, rfl, rfl, rfl, rfl⟩ rfl rfl rfl rfl rfl (by kernel_rfl) Try.func7 (by kernel_rfl)
    (of_decide_eq_true (by kernel_rfl)) (by unfold Func.isWrapper; first | (rw [if_pos (by decide +kernel)]; kernel_rfl) | (rw [if_neg (by decide +kernel)]; exact ⟨rfl, rfl⟩))
    (fun os started H enc _ F => lifted os started H enc F)
theorem proved : Rows.SkyRatesUptoSaid := over
#print axioms proved
end Go.Proofs.YtmhjmjodchbhlaaR.skyRates
namespace Go.Proofs.YtmhjmjodchbhlaaR
/-- The row, under a short name, for the claim. -/
theorem skyRates_holds : Rows.SkyRatesUptoSaid := skyRates.proved
end Go.Proofs.YtmhjmjodchbhlaaR
