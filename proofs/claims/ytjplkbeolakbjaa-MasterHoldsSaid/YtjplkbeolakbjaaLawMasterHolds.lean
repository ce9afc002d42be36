/- The row of the law MasterHolds: for every input the call returns true. Over the law's printed contract and its pure statement. No conditions. -/
import Derived.Test.YtjplkbeolakbjaaRows
import Derived.Test.YtjplkbeolakbjaaSayMasterHolds
import Derived.Test.YtjplkbeolakbjaaPureMasterHolds
import Derived.Test.YtjplkbeolakbjaaOpen
import Derived.WalkKit
import Derived.ProofKit
import Derived.OpenShut
import Derived.ShutString
import Derived.ChangeOld
import Derived.Below
import Derived.SizedLaws
import Derived.Carry
import Derived.WideShapes
import Derived.KernelRfl
set_option linter.unusedVariables false
set_option linter.unusedSimpArgs false
namespace Go.Proofs.Ytjplkbeolakbjaa.masterHolds
open Go.ChangeShapes Go.WideShapes Go.ChangeAt Go.RowKit
open Go.ChangeMaps (open_string shut_string)
open Go.Proofs.Ytjplkbeolakbjaa.PHolds Go.Proofs.YtjplkbeolakbjaaW.PrintWords Go.Proofs.Ytjplkbeolakbjaa.Open
theorem own : ownKnob Try.prog.godebug = none := by kernel_rfl
theorem laidOut : laidOutB Try.prog = true := by kernel_rfl
set_option maxRecDepth 100000 in
set_option maxHeartbeats 4000000 in
theorem lifted (os : Os) (started : os.Started) (H : Type) (enc : TypeId × Value → H) :
    ReturnsInHanded {} Try.checked os 4 .any (Rows.masterHoldsSpec.pre6 enc Try.prog Try.f4 Rows.masterHoldsRow.domain false) (Rows.masterHoldsSpec.post enc Try.prog Try.f4 false true false false) := by
  refine returnsInHanded_of_change_sized (C := Try.checked) own started (by kernel_rfl) Try.func4
    (ChangeSpec.witness6 (enc := enc) (C := Try.checked) false ⟨#[], #[.agg #[.int .i64 0, .int .i64 0, .int .i64 0, .int .i64 0, .int .i64 0], .slice none 0 0, .agg #[.int .i64 0, .int .i64 0, .slice none 0 0, .slice none 0 0]], []⟩ 8 (by kernel_rfl) (by kernel_rfl) (by kernel_rfl) (by kernel_rfl)) ?_
  intro W base args ds gs before hval0 hW hcnd hsz0 _
  have hsz : (DataW.weightsEach Try.prog (Try.f4.params.toList ++ Rows.masterHoldsSpec.plain.varTypes Try.prog) (ds ++ gs)).all (· ≤ reachBytes) = true := hsz0
  have hval : ∀ (j : Nat) t v, Try.f4.params[j]? = some t → args[j]? = some v → Value.okWide Try.prog W .any base t v := hval0
  have hW' := hW
  obtain ⟨p, q, hA0, hV, rfl, hfz, hnd⟩ := hW
  have hA : DataW.TrodAll enc Try.prog W 0 (fun _ => true) true Try.f4.params.toList args.toList ds p := hA0
  rw [Try.params4] at hA hval hsz
  obtain ⟨v0, vs0, d0, ds0, p0, q0, hargs, rfl, rfl, h0, r0⟩ := trodAll_cons hA
  obtain ⟨v1, vs1, d1, ds1, p1, q1, rfl, rfl, rfl, h1, r1⟩ := trodAll_cons r0
  obtain ⟨v2, vs2, d2, ds2, p2, q2, rfl, rfl, rfl, h2, r2⟩ := trodAll_cons r1
  obtain ⟨rfl, rfl, rfl⟩ := trodAll_nil r2
  obtain rfl : args = #[v0, v1, v2] := by cases args; simp_all
  obtain ⟨rfl, rfl⟩ := trodVars_none hV
  obtain ⟨cs0, rfl, hcs0⟩ := okWide_struct Try.underlying29 (hval 0 29 v0 rfl rfl)
  have k0_ := h0
  have lt0 : ∀ x ∈ p0, x.block < W.heap.size := by obtain ⟨m, hm⟩ := k0_; exact DataW.trod_lt m _ _ _ hm
  obtain ⟨fuel0, hf0⟩ := h0
  obtain ⟨x0, hK0, hw0⟩ := (Opens.struct Try.underlying29 (by kernel_rfl) (OpensF.cons rfl (by kernel_rfl) (Opens.int Try.underlying3) (OpensF.cons rfl (by kernel_rfl) (Opens.int Try.underlying3) (OpensF.cons rfl (by kernel_rfl) (Opens.int Try.underlying27) (OpensF.cons rfl (by kernel_rfl) (Opens.int Try.underlying27) (OpensF.one rfl (by kernel_rfl) (Opens.int Try.underlying3))))))) enc W fuel0 _ _ hf0 (weight_at hsz (j := 0) rfl rfl)
  have e0 : (Value.agg cs0).cells.toList = cs0.toList := rfl
  rw [e0] at hK0
  generalize hg0 : cs0.toList = L0 at hK0
  obtain ⟨a0_0, a0_1, a0_2, a0_3, a0_4⟩ := x0
  obtain ⟨b1, b1', rfl, g1, g1'⟩ := hK0
  obtain rfl := (show (_ : List Value) = [(.int .i64 a0_0 : Value)] from g1)
  obtain ⟨b2, b2', rfl, g2, g2'⟩ := g1'
  obtain rfl := (show (_ : List Value) = [(.int .i64 a0_1 : Value)] from g2)
  obtain ⟨b3, b3', rfl, g3, g3'⟩ := g2'
  obtain rfl := (show (_ : List Value) = [(.int .i64 a0_2 : Value)] from g3)
  obtain ⟨b4, b4', rfl, g4, g4'⟩ := g3'
  obtain rfl := (show (_ : List Value) = [(.int .i64 a0_3 : Value)] from g4)
  obtain rfl := (show (_ : List Value) = [(.int .i64 a0_4 : Value)] from g4')
  obtain rfl : cs0 = #[.int .i64 a0_0, .int .i64 a0_1, .int .i64 a0_2, .int .i64 a0_3, .int .i64 a0_4] := by cases cs0; simpa using hg0
  obtain ⟨A1, len1, c1, rfl⟩ := okWide_slice Try.underlying30 (hval 1 30 v1 rfl rfl)
  have k1_ := h1
  have lt1 : ∀ x ∈ p1, x.block < W.heap.size := by obtain ⟨m, hm⟩ := k1_; exact DataW.trod_lt m _ _ _ hm
  obtain ⟨fuel1, hf1⟩ := h1
  obtain ⟨l1, ⟨A1', c1', hq1, hc1, hr1⟩, hw1⟩ := (Opens.slice (B := 24) Try.underlying30 (by kernel_rfl) (by kernel_rfl) (Opens.iso (fun x : S41 => (x.f0, x.f1, x.f2)) (fun x => (⟨x.1, x.2.1, x.2.2⟩ : S41)) (fun _ => rfl) (Opens.struct Try.underlying41 (by kernel_rfl) (OpensF.cons rfl (by kernel_rfl) (Opens.int Try.underlying39) (OpensF.cons rfl (by kernel_rfl) (Opens.int Try.underlying39) (OpensF.one rfl (by kernel_rfl) (Opens.bool Try.underlying4))))))) enc W fuel1 _ _ hf1 (weight_at hsz (j := 1) rfl rfl)
  have e1 : [Value.slice A1 len1 c1] = [Value.slice A1' l1.length c1'] := hq1
  simp only [List.cons.injEq, Value.slice.injEq, and_true] at e1
  obtain ⟨rfl, rfl, rfl⟩ := e1
  obtain ⟨cs2, rfl, hcs2⟩ := okWide_struct Try.underlying34 (hval 2 34 v2 rfl rfl)
  have k2_ := h2
  have lt2 : ∀ x ∈ p2, x.block < W.heap.size := by obtain ⟨m, hm⟩ := k2_; exact DataW.trod_lt m _ _ _ hm
  obtain ⟨fuel2, hf2⟩ := h2
  obtain ⟨x2, hK2, hw2⟩ := (Opens.struct Try.underlying34 (by kernel_rfl) (OpensF.cons rfl (by kernel_rfl) (Opens.int Try.underlying3) (OpensF.cons rfl (by kernel_rfl) (Opens.int Try.underlying3) (OpensF.cons rfl (by kernel_rfl) (Opens.slice (B := 64) Try.underlying31 (by kernel_rfl) (by kernel_rfl) (Opens.iso (fun x : S182 => (x.f0, x.f1, x.f2, x.f3)) (fun x => (⟨x.1, x.2.1, x.2.2.1, x.2.2.2⟩ : S182)) (fun _ => rfl) (Opens.struct Try.underlying182 (by kernel_rfl) (OpensF.cons rfl (by kernel_rfl) (Opens.string Try.underlying9) (OpensF.cons rfl (by kernel_rfl) (Opens.string Try.underlying9) (OpensF.cons rfl (by kernel_rfl) (Opens.string Try.underlying9) (OpensF.one rfl (by kernel_rfl) (Opens.string Try.underlying9)))))))) (OpensF.one rfl (by kernel_rfl) (Opens.slice (B := 8) Try.underlying32 (by kernel_rfl) (by kernel_rfl) (Opens.int Try.underlying3))))))) enc W fuel2 _ _ hf2 (weight_at hsz (j := 2) rfl rfl)
  have e2 : (Value.agg cs2).cells.toList = cs2.toList := rfl
  rw [e2] at hK2
  generalize hg2 : cs2.toList = L2 at hK2
  obtain ⟨a2_0, a2_1, l2_2, l2_3⟩ := x2
  obtain ⟨b6, b6', rfl, g6, g6'⟩ := hK2
  obtain rfl := (show (_ : List Value) = [(.int .i64 a2_0 : Value)] from g6)
  obtain ⟨b7, b7', rfl, g7, g7'⟩ := g6'
  obtain rfl := (show (_ : List Value) = [(.int .i64 a2_1 : Value)] from g7)
  obtain ⟨b8, b8', rfl, g8, g8'⟩ := g7'
  obtain ⟨A2_2, c2_2, rfl, hc2_2, hr2_2⟩ := g8
  obtain ⟨A2_3, c2_3, rfl, hc2_3, hr2_3⟩ := g8'
  obtain rfl : cs2 = #[.int .i64 a2_0, .int .i64 a2_1, .slice A2_2 l2_2.length c2_2, .slice A2_3 l2_3.length c2_3] := by cases cs2; simpa using hg2
  clear hA0 hval0 hsz0 hsz
  obtain ⟨k, hp⟩ := Pure.MasterHolds a0_0 a0_1 a0_2 a0_3 a0_4 l1 a2_0 a2_1 l2_2 l2_3 (hw0.1) (hw0.2.1) (hw0.2.2.1) (hw0.2.2.2.1) (hw0.2.2.2.2) (hw1) (hw2.1) (hw2.2.1) (hw2.2.2.1) (hw2.2.2.2)
  refine (spylaw3_MasterHolds.calls k a0_0 a0_1 a0_2 a0_3 a0_4 _ _ l1 a2_0 a2_1 _ _ l2_2 _ _ l2_3 true W hr1 hc1 hr2_2 hc2_2 hr2_3 hc2_3 hp).mono fun e W' ⟨he, bel_⟩ => ?_
  have bel : Below W.heap.size W W' := bel_
  subst he
  exact ⟨_, rfl, _, _, _, [], _, [], hW', trodAll_mk1 (shut_bool Try.underlying4 _), (trodAll_cons_mk (Below.trod laidOut (by kernel_rfl) (of_decide_eq_true (by kernel_rfl)) k0_ bel lt0) (trodAll_cons_mk (Below.trod laidOut (by kernel_rfl) (of_decide_eq_true (by kernel_rfl)) k1_ bel lt1) (trodAll_cons_mk (Below.trod laidOut (by kernel_rfl) (of_decide_eq_true (by kernel_rfl)) k2_ bel lt2) trodAll_mk0))), rfl, bel.frame _, fun h => by cases h⟩
theorem over : Rows.masterHoldsRow.holds Try.pinned (OpenSpec.ofChange Rows.masterHoldsSpec) :=
  OpenClaim.holds_of_wide 4 Try.f4 rfl rfl rfl rfl rfl rfl rfl ⟨rfl, rfl, rfl, rfl, rfl⟩ rfl rfl rfl rfl rfl (by kernel_rfl) Try.func4 (by kernel_rfl)
    (of_decide_eq_true (by kernel_rfl)) (by unfold Func.isWrapper; first | (rw [if_pos (by decide +kernel)]; kernel_rfl) | (rw [if_neg (by decide +kernel)]; exact ⟨rfl, rfl⟩))
    (fun os started H enc _ => lifted os started H enc)
theorem proved : Rows.MasterHoldsSaid := over
#print axioms proved
end Go.Proofs.Ytjplkbeolakbjaa.masterHolds
namespace Go.Proofs.Ytjplkbeolakbjaa
/-- The row, under a short name, for the claim. -/
theorem masterHolds_holds : Rows.MasterHoldsSaid := masterHolds.proved
end Go.Proofs.Ytjplkbeolakbjaa
