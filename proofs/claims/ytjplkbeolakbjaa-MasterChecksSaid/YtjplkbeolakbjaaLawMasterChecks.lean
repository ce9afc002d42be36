/- The row of the law MasterChecks: for every input the call returns true. Over the law's printed contract and its pure statement. No conditions. -/
import Derived.Test.YtjplkbeolakbjaaRows
import Derived.Test.YtjplkbeolakbjaaSayMasterChecks
import Derived.Test.YtjplkbeolakbjaaPureMasterChecks
import Derived.Test.YtjplkbeolakbjaaOpen
import Derived.WalkKit
import Derived.ProofKit
import Derived.OpenShut
import Derived.ShutString
import Derived.ChangeOld
import Derived.Below
import Derived.SizedLaws
import Derived.Carry
import Derived.WideShapes
import Derived.KernelRfl
set_option linter.unusedVariables false
set_option linter.unusedSimpArgs false
namespace Go.Proofs.Ytjplkbeolakbjaa.masterChecks
open Go.ChangeShapes Go.WideShapes Go.ChangeAt Go.RowKit
open Go.ChangeMaps (open_string shut_string)
open Go.Proofs.Ytjplkbeolakbjaa.PMasterChecks Go.Proofs.YtjplkbeolakbjaaW.PrintWords Go.Proofs.Ytjplkbeolakbjaa.Open
theorem own : ownKnob Try.prog.godebug = none := by kernel_rfl
theorem laidOut : laidOutB Try.prog = true := by kernel_rfl
set_option maxRecDepth 100000 in
set_option maxHeartbeats 4000000 in
theorem lifted (os : Os) (started : os.Started) (H : Type) (enc : TypeId × Value → H) :
    ReturnsInHanded {} Try.checked os 6 .any (Rows.masterChecksSpec.pre6 enc Try.prog Try.f6 Rows.masterChecksRow.domain false) (Rows.masterChecksSpec.post enc Try.prog Try.f6 false true false false) := by
  refine returnsInHanded_of_change_sized (C := Try.checked) own started (by kernel_rfl) Try.func6
    (ChangeSpec.witness6 (enc := enc) (C := Try.checked) false ⟨#[], #[.agg #[.int .i64 0, .int .i64 0, .slice none 0 0, .slice none 0 0, .slice none 0 0, .int .i64 0, .int .i64 0, .int .i64 0], .agg #[.int .i64 0, .int .i64 0, .int .i64 0, .int .i64 0, .int .i64 0, .slice none 0 0, .slice none 0 0, .slice none 0 0]], []⟩ 8 (by kernel_rfl) (by kernel_rfl) (by kernel_rfl) (by kernel_rfl)) ?_
  intro W base args ds gs before hval0 hW hcnd hsz0 _
  have hsz : (DataW.weightsEach Try.prog (Try.f6.params.toList ++ Rows.masterChecksSpec.plain.varTypes Try.prog) (ds ++ gs)).all (· ≤ reachBytes) = true := hsz0
  have hval : ∀ (j : Nat) t v, Try.f6.params[j]? = some t → args[j]? = some v → Value.okWide Try.prog W .any base t v := hval0
  have hW' := hW
  obtain ⟨p, q, hA0, hV, rfl, hfz, hnd⟩ := hW
  have hA : DataW.TrodAll enc Try.prog W 0 (fun _ => true) true Try.f6.params.toList args.toList ds p := hA0
  rw [Try.params6] at hA hval hsz
  obtain ⟨v0, vs0, d0, ds0, p0, q0, hargs, rfl, rfl, h0, r0⟩ := trodAll_cons hA
  obtain ⟨v1, vs1, d1, ds1, p1, q1, rfl, rfl, rfl, h1, r1⟩ := trodAll_cons r0
  obtain ⟨rfl, rfl, rfl⟩ := trodAll_nil r1
  obtain rfl : args = #[v0, v1] := by cases args; simp_all
  obtain ⟨rfl, rfl⟩ := trodVars_none hV
  obtain ⟨cs0, rfl, hcs0⟩ := okWide_struct Try.underlying56 (hval 0 56 v0 rfl rfl)
  have k0_ := h0
  have lt0 : ∀ x ∈ p0, x.block < W.heap.size := by obtain ⟨m, hm⟩ := k0_; exact DataW.trod_lt m _ _ _ hm
  obtain ⟨fuel0, hf0⟩ := h0
  obtain ⟨x0, hK0, hw0⟩ := (Opens.struct Try.underlying56 (by kernel_rfl) (OpensF.cons rfl (by kernel_rfl) (Opens.int Try.underlying3) (OpensF.cons rfl (by kernel_rfl) (Opens.int Try.underlying3) (OpensF.cons rfl (by kernel_rfl) (Opens.slice (B := 8) Try.underlying32 (by kernel_rfl) (by kernel_rfl) (Opens.int Try.underlying3)) (OpensF.cons rfl (by kernel_rfl) (Opens.slice (B := 8) Try.underlying54 (by kernel_rfl) (by kernel_rfl) (Opens.int Try.underlying47)) (OpensF.cons rfl (by kernel_rfl) (Opens.slice (B := 8) Try.underlying32 (by kernel_rfl) (by kernel_rfl) (Opens.int Try.underlying3)) (OpensF.cons rfl (by kernel_rfl) (Opens.int Try.underlying27) (OpensF.cons rfl (by kernel_rfl) (Opens.int Try.underlying27) (OpensF.one rfl (by kernel_rfl) (Opens.int Try.underlying3)))))))))) enc W fuel0 _ _ hf0 (weight_at hsz (j := 0) rfl rfl)
  have e0 : (Value.agg cs0).cells.toList = cs0.toList := rfl
  rw [e0] at hK0
  generalize hg0 : cs0.toList = L0 at hK0
  obtain ⟨a0_0, a0_1, l0_2, l0_3, l0_4, a0_5, a0_6, a0_7⟩ := x0
  obtain ⟨b1, b1', rfl, g1, g1'⟩ := hK0
  obtain rfl := (show (_ : List Value) = [(.int .i64 a0_0 : Value)] from g1)
  obtain ⟨b2, b2', rfl, g2, g2'⟩ := g1'
  obtain rfl := (show (_ : List Value) = [(.int .i64 a0_1 : Value)] from g2)
  obtain ⟨b3, b3', rfl, g3, g3'⟩ := g2'
  obtain ⟨A0_2, c0_2, rfl, hc0_2, hr0_2⟩ := g3
  obtain ⟨b4, b4', rfl, g4, g4'⟩ := g3'
  obtain ⟨A0_3, c0_3, rfl, hc0_3, hr0_3⟩ := g4
  obtain ⟨b5, b5', rfl, g5, g5'⟩ := g4'
  obtain ⟨A0_4, c0_4, rfl, hc0_4, hr0_4⟩ := g5
  obtain ⟨b6, b6', rfl, g6, g6'⟩ := g5'
  obtain rfl := (show (_ : List Value) = [(.int .i64 a0_5 : Value)] from g6)
  obtain ⟨b7, b7', rfl, g7, g7'⟩ := g6'
  obtain rfl := (show (_ : List Value) = [(.int .i64 a0_6 : Value)] from g7)
  obtain rfl := (show (_ : List Value) = [(.int .i64 a0_7 : Value)] from g7')
  obtain rfl : cs0 = #[.int .i64 a0_0, .int .i64 a0_1, .slice A0_2 l0_2.length c0_2, .slice A0_3 l0_3.length c0_3, .slice A0_4 l0_4.length c0_4, .int .i64 a0_5, .int .i64 a0_6, .int .i64 a0_7] := by cases cs0; simpa using hg0
  obtain ⟨cs1, rfl, hcs1⟩ := okWide_struct Try.underlying60 (hval 1 60 v1 rfl rfl)
  have k1_ := h1
  have lt1 : ∀ x ∈ p1, x.block < W.heap.size := by obtain ⟨m, hm⟩ := k1_; exact DataW.trod_lt m _ _ _ hm
  obtain ⟨fuel1, hf1⟩ := h1
  obtain ⟨x1, hK1, hw1⟩ := (Opens.struct Try.underlying60 (by kernel_rfl) (OpensF.cons rfl (by kernel_rfl) (Opens.struct Try.underlying29 (by kernel_rfl) (OpensF.cons rfl (by kernel_rfl) (Opens.int Try.underlying3) (OpensF.cons rfl (by kernel_rfl) (Opens.int Try.underlying3) (OpensF.cons rfl (by kernel_rfl) (Opens.int Try.underlying27) (OpensF.cons rfl (by kernel_rfl) (Opens.int Try.underlying27) (OpensF.one rfl (by kernel_rfl) (Opens.int Try.underlying3))))))) (OpensF.cons rfl (by kernel_rfl) (Opens.slice (B := 24) Try.underlying30 (by kernel_rfl) (by kernel_rfl) (Opens.iso (fun x : S41 => (x.f0, x.f1, x.f2)) (fun x => (⟨x.1, x.2.1, x.2.2⟩ : S41)) (fun _ => rfl) (Opens.struct Try.underlying41 (by kernel_rfl) (OpensF.cons rfl (by kernel_rfl) (Opens.int Try.underlying39) (OpensF.cons rfl (by kernel_rfl) (Opens.int Try.underlying39) (OpensF.one rfl (by kernel_rfl) (Opens.bool Try.underlying4))))))) (OpensF.cons rfl (by kernel_rfl) (Opens.slice (B := 24) Try.underlying57 (by kernel_rfl) (by kernel_rfl) (Opens.iso (fun x : S142 => (x.f0, x.f1, x.f2)) (fun x => (⟨x.1, x.2.1, x.2.2⟩ : S142)) (fun _ => rfl) (Opens.struct Try.underlying142 (by kernel_rfl) (OpensF.cons rfl (by kernel_rfl) (Opens.int Try.underlying47) (OpensF.cons rfl (by kernel_rfl) (Opens.int Try.underlying47) (OpensF.one rfl (by kernel_rfl) (Opens.bool Try.underlying4))))))) (OpensF.one rfl (by kernel_rfl) (Opens.slice (B := 24) Try.underlying58 (by kernel_rfl) (by kernel_rfl) (Opens.iso (fun x : S145 => (x.f0, x.f1, x.f2)) (fun x => (⟨x.1, x.2.1, x.2.2⟩ : S145)) (fun _ => rfl) (Opens.struct Try.underlying145 (by kernel_rfl) (OpensF.cons rfl (by kernel_rfl) (Opens.int Try.underlying113) (OpensF.cons rfl (by kernel_rfl) (Opens.int Try.underlying113) (OpensF.one rfl (by kernel_rfl) (Opens.bool Try.underlying4)))))))))))) enc W fuel1 _ _ hf1 (weight_at hsz (j := 1) rfl rfl)
  have e1 : (Value.agg cs1).cells.toList = cs1.toList := rfl
  rw [e1] at hK1
  generalize hg1 : cs1.toList = L1 at hK1
  obtain ⟨⟨a1_0, a1_1, a1_2, a1_3, a1_4⟩, l1_5, l1_6, l1_7⟩ := x1
  obtain ⟨b9, b9', rfl, g9, g9'⟩ := hK1
  obtain ⟨b10, b10', rfl, g10, g10'⟩ := g9
  obtain rfl := (show (_ : List Value) = [(.int .i64 a1_0 : Value)] from g10)
  obtain ⟨b11, b11', rfl, g11, g11'⟩ := g10'
  obtain rfl := (show (_ : List Value) = [(.int .i64 a1_1 : Value)] from g11)
  obtain ⟨b12, b12', rfl, g12, g12'⟩ := g11'
  obtain rfl := (show (_ : List Value) = [(.int .i64 a1_2 : Value)] from g12)
  obtain ⟨b13, b13', rfl, g13, g13'⟩ := g12'
  obtain rfl := (show (_ : List Value) = [(.int .i64 a1_3 : Value)] from g13)
  obtain rfl := (show (_ : List Value) = [(.int .i64 a1_4 : Value)] from g13')
  obtain ⟨b15, b15', rfl, g15, g15'⟩ := g9'
  obtain ⟨A1_5, c1_5, rfl, hc1_5, hr1_5⟩ := g15
  obtain ⟨b16, b16', rfl, g16, g16'⟩ := g15'
  obtain ⟨A1_6, c1_6, rfl, hc1_6, hr1_6⟩ := g16
  obtain ⟨A1_7, c1_7, rfl, hc1_7, hr1_7⟩ := g16'
  obtain rfl : cs1 = #[.int .i64 a1_0, .int .i64 a1_1, .int .i64 a1_2, .int .i64 a1_3, .int .i64 a1_4, .slice A1_5 l1_5.length c1_5, .slice A1_6 l1_6.length c1_6, .slice A1_7 l1_7.length c1_7] := by cases cs1; simpa using hg1
  clear hA0 hval0 hsz0 hsz
  obtain ⟨k, hp⟩ := Pure.MasterChecks a0_0 a0_1 l0_2 l0_3 l0_4 a0_5 a0_6 a0_7 a1_0 a1_1 a1_2 a1_3 a1_4 l1_5 l1_6 l1_7 (hw0.1) (hw0.2.1) (hw0.2.2.1) (hw0.2.2.2.1) (hw0.2.2.2.2.1) (hw0.2.2.2.2.2.1) (hw0.2.2.2.2.2.2.1) (hw0.2.2.2.2.2.2.2) (hw1.1.1) (hw1.1.2.1) (hw1.1.2.2.1) (hw1.1.2.2.2.1) (hw1.1.2.2.2.2) (hw1.2.1) (hw1.2.2.1) (hw1.2.2.2)
  refine (spylaw3_MasterChecks.calls k a0_0 a0_1 _ _ l0_2 _ _ l0_3 _ _ l0_4 a0_5 a0_6 a0_7 a1_0 a1_1 a1_2 a1_3 a1_4 _ _ l1_5 _ _ l1_6 _ _ l1_7 true W hr0_2 hc0_2 hr0_3 hc0_3 hr0_4 hc0_4 hr1_5 hc1_5 hr1_6 hc1_6 hr1_7 hc1_7 hp).mono fun e W' ⟨he, bel_⟩ => ?_
  have bel : Below W.heap.size W W' := bel_
  subst he
  exact ⟨_, rfl, _, _, _, [], _, [], hW', trodAll_mk1 (shut_bool Try.underlying4 _), (trodAll_cons_mk (Below.trod laidOut (by kernel_rfl) (of_decide_eq_true (by kernel_rfl)) k0_ bel lt0) (trodAll_cons_mk (Below.trod laidOut (by kernel_rfl) (of_decide_eq_true (by kernel_rfl)) k1_ bel lt1) trodAll_mk0)), rfl, bel.frame _, fun h => by cases h⟩
theorem over : Rows.masterChecksRow.holds Try.pinned (OpenSpec.ofChange Rows.masterChecksSpec) :=
  OpenClaim.holds_of_wide 6 Try.f6 rfl rfl rfl rfl rfl rfl rfl ⟨rfl, rfl, rfl, rfl, rfl⟩ rfl rfl rfl rfl rfl (by kernel_rfl) Try.func6 (by kernel_rfl)
    (of_decide_eq_true (by kernel_rfl)) (by unfold Func.isWrapper; first | (rw [if_pos (by decide +kernel)]; kernel_rfl) | (rw [if_neg (by decide +kernel)]; exact ⟨rfl, rfl⟩))
    (fun os started H enc _ => lifted os started H enc)
theorem proved : Rows.MasterChecksSaid := over
#print axioms proved
end Go.Proofs.Ytjplkbeolakbjaa.masterChecks
namespace Go.Proofs.Ytjplkbeolakbjaa
/-- The row, under a short name, for the claim. -/
theorem masterChecks_holds : Rows.MasterChecksSaid := masterChecks.proved
end Go.Proofs.Ytjplkbeolakbjaa
