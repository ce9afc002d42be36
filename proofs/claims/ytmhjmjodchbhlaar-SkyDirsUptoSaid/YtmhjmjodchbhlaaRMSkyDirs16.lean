/- The row of the law SkyDirs: for every input the call returns true. Over the evaluator's contract of the law's function. No conditions. -/
import Derived.Test.YtmhjmjodchbhlaaRMSkyDirs15
import Derived.Test.YtmhjmjodchbhlaaRRows
import Derived.WalkKit
import Derived.ProofKit
import Derived.OpenShut
import Derived.ShutString
import Derived.ChangeOld
import Derived.Below
import Derived.SizedLaws
import Derived.Carry
import Derived.WideShapes
import Derived.KernelRfl
section
set_option linter.unusedVariables false
set_option linter.unusedSimpArgs false
set_option maxRecDepth 100000
namespace Go.Proofs.YtmhjmjodchbhlaaR.TopSkyDirs
open Go.Ev Go.Proofs.YtmhjmjodchbhlaaR.FxDir Go.Proofs.YtmhjmjodchbhlaaR.PullPull Go.Proofs.YtmhjmjodchbhlaaR.TypesRate Go.Proofs.YtmhjmjodchbhlaaR.SkiesPull
open Go.Proofs.YtmhjmjodchbhlaaR.SkyInRate
attribute [local go_sem] Ev.putR_s Ev.putR_0 Ev.thenO_s Ev.thenO_0 Ev.seqR_n Ev.seqR_e Ev.seqR_r Ev.seqR_0 Ev.blkR_e Ev.blkR_n Ev.blkR_r Ev.blkR_0 Ev.normR_s Ev.normR_0 Ev.outR_r Ev.outR_n Ev.outR_0 Ev.retS_s Ev.retS_0 Ev.pureO_s Ev.pureO_0 Ev.topR_0 Ev.topR_t Ev.topR_t0 Ev.oneL_0 Ev.oneL_s Ev.topR_d Ev.topR_nils Ev.topR_agg Ev.topR_rs Ev.evOp_move Ev.evOp_assign Ev.evOp_pick Ev.evOp_alloc Ev.evOp_box Ev.evOp_build Ev.evOp_buildSlice Ev.evOp_load Ev.evOp_store Ev.evOp_makeMap Ev.evOp_lookup Ev.evOp_mapUpdate Ev.evOp_insert Ev.evOp_nilCheck Ev.evOp_binOp Ev.evOp_unOp Ev.evOp_convert Ev.evOp_makeFunc Ev.evOp_makeSlice Ev.evOp_slice Ev.evOp_fieldAddr Ev.evOp_field Ev.evOp_indexAddr Ev.evOp_index Ev.evOp_extract Ev.evOp_call Ev.evOp_append Ev.evOp_len Ev.evOp_min Ev.evOp_max Ev.condR_b Ev.condR_t Ev.evOps_nil Ev.evOps_plain Ev.evOps_guard Ev.runG_eq Ev.skipG_eq Ev.condL_tt Ev.condL_ff Ev.condL_tf Ev.condL_ft Ev.condL_u Ev.condC_t Ev.condC_f Ev.evC_skip Ev.evC_ret Ev.evC_exit Ev.evC_label Ev.evC_region Ev.evC_draw Ev.evC_seq Ev.evC_cond Ev.evC_block Ev.evC_loop Ev.fin_d Ev.fin_nils Ev.fin_agg_ Ev.fin_rs Ev.finS_s Ev.mapO_fin Ev.upd_upd Ev.argv_d Ev.argv_nils Ev.argv_agg Ev.argv_rs Ev.argv_p Ev.appendTo_nils Ev.appendTo_rs Ev.consV_d Ev.consV_agg Ev.consV_p Ev.consV_rs Ev.consV_nils Ev.consV_fn Ev.consV_und Ev.consV_jk Ev.consV_grown Ev.topR_grown Ev.len_grown Ev.consV_mp Ev.sameK_i Ev.sameK_s Ev.mget_0 Ev.mget_hit Ev.mget_miss Ev.mput_0 Ev.mput_hit Ev.mput_miss Ev.apartAll Ev.apartL Ev.apartV Ev.freeAll Ev.sel Ev.keyOfV Ev.evLookup Ev.evPut Ev.hintOk Ev.keyOk Ev.consP Ev.lookV Ev.guardV Ev.dstAt Ev.evPure Ev.evStore Ev.evPureB Ev.evBin Ev.evBinO Ev.evNil Ev.isNilC Ev.evUn Ev.evConv Ev.evSlice Ev.optI Ev.lenV Ev.elemT Ev.foldI Ev.capsOk Ev.noTup Ev.nth Ev.setN Ev.pad Ev.V.get Ev.V.put Ev.putD Ev.hasT Ev.newBlk Ev.upd Ev.keq Ev.empty Ev.evCall Ev.V.args Ev.argP Ev.callOf Ev.evNilP Ev.isNilP Ev.look Ev.V.view.views Ev.V.view Ev.V.toD Ev.V.toD.V.toDs Ev.V.pure.pures Ev.V.pure Ev.D.flat.flats Ev.D.flat Ev.mkAgg Ev.allD Ev.aggParts Ev.setParts Ev.setElems Ev.getPath Ev.setPath Ev.subL Ev.eqD Ev.eqD.eqDs Ev.and2 Ev.strCut Ev.evalT Ev.constT Ev.evArgs Ev.mask Ev.maskOf Ev.tableOf Ev.compT Ev.resV Ev.retV Ev.mapO Ev.elemsOf Int.cast_ofNat_Int IntWalk.i64_in IntWalk.u64_in IntWalk.u8_in beq_self_eq_true Bool.true_beq Bool.false_beq Bool.and_true Bool.true_and Bool.false_and Bool.and_false Bool.and_self Bool.not_true Bool.not_false Bool.not_eq_true cond_true cond_false if_true if_false and_true true_and and_self decide_true decide_false Bool.or_true Bool.true_or Bool.or_false Bool.false_or List.isEmpty List.isEmpty_nil List.size_toArray List.map List.length_map List.length_cons List.length_nil Option.map Option.bind Option.getD Option.isSome List.replicate Bool.false_eq_true implies_true forall_const Array.toList Array.isEmpty List.append List.nil_append List.cons_append List.drop_zero List.take_length List.take_succ_cons List.take_zero List.take_nil List.getElem?_map List.getElem?_cons_zero List.getElem?_cons_succ List.getElem?_nil List.append_nil
attribute [local go_sem] FxDir.tk2 FxDir.ik2 FxDir.ek2 FxDir.zv2 FxDir.tk3 FxDir.ik3 FxDir.zv3 FxDir.tk4 FxDir.ub4 FxDir.zv4 FxDir.tk23 FxDir.ct23 FxDir.ek23 FxDir.zv23 FxDir.tk27 FxDir.ik27 FxDir.zv27 FxDir.tk37 FxDir.ik37 FxDir.zv37 FxDir.by37 FxDir.so37 FxDir.tk39 FxDir.ct39 FxDir.zv39 FxDir.by39 FxDir.so39 FxDir.tk43 FxDir.zv43 FxDir.tk44 FxDir.zv44 FxDir.tk45 FxDir.zv45 FxDir.tk47 FxDir.ct47 FxDir.zv47 FxDir.tk48 FxDir.ik48 FxDir.zv48 FxDir.tk76 FxDir.ct76 FxDir.zv76 FxDir.by76 FxDir.so76 FxDir.tk77 FxDir.zv77 FxDir.tk79 FxDir.ct79 FxDir.zv79 FxDir.by79 FxDir.so79 FxDir.tk102 FxDir.zv102 FxDir.tk108 FxDir.zv108 FxDir.tk110 FxDir.ek110 FxDir.zv110 FxDir.tk111 FxDir.ek111 FxDir.zv111 FxDir.tk112 FxDir.zv112 FxDir.tk114 FxDir.ct114 FxDir.zv114 FxDir.by114 FxDir.so114 FxDir.tk116 FxDir.zv116 FxDir.tk118 FxDir.zv118 FxDir.mk9_1000000 FxDir.mk28_1000000 FxDir.mk29_0 FxDir.mk29_1000001 FxDir.mk29_1000002 FxDir.mk29_1000003 FxDir.mk29_1000000 FxDir.mk30_1000000 FxDir.mk31_1000000 FxDir.mk72_0 FxDir.mk72_1000001 FxDir.mk72_1000002 FxDir.mk72_1000000 FxDir.mk73_1000000 FxDir.mk74_0 FxDir.mk74_1000001 FxDir.mk74_1000002 FxDir.mk74_1000000 FxDir.mk75_1000000 FxDir.mk76_0 FxDir.mk76_1000001 FxDir.mk76_1000002 FxDir.mk76_1000000 FxDir.mk77_1000000 FxDir.mk78_0 FxDir.mk78_1000001 FxDir.mk78_1000002 FxDir.mk78_1000000
open Go.Proofs.YtmhjmjodchbhlaaR.PathPath (Bod bD)
open Go.Proofs.YtmhjmjodchbhlaaR.SkyFRate (okSky)
open Go.Proofs.YtmhjmjodchbhlaaR.RateARate (sky_D)
open Go.Proofs.YtmhjmjodchbhlaaR.FitDir (sToward sToward_run toward_ok headed_ok towardR)
open Go.Proofs.YtmhjmjodchbhlaaR.DirDir (sDir dir_ok dirR)
open Go.Proofs.YtmhjmjodchbhlaaR.DirbDir (directed_ok)
noncomputable def G : Specs := [(14, known [.bool true]), (28, sDir), (29, sDir), (30, sToward), (31, sToward)]
noncomputable def T : Table := tableOf [(9, en9)]
theorem G_ok : ∀ g s, Ev.look G g = some s → SpecOk Try.prog g s := specs_cons skies_ok (specs_cons dir_ok (specs_cons directed_ok (specs_cons toward_ok (specs_cons headed_ok specs_nil))))
theorem T_ok : TableOk Try.prog (G.map (·.1)) T := (table_cons Try.func9 (by kernel_rfl) (by kernel_rfl) table_nil)
theorem sDir_run (s : Sky) (id t : Int) (h : okSky s) : sDir.run [s.D, .int .i64 id, .int .i64 t] = some [vD (dirR s id t).1, .int .i64 (dirR s id t).2] := specC_run (cCons cSky (cCons (cI .i64) (cOne (cI .i64)))) _ _ (s, id, t) h
theorem top (a0_0 : Int) (a0_1 : List (Int × (Int × Int × Int × Unit) × Int × List Int × Int × Int × Int × Unit)) (a0_2 : List (Int × (Int × Int × Int × Unit) × Int × Int × Int × Unit)) (a0_3 : List (Int × (Int × Int × Int × Unit) × (Int × Int × Int × Unit) × Int × Unit)) (a0_4_0 : Int) (a0_4_1_0 : Int) (a0_4_1_1 : Int) (a0_4_1_2 : Int) (a0_4_2_0 : Int) (a0_4_2_1 : Int) (a0_4_2_2 : Int) (a0_4_3 : Int) (a1 : Int) (a2 : Int) (a3_0 : Int) (a3_1 : Int) (a3_2 : Int) (a4_0 : Int) (a4_1 : Int) (a4_2 : Int) (h0 : ((Lit.int .i64 a0_0).wf = true) ∧ (a0_1.length ≤ 1048576 ∧ ∀ y ∈ a0_1, ((Lit.int .i64 y.1).wf = true) ∧ (((Lit.int .i64 y.2.1.1).wf = true) ∧ ((Lit.int .i64 y.2.1.2.1).wf = true) ∧ ((Lit.int .i64 y.2.1.2.2.1).wf = true) ∧ True) ∧ ((Lit.int .i64 y.2.2.1).wf = true) ∧ (y.2.2.2.1.length ≤ 1048576 ∧ ∀ zy2221 ∈ y.2.2.2.1, (Lit.int .i64 zy2221).wf = true) ∧ ((Lit.int .i64 y.2.2.2.2.1).wf = true) ∧ ((Lit.int .i64 y.2.2.2.2.2.1).wf = true) ∧ ((Lit.int .i64 y.2.2.2.2.2.2.1).wf = true) ∧ True) ∧ (a0_2.length ≤ 1048576 ∧ ∀ y ∈ a0_2, ((Lit.int .i64 y.1).wf = true) ∧ (((Lit.int .i64 y.2.1.1).wf = true) ∧ ((Lit.int .i64 y.2.1.2.1).wf = true) ∧ ((Lit.int .i64 y.2.1.2.2.1).wf = true) ∧ True) ∧ ((Lit.int .i64 y.2.2.1).wf = true) ∧ ((Lit.int .i64 y.2.2.2.1).wf = true) ∧ ((Lit.int .i64 y.2.2.2.2.1).wf = true) ∧ True) ∧ (a0_3.length ≤ 1048576 ∧ ∀ y ∈ a0_3, ((Lit.int .i64 y.1).wf = true) ∧ (((Lit.int .i64 y.2.1.1).wf = true) ∧ ((Lit.int .i64 y.2.1.2.1).wf = true) ∧ ((Lit.int .i64 y.2.1.2.2.1).wf = true) ∧ True) ∧ (((Lit.int .i64 y.2.2.1.1).wf = true) ∧ ((Lit.int .i64 y.2.2.1.2.1).wf = true) ∧ ((Lit.int .i64 y.2.2.1.2.2.1).wf = true) ∧ True) ∧ ((Lit.int .i64 y.2.2.2.1).wf = true) ∧ True) ∧ (((Lit.int .i64 a0_4_0).wf = true) ∧ (((Lit.int .i64 a0_4_1_0).wf = true) ∧ ((Lit.int .i64 a0_4_1_1).wf = true) ∧ ((Lit.int .i64 a0_4_1_2).wf = true) ∧ True) ∧ (((Lit.int .i64 a0_4_2_0).wf = true) ∧ ((Lit.int .i64 a0_4_2_1).wf = true) ∧ ((Lit.int .i64 a0_4_2_2).wf = true) ∧ True) ∧ ((Lit.int .i64 a0_4_3).wf = true) ∧ True) ∧ True) (h1 : (Lit.int .i64 a1).wf = true) (h2 : (Lit.int .i64 a2).wf = true) (h3 : ((Lit.int .i64 a3_0).wf = true) ∧ ((Lit.int .i64 a3_1).wf = true) ∧ ((Lit.int .i64 a3_2).wf = true) ∧ True) (h4 : ((Lit.int .i64 a4_0).wf = true) ∧ ((Lit.int .i64 a4_1).wf = true) ∧ ((Lit.int .i64 a4_2).wf = true) ∧ True) : ∃ L c, evTop Try.prog G T L c 9 [D.agg 47 [.int .i64 a0_0, D.sl 79 (a0_1.map (fun ya0_1 : Int × (Int × Int × Int × Unit) × Int × List Int × Int × Int × Int × Unit => D.agg 79 [.int .i64 ya0_1.1, D.agg 23 [.int .i64 ya0_1.2.1.1, .int .i64 ya0_1.2.1.2.1, .int .i64 ya0_1.2.1.2.2.1], .int .i64 ya0_1.2.2.1, D.sl 37 (ya0_1.2.2.2.1.map (.int .i64)), .int .i64 ya0_1.2.2.2.2.1, .int .i64 ya0_1.2.2.2.2.2.1, .int .i64 ya0_1.2.2.2.2.2.2.1])), D.sl 76 (a0_2.map (fun ya0_2 : Int × (Int × Int × Int × Unit) × Int × Int × Int × Unit => D.agg 76 [.int .i64 ya0_2.1, D.agg 23 [.int .i64 ya0_2.2.1.1, .int .i64 ya0_2.2.1.2.1, .int .i64 ya0_2.2.1.2.2.1], .int .i64 ya0_2.2.2.1, .int .i64 ya0_2.2.2.2.1, .int .i64 ya0_2.2.2.2.2.1])), D.sl 39 (a0_3.map (fun ya0_3 : Int × (Int × Int × Int × Unit) × (Int × Int × Int × Unit) × Int × Unit => D.agg 39 [.int .i64 ya0_3.1, D.agg 23 [.int .i64 ya0_3.2.1.1, .int .i64 ya0_3.2.1.2.1, .int .i64 ya0_3.2.1.2.2.1], D.agg 23 [.int .i64 ya0_3.2.2.1.1, .int .i64 ya0_3.2.2.1.2.1, .int .i64 ya0_3.2.2.1.2.2.1], .int .i64 ya0_3.2.2.2.1])), D.agg 39 [.int .i64 a0_4_0, D.agg 23 [.int .i64 a0_4_1_0, .int .i64 a0_4_1_1, .int .i64 a0_4_1_2], D.agg 23 [.int .i64 a0_4_2_0, .int .i64 a0_4_2_1, .int .i64 a0_4_2_2], .int .i64 a0_4_3]], .int .i64 a1, .int .i64 a2, D.agg 23 [.int .i64 a3_0, .int .i64 a3_1, .int .i64 a3_2], D.agg 23 [.int .i64 a4_0, .int .i64 a4_1, .int .i64 a4_2]] = some [.bool true] := by
  refine ⟨0, 1, ?_⟩
  rw [st_map, ga_map, bo_map]
  have hr := sDir_run ⟨a0_0, a0_1.map toStar, a0_2.map toGal, a0_3.map toBod, (a0_4_0, (a0_4_1_0, a0_4_1_1, a0_4_1_2), (a0_4_2_0, a0_4_2_1, a0_4_2_2), a0_4_3)⟩ a1 a2 (ok_in h0.2.1.1 (fun y hy => (h0.2.1.2 y hy).2.2.2.1.1) h0.2.2.1.1 h0.2.2.2.1.1)
  have ht := sToward_run (a3_0, a3_1, a3_2) (a4_0, a4_1, a4_2)
  generalize dirR ⟨a0_0, a0_1.map toStar, a0_2.map toGal, a0_3.map toBod, (a0_4_0, (a0_4_1_0, a0_4_1_1, a0_4_1_2), (a0_4_2_0, a0_4_2_1, a0_4_2_2), a0_4_3)⟩ a1 a2 = S at hr
  generalize towardR (a3_0, a3_1, a3_2) (a4_0, a4_1, a4_2) = W at ht
  simp only [sky_D, bD, vD] at hr
  simp only [vD] at ht
  unfold evTop
  simp only [List.map]
  rw [evF_s (fn := Try.f9) (msk := en9.ms) (hT := by rfl) (hb := by rfl)]
  simp only [Try.f9, G, go_sem, Nat.reduceAdd, Nat.reduceSub, Nat.reduceMul, Nat.reduceEqDiff, Nat.reduceBEq, Nat.reduceLT, Nat.reduceLeDiff, Nat.reducePow, Int.reduceToNat, Int.reduceLT, Int.reduceLE, Int.reduceGT, Int.reduceGE, Int.reduceEq, Int.reduceNeg, Int.reduceAdd, Int.reduceSub, ↓reduceIte, reduceCtorEq, known_run, hr, ht]
end Go.Proofs.YtmhjmjodchbhlaaR.TopSkyDirs
end
section
set_option linter.unusedVariables false
set_option linter.unusedSimpArgs false
namespace Go.Proofs.YtmhjmjodchbhlaaR.skyDirs
open Go.ChangeShapes Go.WideShapes Go.ChangeAt Go.RowKit
open Go.ChangeMaps (open_string shut_string)
open Go.Ev (Opens OpensF OpensU OpensFU bulk_at returns_cond_sized witness_small arg_agg arg_one weight_at law_calls call_of_ev ArgsOk D Fl)
theorem own : ownKnob Try.prog.godebug = none := by kernel_rfl
theorem laidOut : laidOutB Try.prog = true := by kernel_rfl
set_option maxRecDepth 100000 in
set_option maxHeartbeats 4000000 in
theorem lifted (os : Os) (started : os.Started) (H : Type) (enc : TypeId × Value → H) (F : Stop.Interp) :
    ReturnsInHanded {} Try.checked os 9 .any ((Rows.OpenSpec.upto Rows.skyDirsSpec).pre6 enc Try.prog Try.f9 Rows.skyDirsUptoRow.domain false) (((Rows.OpenSpec.upto Rows.skyDirsSpec).at F).post enc Try.prog Try.f9 false true false false) := by
  refine returns_cond_sized (C := Try.checked) (s := Rows.OpenSpec.upto Rows.skyDirsSpec) (k := Rows.uptoSmall) rfl (F := F) own started (by kernel_rfl) Try.func9
    (witness_small (enc := enc) (C := Try.checked) (s := Rows.OpenSpec.upto Rows.skyDirsSpec) (k := Rows.uptoSmall) rfl false ⟨#[], #[.agg #[.int .i64 0, .slice none 0 0, .slice none 0 0, .slice none 0 0, .int .i64 0, .int .i64 0, .int .i64 0, .int .i64 0, .int .i64 0, .int .i64 0, .int .i64 0, .int .i64 0], .int .i64 0, .int .i64 0, .agg #[.int .i64 0, .int .i64 0, .int .i64 0], .agg #[.int .i64 0, .int .i64 0, .int .i64 0]], []⟩ 8 (by kernel_rfl) (by kernel_rfl) (by kernel_rfl) (by kernel_rfl) (by kernel_rfl)) ?_
  intro W base args ds gs before hval0 hW hsz0 hbk0
  have hsz : (DataW.weightsEach Try.prog (Try.f9.params.toList ++ Rows.skyDirsSpec.plain.varTypes Try.prog) (ds ++ gs)).all (· ≤ reachBytes) = true := hsz0
  have hval : ∀ (j : Nat) t v, Try.f9.params[j]? = some t → args[j]? = some v → Value.okWide Try.prog W .any base t v := hval0
  have hW' := hW
  obtain ⟨p, q, hA0, hV, rfl, hfz, hnd⟩ := hW
  have hA : DataW.TrodAll enc Try.prog W 0 (fun _ => true) true Try.f9.params.toList args.toList ds p := hA0
  rw [Try.params9] at hA hval hsz
  obtain ⟨v0, vs0, d0, ds0, p0, q0, hargs, rfl, rfl, h0, r0⟩ := trodAll_cons hA
  obtain ⟨v1, vs1, d1, ds1, p1, q1, rfl, rfl, rfl, h1, r1⟩ := trodAll_cons r0
  obtain ⟨v2, vs2, d2, ds2, p2, q2, rfl, rfl, rfl, h2, r2⟩ := trodAll_cons r1
  obtain ⟨v3, vs3, d3, ds3, p3, q3, rfl, rfl, rfl, h3, r3⟩ := trodAll_cons r2
  obtain ⟨v4, vs4, d4, ds4, p4, q4, rfl, rfl, rfl, h4, r4⟩ := trodAll_cons r3
  obtain ⟨rfl, rfl, rfl⟩ := trodAll_nil r4
  obtain rfl : args = #[v0, v1, v2, v3, v4] := by cases args; simp_all
  obtain ⟨rfl, rfl⟩ := trodVars_none hV
  have hbk := of_decide_eq_true (hbk0 : decide (Rows.uptoBulkAll _ ≤ 1048576) = true)
  obtain ⟨cs0, rfl, hcs0⟩ := okWide_struct Try.underlying47 (hval 0 47 v0 rfl rfl)
  have k0_ := h0
  have lt0 : ∀ x ∈ p0, x.block < W.heap.size := by obtain ⟨m, hm⟩ := k0_; exact DataW.trod_lt m _ _ _ hm
  obtain ⟨fuel0, hf0⟩ := h0
  obtain ⟨x0, hK0, hw0⟩ := (OpensU.struct Try.underlying47 (by kernel_rfl) (OpensFU.cons rfl (OpensU.of (Opens.int Try.underlying37)) (OpensFU.cons rfl (OpensU.slice (B := 88) Try.underlying43 (of_decide_eq_true (by kernel_rfl)) (by kernel_rfl) (OpensU.struct Try.underlying79 (by kernel_rfl) (OpensFU.cons rfl (OpensU.of (Opens.int Try.underlying3)) (OpensFU.cons rfl (OpensU.struct Try.underlying23 (by kernel_rfl) (OpensFU.cons rfl (OpensU.of (Opens.int Try.underlying2)) (OpensFU.cons rfl (OpensU.of (Opens.int Try.underlying2)) (OpensFU.cons rfl (OpensU.of (Opens.int Try.underlying2)) OpensFU.nil)))) (OpensFU.cons rfl (OpensU.of (Opens.int Try.underlying37)) (OpensFU.cons rfl (OpensU.slice (B := 8) Try.underlying77 (of_decide_eq_true (by kernel_rfl)) (by kernel_rfl) (OpensU.of (Opens.int Try.underlying37))) (OpensFU.cons rfl (OpensU.of (Opens.int Try.underlying48)) (OpensFU.cons rfl (OpensU.of (Opens.int Try.underlying48)) (OpensFU.cons rfl (OpensU.of (Opens.int Try.underlying48)) OpensFU.nil))))))))) (OpensFU.cons rfl (OpensU.slice (B := 56) Try.underlying44 (of_decide_eq_true (by kernel_rfl)) (by kernel_rfl) (OpensU.struct Try.underlying76 (by kernel_rfl) (OpensFU.cons rfl (OpensU.of (Opens.int Try.underlying3)) (OpensFU.cons rfl (OpensU.struct Try.underlying23 (by kernel_rfl) (OpensFU.cons rfl (OpensU.of (Opens.int Try.underlying2)) (OpensFU.cons rfl (OpensU.of (Opens.int Try.underlying2)) (OpensFU.cons rfl (OpensU.of (Opens.int Try.underlying2)) OpensFU.nil)))) (OpensFU.cons rfl (OpensU.of (Opens.int Try.underlying37)) (OpensFU.cons rfl (OpensU.of (Opens.int Try.underlying3)) (OpensFU.cons rfl (OpensU.of (Opens.int Try.underlying3)) OpensFU.nil))))))) (OpensFU.cons rfl (OpensU.slice (B := 64) Try.underlying45 (of_decide_eq_true (by kernel_rfl)) (by kernel_rfl) (OpensU.struct Try.underlying39 (by kernel_rfl) (OpensFU.cons rfl (OpensU.of (Opens.int Try.underlying3)) (OpensFU.cons rfl (OpensU.struct Try.underlying23 (by kernel_rfl) (OpensFU.cons rfl (OpensU.of (Opens.int Try.underlying2)) (OpensFU.cons rfl (OpensU.of (Opens.int Try.underlying2)) (OpensFU.cons rfl (OpensU.of (Opens.int Try.underlying2)) OpensFU.nil)))) (OpensFU.cons rfl (OpensU.struct Try.underlying23 (by kernel_rfl) (OpensFU.cons rfl (OpensU.of (Opens.int Try.underlying2)) (OpensFU.cons rfl (OpensU.of (Opens.int Try.underlying2)) (OpensFU.cons rfl (OpensU.of (Opens.int Try.underlying2)) OpensFU.nil)))) (OpensFU.cons rfl (OpensU.of (Opens.int Try.underlying37)) OpensFU.nil)))))) (OpensFU.cons rfl (OpensU.struct Try.underlying39 (by kernel_rfl) (OpensFU.cons rfl (OpensU.of (Opens.int Try.underlying3)) (OpensFU.cons rfl (OpensU.struct Try.underlying23 (by kernel_rfl) (OpensFU.cons rfl (OpensU.of (Opens.int Try.underlying2)) (OpensFU.cons rfl (OpensU.of (Opens.int Try.underlying2)) (OpensFU.cons rfl (OpensU.of (Opens.int Try.underlying2)) OpensFU.nil)))) (OpensFU.cons rfl (OpensU.struct Try.underlying23 (by kernel_rfl) (OpensFU.cons rfl (OpensU.of (Opens.int Try.underlying2)) (OpensFU.cons rfl (OpensU.of (Opens.int Try.underlying2)) (OpensFU.cons rfl (OpensU.of (Opens.int Try.underlying2)) OpensFU.nil)))) (OpensFU.cons rfl (OpensU.of (Opens.int Try.underlying37)) OpensFU.nil))))) OpensFU.nil)))))) enc W fuel0 _ _ hf0 (weight_at hsz (j := 0) rfl rfl) (bulk_at hbk (j := 0) rfl)
  obtain ⟨a0_0, a0_1, a0_2, a0_3, ⟨a0_4_0, ⟨a0_4_1_0, a0_4_1_1, a0_4_1_2, ⟨⟩⟩, ⟨a0_4_2_0, a0_4_2_1, a0_4_2_2, ⟨⟩⟩, a0_4_3, ⟨⟩⟩, ⟨⟩⟩ := x0
  obtain ⟨a1, rfl, rfl, rfl, hw1⟩ := open_int Try.underlying3 (hval 1 3 v1 rfl rfl) h1
  obtain ⟨a2, rfl, rfl, rfl, hw2⟩ := open_int Try.underlying48 (hval 2 48 v2 rfl rfl) h2
  obtain ⟨cs3, rfl, hcs3⟩ := okWide_struct Try.underlying23 (hval 3 23 v3 rfl rfl)
  have k3_ := h3
  have lt3 : ∀ x ∈ p3, x.block < W.heap.size := by obtain ⟨m, hm⟩ := k3_; exact DataW.trod_lt m _ _ _ hm
  obtain ⟨fuel3, hf3⟩ := h3
  obtain ⟨x3, hK3, hw3⟩ := (OpensU.struct Try.underlying23 (by kernel_rfl) (OpensFU.cons rfl (OpensU.of (Opens.int Try.underlying2)) (OpensFU.cons rfl (OpensU.of (Opens.int Try.underlying2)) (OpensFU.cons rfl (OpensU.of (Opens.int Try.underlying2)) OpensFU.nil)))) enc W fuel3 _ _ hf3 (weight_at hsz (j := 3) rfl rfl) (bulk_at hbk (j := 3) rfl)
  obtain ⟨a3_0, a3_1, a3_2, ⟨⟩⟩ := x3
  obtain ⟨cs4, rfl, hcs4⟩ := okWide_struct Try.underlying23 (hval 4 23 v4 rfl rfl)
  have k4_ := h4
  have lt4 : ∀ x ∈ p4, x.block < W.heap.size := by obtain ⟨m, hm⟩ := k4_; exact DataW.trod_lt m _ _ _ hm
  obtain ⟨fuel4, hf4⟩ := h4
  obtain ⟨x4, hK4, hw4⟩ := (OpensU.struct Try.underlying23 (by kernel_rfl) (OpensFU.cons rfl (OpensU.of (Opens.int Try.underlying2)) (OpensFU.cons rfl (OpensU.of (Opens.int Try.underlying2)) (OpensFU.cons rfl (OpensU.of (Opens.int Try.underlying2)) OpensFU.nil)))) enc W fuel4 _ _ hf4 (weight_at hsz (j := 4) rfl rfl) (bulk_at hbk (j := 4) rfl)
  obtain ⟨a4_0, a4_1, a4_2, ⟨⟩⟩ := x4
  clear hA0 hval0 hsz0 hsz hbk0 hbk
  obtain ⟨L, c, ht⟩ := TopSkyDirs.top a0_0 a0_1 a0_2 a0_3 a0_4_0 a0_4_1_0 a0_4_1_1 a0_4_1_2 a0_4_2_0 a0_4_2_1 a0_4_2_2 a0_4_3 a1 a2 a3_0 a3_1 a3_2 a4_0 a4_1 a4_2 hw0 hw1 hw2 hw3 hw4
  have hok : ArgsOk Try.prog (Go.Ev.Old W) W [D.agg 47 [.int .i64 a0_0, D.sl 79 (a0_1.map (fun ya0_1 : Int × (Int × Int × Int × Unit) × Int × List Int × Int × Int × Int × Unit => D.agg 79 [.int .i64 ya0_1.1, D.agg 23 [.int .i64 ya0_1.2.1.1, .int .i64 ya0_1.2.1.2.1, .int .i64 ya0_1.2.1.2.2.1], .int .i64 ya0_1.2.2.1, D.sl 37 (ya0_1.2.2.2.1.map (.int .i64)), .int .i64 ya0_1.2.2.2.2.1, .int .i64 ya0_1.2.2.2.2.2.1, .int .i64 ya0_1.2.2.2.2.2.2.1])), D.sl 76 (a0_2.map (fun ya0_2 : Int × (Int × Int × Int × Unit) × Int × Int × Int × Unit => D.agg 76 [.int .i64 ya0_2.1, D.agg 23 [.int .i64 ya0_2.2.1.1, .int .i64 ya0_2.2.1.2.1, .int .i64 ya0_2.2.1.2.2.1], .int .i64 ya0_2.2.2.1, .int .i64 ya0_2.2.2.2.1, .int .i64 ya0_2.2.2.2.2.1])), D.sl 39 (a0_3.map (fun ya0_3 : Int × (Int × Int × Int × Unit) × (Int × Int × Int × Unit) × Int × Unit => D.agg 39 [.int .i64 ya0_3.1, D.agg 23 [.int .i64 ya0_3.2.1.1, .int .i64 ya0_3.2.1.2.1, .int .i64 ya0_3.2.1.2.2.1], D.agg 23 [.int .i64 ya0_3.2.2.1.1, .int .i64 ya0_3.2.2.1.2.1, .int .i64 ya0_3.2.2.1.2.2.1], .int .i64 ya0_3.2.2.2.1])), D.agg 39 [.int .i64 a0_4_0, D.agg 23 [.int .i64 a0_4_1_0, .int .i64 a0_4_1_1, .int .i64 a0_4_1_2], D.agg 23 [.int .i64 a0_4_2_0, .int .i64 a0_4_2_1, .int .i64 a0_4_2_2], .int .i64 a0_4_3]], .int .i64 a1, .int .i64 a2, D.agg 23 [.int .i64 a3_0, .int .i64 a3_1, .int .i64 a3_2], D.agg 23 [.int .i64 a4_0, .int .i64 a4_1, .int .i64 a4_2]] [(.agg cs0 : Value), (.int .i64 a1 : Value), (.int .i64 a2 : Value), (.agg cs3 : Value), (.agg cs4 : Value)] := fun σ st => ⟨_, _, rfl, arg_agg rfl hK0, ⟨_, _, rfl, arg_one rfl rfl, ⟨_, _, rfl, arg_one rfl rfl, ⟨_, _, rfl, arg_agg rfl hK3, ⟨_, _, rfl, arg_agg rfl hK4, rfl⟩⟩⟩⟩⟩
  refine (law_calls Try.func9 (by kernel_rfl) (by kernel_rfl) (call_of_ev FxDir.mixed TopSkyDirs.G_ok TopSkyDirs.T_ok ht (fun _ h => h) hok)).mono fun e W' ⟨he, bel⟩ => ?_
  subst he
  exact ⟨_, rfl, _, _, _, [], _, [], hW', trodAll_mk1 (shut_bool Try.underlying4 _), (trodAll_cons_mk (Below.trod laidOut (by kernel_rfl) (of_decide_eq_true (by kernel_rfl)) k0_ bel lt0) (trodAll_cons_mk (shut_int Try.underlying3 hw1) (trodAll_cons_mk (shut_int Try.underlying48 hw2) (trodAll_cons_mk (Below.trod laidOut (by kernel_rfl) (of_decide_eq_true (by kernel_rfl)) k3_ bel lt3) (trodAll_cons_mk (Below.trod laidOut (by kernel_rfl) (of_decide_eq_true (by kernel_rfl)) k4_ bel lt4) trodAll_mk0))))), rfl, bel.frame _, fun h => by cases h⟩
theorem over : Rows.skyDirsUptoRow.holds Try.pinned (Rows.OpenSpec.upto Rows.skyDirsSpec) :=
  OpenClaim.holds_of_cond 9 Try.f9 rfl rfl rfl rfl rfl rfl rfl ⟨rfl, rfl, rfl, rfl, rfl⟩ rfl rfl rfl rfl rfl (by kernel_rfl) Try.func9 (by kernel_rfl)
    (of_decide_eq_true (by kernel_rfl)) (by unfold Func.isWrapper; first | (rw [if_pos (by decide +kernel)]; kernel_rfl) | (rw [if_neg (by decide +kernel)]; exact ⟨rfl, rfl⟩))
    (fun os started H enc _ F => lifted os started H enc F)
theorem proved : Rows.SkyDirsUptoSaid := over
#print axioms proved
end Go.Proofs.YtmhjmjodchbhlaaR.skyDirs
namespace Go.Proofs.YtmhjmjodchbhlaaR
/-- The row, under a short name, for the claim. -/
theorem skyDirs_holds : Rows.SkyDirsUptoSaid := skyDirs.proved
end Go.Proofs.YtmhjmjodchbhlaaR
end
