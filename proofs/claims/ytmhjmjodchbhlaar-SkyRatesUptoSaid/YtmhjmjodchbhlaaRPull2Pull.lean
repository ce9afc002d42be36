/- sky.Pull, sky.Step and the document's Pulled and Stepped: what they answer. -/
import Derived.Test.YtmhjmjodchbhlaaRPullPull
set_option linter.unusedVariables false
set_option linter.unusedSimpArgs false
set_option maxRecDepth 100000
namespace Go.Proofs.YtmhjmjodchbhlaaR.Pull2Pull
open Go.Ev Go.Ari Go.Proofs.YtmhjmjodchbhlaaR.FxPull Go.Proofs.YtmhjmjodchbhlaaR.Num1Pull Go.Proofs.YtmhjmjodchbhlaaR.Num3Pull Go.Proofs.YtmhjmjodchbhlaaR.Num4Pull Go.Proofs.YtmhjmjodchbhlaaR.Num5Pull Go.Proofs.YtmhjmjodchbhlaaR.Num6Pull Go.Proofs.YtmhjmjodchbhlaaR.PullPull
attribute [local go_sem] Go.Ev.putR_s Go.Ev.putR_0 Go.Ev.thenO_s Go.Ev.thenO_0 Go.Ev.seqR_n Go.Ev.seqR_e Go.Ev.seqR_r Go.Ev.seqR_0 Go.Ev.blkR_e Go.Ev.blkR_n Go.Ev.blkR_r Go.Ev.blkR_0 Go.Ev.normR_s Go.Ev.normR_0 Go.Ev.outR_r Go.Ev.outR_n Go.Ev.outR_0 Go.Ev.retS_s Go.Ev.retS_0 Go.Ev.pureO_s Go.Ev.pureO_0 Go.Ev.topR_0 Go.Ev.topR_t Go.Ev.topR_t0 Go.Ev.oneL_0 Go.Ev.oneL_s Go.Ev.topR_d Go.Ev.topR_nils Go.Ev.topR_agg Go.Ev.topR_rs Go.Ev.evOp_move Go.Ev.evOp_assign Go.Ev.evOp_pick Go.Ev.evOp_alloc Go.Ev.evOp_box Go.Ev.evOp_build Go.Ev.evOp_buildSlice Go.Ev.evOp_load Go.Ev.evOp_store Go.Ev.evOp_makeMap Go.Ev.evOp_lookup Go.Ev.evOp_mapUpdate Go.Ev.evOp_insert Go.Ev.evOp_nilCheck Go.Ev.evOp_binOp Go.Ev.evOp_unOp Go.Ev.evOp_convert Go.Ev.evOp_makeFunc Go.Ev.evOp_makeSlice Go.Ev.evOp_slice Go.Ev.evOp_fieldAddr Go.Ev.evOp_field Go.Ev.evOp_indexAddr Go.Ev.evOp_index Go.Ev.evOp_extract Go.Ev.evOp_call Go.Ev.evOp_append Go.Ev.evOp_len Go.Ev.evOp_min Go.Ev.evOp_max Go.Ev.condR_b Go.Ev.condR_t Go.Ev.evOps_nil Go.Ev.evOps_plain Go.Ev.evOps_guard Go.Ev.runG_eq Go.Ev.skipG_eq Go.Ev.condL_tt Go.Ev.condL_ff Go.Ev.condL_tf Go.Ev.condL_ft Go.Ev.condL_u Go.Ev.condC_t Go.Ev.condC_f Go.Ev.evC_skip Go.Ev.evC_ret Go.Ev.evC_exit Go.Ev.evC_label Go.Ev.evC_region Go.Ev.evC_draw Go.Ev.evC_seq Go.Ev.evC_cond Go.Ev.evC_block Go.Ev.evC_loop Go.Ev.fin_d Go.Ev.fin_nils Go.Ev.fin_agg_ Go.Ev.fin_rs Go.Ev.finS_s Go.Ev.mapO_fin Go.Ev.upd_upd Go.Ev.argv_d Go.Ev.argv_nils Go.Ev.argv_agg Go.Ev.argv_rs Go.Ev.argv_p Go.Ev.appendTo_nils Go.Ev.appendTo_rs Go.Ev.consV_d Go.Ev.consV_agg Go.Ev.consV_p Go.Ev.consV_rs Go.Ev.consV_nils Go.Ev.consV_fn Go.Ev.consV_und Go.Ev.consV_jk Go.Ev.consV_grown Go.Ev.topR_grown Go.Ev.len_grown Go.Ev.consV_mp Go.Ev.sameK_i Go.Ev.sameK_s Go.Ev.mget_0 Go.Ev.mget_hit Go.Ev.mget_miss Go.Ev.mput_0 Go.Ev.mput_hit Go.Ev.mput_miss Go.Ev.apartAll Go.Ev.apartL Go.Ev.apartV Go.Ev.freeAll Go.Ev.sel Go.Ev.keyOfV Go.Ev.evLookup Go.Ev.evPut Go.Ev.hintOk Go.Ev.keyOk Go.Ev.consP Go.Ev.lookV Go.Ev.guardV Go.Ev.dstAt Go.Ev.evPure Go.Ev.evStore Go.Ev.evPureB Go.Ev.evBin Go.Ev.evBinO Go.Ev.evNil Go.Ev.isNilC Go.Ev.evUn Go.Ev.evConv Go.Ev.evSlice Go.Ev.optI Go.Ev.lenV Go.Ev.elemT Go.Ev.foldI Go.Ev.capsOk Go.Ev.noTup Go.Ev.nth Go.Ev.setN Go.Ev.pad Go.Ev.V.get Go.Ev.V.put Go.Ev.putD Go.Ev.hasT Go.Ev.newBlk Go.Ev.upd Go.Ev.keq Go.Ev.empty Go.Ev.evCall Go.Ev.V.args Go.Ev.argP Go.Ev.callOf Go.Ev.evNilP Go.Ev.isNilP Go.Ev.look Go.Ev.V.view.views Go.Ev.V.view Go.Ev.V.toD Go.Ev.V.toD.V.toDs Go.Ev.V.pure.pures Go.Ev.V.pure Go.Ev.D.flat.flats Go.Ev.D.flat Go.Ev.mkAgg Go.Ev.allD Go.Ev.aggParts Go.Ev.setParts Go.Ev.setElems Go.Ev.getPath Go.Ev.setPath Go.Ev.subL Go.Ev.eqD Go.Ev.eqD.eqDs Go.Ev.and2 Go.Ev.strCut Go.Ev.evalT Go.Ev.constT Go.Ev.evArgs Go.Ev.mask Go.Ev.maskOf Go.Ev.tableOf Go.Ev.compT Go.Ev.resV Go.Ev.retV Go.Ev.mapO Go.Ev.elemsOf
attribute [local go_sem] Go.Proofs.YtmhjmjodchbhlaaR.FxPull.tk2 Go.Proofs.YtmhjmjodchbhlaaR.FxPull.ik2 Go.Proofs.YtmhjmjodchbhlaaR.FxPull.ek2 Go.Proofs.YtmhjmjodchbhlaaR.FxPull.zv2 Go.Proofs.YtmhjmjodchbhlaaR.FxPull.tk3 Go.Proofs.YtmhjmjodchbhlaaR.FxPull.ik3 Go.Proofs.YtmhjmjodchbhlaaR.FxPull.ek3 Go.Proofs.YtmhjmjodchbhlaaR.FxPull.zv3 Go.Proofs.YtmhjmjodchbhlaaR.FxPull.tk4 Go.Proofs.YtmhjmjodchbhlaaR.FxPull.ub4 Go.Proofs.YtmhjmjodchbhlaaR.FxPull.zv4 Go.Proofs.YtmhjmjodchbhlaaR.FxPull.tk5 Go.Proofs.YtmhjmjodchbhlaaR.FxPull.ik5 Go.Proofs.YtmhjmjodchbhlaaR.FxPull.zv5 Go.Proofs.YtmhjmjodchbhlaaR.FxPull.tk9 Go.Proofs.YtmhjmjodchbhlaaR.FxPull.ek9 Go.Proofs.YtmhjmjodchbhlaaR.FxPull.tk23 Go.Proofs.YtmhjmjodchbhlaaR.FxPull.ct23 Go.Proofs.YtmhjmjodchbhlaaR.FxPull.ek23 Go.Proofs.YtmhjmjodchbhlaaR.FxPull.zv23 Go.Proofs.YtmhjmjodchbhlaaR.FxPull.tk27 Go.Proofs.YtmhjmjodchbhlaaR.FxPull.ik27 Go.Proofs.YtmhjmjodchbhlaaR.FxPull.zv27 Go.Proofs.YtmhjmjodchbhlaaR.FxPull.tk37 Go.Proofs.YtmhjmjodchbhlaaR.FxPull.ik37 Go.Proofs.YtmhjmjodchbhlaaR.FxPull.zv37 Go.Proofs.YtmhjmjodchbhlaaR.FxPull.by37 Go.Proofs.YtmhjmjodchbhlaaR.FxPull.so37 Go.Proofs.YtmhjmjodchbhlaaR.FxPull.tk39 Go.Proofs.YtmhjmjodchbhlaaR.FxPull.ct39 Go.Proofs.YtmhjmjodchbhlaaR.FxPull.zv39 Go.Proofs.YtmhjmjodchbhlaaR.FxPull.by39 Go.Proofs.YtmhjmjodchbhlaaR.FxPull.so39 Go.Proofs.YtmhjmjodchbhlaaR.FxPull.tk43 Go.Proofs.YtmhjmjodchbhlaaR.FxPull.zv43 Go.Proofs.YtmhjmjodchbhlaaR.FxPull.tk44 Go.Proofs.YtmhjmjodchbhlaaR.FxPull.zv44 Go.Proofs.YtmhjmjodchbhlaaR.FxPull.tk45 Go.Proofs.YtmhjmjodchbhlaaR.FxPull.zv45 Go.Proofs.YtmhjmjodchbhlaaR.FxPull.tk47 Go.Proofs.YtmhjmjodchbhlaaR.FxPull.ct47 Go.Proofs.YtmhjmjodchbhlaaR.FxPull.zv47 Go.Proofs.YtmhjmjodchbhlaaR.FxPull.tk48 Go.Proofs.YtmhjmjodchbhlaaR.FxPull.ik48 Go.Proofs.YtmhjmjodchbhlaaR.FxPull.zv48 Go.Proofs.YtmhjmjodchbhlaaR.FxPull.tk76 Go.Proofs.YtmhjmjodchbhlaaR.FxPull.ct76 Go.Proofs.YtmhjmjodchbhlaaR.FxPull.zv76 Go.Proofs.YtmhjmjodchbhlaaR.FxPull.by76 Go.Proofs.YtmhjmjodchbhlaaR.FxPull.so76 Go.Proofs.YtmhjmjodchbhlaaR.FxPull.tk77 Go.Proofs.YtmhjmjodchbhlaaR.FxPull.zv77 Go.Proofs.YtmhjmjodchbhlaaR.FxPull.tk79 Go.Proofs.YtmhjmjodchbhlaaR.FxPull.ct79 Go.Proofs.YtmhjmjodchbhlaaR.FxPull.zv79 Go.Proofs.YtmhjmjodchbhlaaR.FxPull.by79 Go.Proofs.YtmhjmjodchbhlaaR.FxPull.so79 Go.Proofs.YtmhjmjodchbhlaaR.FxPull.tk88 Go.Proofs.YtmhjmjodchbhlaaR.FxPull.zv88 Go.Proofs.YtmhjmjodchbhlaaR.FxPull.tk92 Go.Proofs.YtmhjmjodchbhlaaR.FxPull.ik92 Go.Proofs.YtmhjmjodchbhlaaR.FxPull.zv92 Go.Proofs.YtmhjmjodchbhlaaR.FxPull.tk135 Go.Proofs.YtmhjmjodchbhlaaR.FxPull.ik135 Go.Proofs.YtmhjmjodchbhlaaR.FxPull.zv135 Go.Proofs.YtmhjmjodchbhlaaR.FxPull.tk136 Go.Proofs.YtmhjmjodchbhlaaR.FxPull.mt136 Go.Proofs.YtmhjmjodchbhlaaR.FxPull.sm136 Go.Proofs.YtmhjmjodchbhlaaR.FxPull.zw4 Go.Proofs.YtmhjmjodchbhlaaR.FxPull.zv136 Go.Proofs.YtmhjmjodchbhlaaR.FxPull.tk145 Go.Proofs.YtmhjmjodchbhlaaR.FxPull.zv145 Go.Proofs.YtmhjmjodchbhlaaR.FxPull.tk148 Go.Proofs.YtmhjmjodchbhlaaR.FxPull.ct148 Go.Proofs.YtmhjmjodchbhlaaR.FxPull.zv148 Go.Proofs.YtmhjmjodchbhlaaR.FxPull.tk150 Go.Proofs.YtmhjmjodchbhlaaR.FxPull.ct150 Go.Proofs.YtmhjmjodchbhlaaR.FxPull.zv150 Go.Proofs.YtmhjmjodchbhlaaR.FxPull.tk161 Go.Proofs.YtmhjmjodchbhlaaR.FxPull.ct161 Go.Proofs.YtmhjmjodchbhlaaR.FxPull.zv161 Go.Proofs.YtmhjmjodchbhlaaR.FxPull.tk203 Go.Proofs.YtmhjmjodchbhlaaR.FxPull.dw3_1 Go.Proofs.YtmhjmjodchbhlaaR.FxPull.nc3_1 Go.Proofs.YtmhjmjodchbhlaaR.FxPull.mk3_1000000 Go.Proofs.YtmhjmjodchbhlaaR.FxPull.mk4_1000000 Go.Proofs.YtmhjmjodchbhlaaR.FxPull.mk14_1000000 Go.Proofs.YtmhjmjodchbhlaaR.FxPull.dw15_7 Go.Proofs.YtmhjmjodchbhlaaR.FxPull.nc15_7 Go.Proofs.YtmhjmjodchbhlaaR.FxPull.mk15_1000000 Go.Proofs.YtmhjmjodchbhlaaR.FxPull.dw16_7 Go.Proofs.YtmhjmjodchbhlaaR.FxPull.nc16_7 Go.Proofs.YtmhjmjodchbhlaaR.FxPull.mk16_1000000 Go.Proofs.YtmhjmjodchbhlaaR.FxPull.mk17_1000000 Go.Proofs.YtmhjmjodchbhlaaR.FxPull.mk18_1000000 Go.Proofs.YtmhjmjodchbhlaaR.FxPull.mk30_1000000 Go.Proofs.YtmhjmjodchbhlaaR.FxPull.mk40_0 Go.Proofs.YtmhjmjodchbhlaaR.FxPull.mk40_2 Go.Proofs.YtmhjmjodchbhlaaR.FxPull.mk40_4 Go.Proofs.YtmhjmjodchbhlaaR.FxPull.mk40_1000001 Go.Proofs.YtmhjmjodchbhlaaR.FxPull.mk40_1000002 Go.Proofs.YtmhjmjodchbhlaaR.FxPull.mk40_1000003 Go.Proofs.YtmhjmjodchbhlaaR.FxPull.mk40_1000004 Go.Proofs.YtmhjmjodchbhlaaR.FxPull.mk40_1000005 Go.Proofs.YtmhjmjodchbhlaaR.FxPull.mk40_1000006 Go.Proofs.YtmhjmjodchbhlaaR.FxPull.mk40_1000007 Go.Proofs.YtmhjmjodchbhlaaR.FxPull.mk40_1000000 Go.Proofs.YtmhjmjodchbhlaaR.FxPull.mk46_0 Go.Proofs.YtmhjmjodchbhlaaR.FxPull.mk46_1000001 Go.Proofs.YtmhjmjodchbhlaaR.FxPull.mk46_1000002 Go.Proofs.YtmhjmjodchbhlaaR.FxPull.mk46_1000000 Go.Proofs.YtmhjmjodchbhlaaR.FxPull.mk47_1000000 Go.Proofs.YtmhjmjodchbhlaaR.FxPull.mk48_1000000 Go.Proofs.YtmhjmjodchbhlaaR.FxPull.mk49_1000000 Go.Proofs.YtmhjmjodchbhlaaR.FxPull.mk50_1000000 Go.Proofs.YtmhjmjodchbhlaaR.FxPull.mk51_0 Go.Proofs.YtmhjmjodchbhlaaR.FxPull.mk51_1000001 Go.Proofs.YtmhjmjodchbhlaaR.FxPull.mk51_1000002 Go.Proofs.YtmhjmjodchbhlaaR.FxPull.mk51_1000000 Go.Proofs.YtmhjmjodchbhlaaR.FxPull.dw52_2 Go.Proofs.YtmhjmjodchbhlaaR.FxPull.nc52_2 Go.Proofs.YtmhjmjodchbhlaaR.FxPull.mk52_1000000 Go.Proofs.YtmhjmjodchbhlaaR.FxPull.mk53_1000000 Go.Proofs.YtmhjmjodchbhlaaR.FxPull.mk54_1000000 Go.Proofs.YtmhjmjodchbhlaaR.FxPull.mk55_1000001 Go.Proofs.YtmhjmjodchbhlaaR.FxPull.mk55_1000000 Go.Proofs.YtmhjmjodchbhlaaR.FxPull.mk64_1000000 Go.Proofs.YtmhjmjodchbhlaaR.FxPull.mk78_0 Go.Proofs.YtmhjmjodchbhlaaR.FxPull.mk78_1000001 Go.Proofs.YtmhjmjodchbhlaaR.FxPull.mk78_1000002 Go.Proofs.YtmhjmjodchbhlaaR.FxPull.mk78_1000000 Go.Proofs.YtmhjmjodchbhlaaR.FxPull.mk87_1000001 Go.Proofs.YtmhjmjodchbhlaaR.FxPull.mk87_1000000 Go.Proofs.YtmhjmjodchbhlaaR.FxPull.mk88_1000001 Go.Proofs.YtmhjmjodchbhlaaR.FxPull.mk88_1000000 Go.Proofs.YtmhjmjodchbhlaaR.FxPull.mk89_0 Go.Proofs.YtmhjmjodchbhlaaR.FxPull.mk89_1000001 Go.Proofs.YtmhjmjodchbhlaaR.FxPull.mk89_1000002 Go.Proofs.YtmhjmjodchbhlaaR.FxPull.mk89_1000000 Go.Proofs.YtmhjmjodchbhlaaR.FxPull.mk93_1000001 Go.Proofs.YtmhjmjodchbhlaaR.FxPull.mk93_1000000 Go.Proofs.YtmhjmjodchbhlaaR.FxPull.mk95_1000000 Go.Proofs.YtmhjmjodchbhlaaR.FxPull.mk98_0 Go.Proofs.YtmhjmjodchbhlaaR.FxPull.mk98_1000001 Go.Proofs.YtmhjmjodchbhlaaR.FxPull.mk98_1000002 Go.Proofs.YtmhjmjodchbhlaaR.FxPull.mk98_1000000 Go.Proofs.YtmhjmjodchbhlaaR.FxPull.mk99_1000000 Go.Proofs.YtmhjmjodchbhlaaR.FxPull.mk100_1000001 Go.Proofs.YtmhjmjodchbhlaaR.FxPull.mk100_1000000 Go.Proofs.YtmhjmjodchbhlaaR.FxPull.mk101_1000000 Go.Proofs.YtmhjmjodchbhlaaR.FxPull.mk102_1000000 Go.Proofs.YtmhjmjodchbhlaaR.FxPull.mk103_0 Go.Proofs.YtmhjmjodchbhlaaR.FxPull.mk103_1000001 Go.Proofs.YtmhjmjodchbhlaaR.FxPull.mk103_1000002 Go.Proofs.YtmhjmjodchbhlaaR.FxPull.mk103_1000000 Go.Proofs.YtmhjmjodchbhlaaR.FxPull.mk127_1000000 Go.Proofs.YtmhjmjodchbhlaaR.FxPull.mk128_1000000 Go.Proofs.YtmhjmjodchbhlaaR.FxPull.mk131_0 Go.Proofs.YtmhjmjodchbhlaaR.FxPull.mk131_1000001 Go.Proofs.YtmhjmjodchbhlaaR.FxPull.mk131_1000002 Go.Proofs.YtmhjmjodchbhlaaR.FxPull.mk131_1000000 Go.Proofs.YtmhjmjodchbhlaaR.FxPull.mk134_1000000 Go.Proofs.YtmhjmjodchbhlaaR.FxPull.mk135_1000000 Go.Proofs.YtmhjmjodchbhlaaR.FxPull.dw136_6 Go.Proofs.YtmhjmjodchbhlaaR.FxPull.nc136_6 Go.Proofs.YtmhjmjodchbhlaaR.FxPull.mk136_0 Go.Proofs.YtmhjmjodchbhlaaR.FxPull.mk136_2 Go.Proofs.YtmhjmjodchbhlaaR.FxPull.mk136_1000001 Go.Proofs.YtmhjmjodchbhlaaR.FxPull.mk136_1000002 Go.Proofs.YtmhjmjodchbhlaaR.FxPull.mk136_1000003 Go.Proofs.YtmhjmjodchbhlaaR.FxPull.mk136_1000004 Go.Proofs.YtmhjmjodchbhlaaR.FxPull.mk136_1000000 Go.Proofs.YtmhjmjodchbhlaaR.FxPull.mk152_1000000
/-! ### the document part -/
noncomputable def T3 : Table := tableOf [(53, en53), (55, en55), (47, en47)]
noncomputable def G3 : Specs := [(98, sSqrtMul)]
theorem G3_ok : ∀ g s, Ev.look G3 g = some s → SpecOk Try.prog g s := specs_cons sSqrtMul_ok specs_nil
theorem T3_ok : TableOk Try.prog (G3.map (·.1)) T3 := (table_cons Try.func53 (by kernel_rfl) (by kernel_rfl) (table_cons Try.func55 (by kernel_rfl) (by kernel_rfl) (table_cons Try.func47 (by kernel_rfl) (by kernel_rfl) table_nil)))
theorem eSize3 (a : Int) (h : I a) : evTop Try.prog G3 T3 0 1 53 [.int .i64 a] = some [.int .u64 (ab a)] := by
  unfold evTop
  simp only [List.map]
  rw [evF_s (fn := Try.f53) (msk := en53.ms) (hT := by rfl) (hb := by rfl)]
  by_cases hn : a < 0
  · simp only [Try.f53, go_sem, Nat.reduceAdd, Nat.reduceSub, Nat.reduceMul, Nat.reduceEqDiff, Nat.reduceBEq, Nat.reduceLT, Nat.reduceLeDiff, Nat.reducePow, Int.cast_ofNat_Int, IntWalk.i64_in, IntWalk.u64_in, IntWalk.u8_in, Int.reduceToNat, Int.reduceLT, Int.reduceLE, Int.reduceGT, Int.reduceGE, Int.reduceEq, Int.reduceNeg, Int.reduceAdd, Int.reduceSub, ↓reduceIte, reduceCtorEq, beq_self_eq_true, Bool.true_beq, Bool.false_beq, Bool.and_true, Bool.true_and, Bool.false_and, Bool.and_false, Bool.and_self, Bool.not_true, Bool.not_false, Bool.not_eq_true, cond_true, cond_false, if_true, if_false, and_true, true_and, and_self, decide_true, decide_false, Bool.or_true, Bool.true_or, Bool.or_false, Bool.false_or, List.isEmpty, List.isEmpty_nil, List.size_toArray, List.map, List.length_map, List.length_cons, List.length_nil, Option.map, Option.bind, Option.getD, Option.isSome, List.replicate, Bool.false_eq_true, implies_true, forall_const, Array.toList, Array.isEmpty, List.append, List.nil_append, List.cons_append, List.drop_zero, List.take_length, List.take_succ_cons, List.take_zero, List.take_nil, List.getElem?_map, List.getElem?_cons_zero, List.getElem?_cons_succ, List.getElem?_nil, List.append_nil, hn, conv_neg h hn, ab]
  · simp only [Try.f53, go_sem, Nat.reduceAdd, Nat.reduceSub, Nat.reduceMul, Nat.reduceEqDiff, Nat.reduceBEq, Nat.reduceLT, Nat.reduceLeDiff, Nat.reducePow, Int.cast_ofNat_Int, IntWalk.i64_in, IntWalk.u64_in, IntWalk.u8_in, Int.reduceToNat, Int.reduceLT, Int.reduceLE, Int.reduceGT, Int.reduceGE, Int.reduceEq, Int.reduceNeg, Int.reduceAdd, Int.reduceSub, ↓reduceIte, reduceCtorEq, beq_self_eq_true, Bool.true_beq, Bool.false_beq, Bool.and_true, Bool.true_and, Bool.false_and, Bool.and_false, Bool.and_self, Bool.not_true, Bool.not_false, Bool.not_eq_true, cond_true, cond_false, if_true, if_false, and_true, true_and, and_self, decide_true, decide_false, Bool.or_true, Bool.true_or, Bool.or_false, Bool.false_or, List.isEmpty, List.isEmpty_nil, List.size_toArray, List.map, List.length_map, List.length_cons, List.length_nil, Option.map, Option.bind, Option.getD, Option.isSome, List.replicate, Bool.false_eq_true, implies_true, forall_const, Array.toList, Array.isEmpty, List.append, List.nil_append, List.cons_append, List.drop_zero, List.take_length, List.take_succ_cons, List.take_zero, List.take_nil, List.getElem?_map, List.getElem?_cons_zero, List.getElem?_cons_succ, List.getElem?_nil, List.append_nil, hn, conv_pos h hn, ab]
theorem size3_ok : SpecOk Try.prog 53 sSize := specC_ok mixed G3_ok T3_ok fun x hp => ⟨0, 1, eSize3 x hp⟩
def sgn (a : Int) : Int := if a < 0 then -1 else if a > 0 then 1 else 0
noncomputable def sSign : Ev.Spec := specC (c1 .i64) (fun _ => True) fun x => [.int .i64 (sgn x)]
theorem sSign_run (a : Int) : sSign.run [.int .i64 a] = some [.int .i64 (sgn a)] := specC_run (c1 .i64) _ _ a trivial
theorem eSign (a : Int) : evTop Try.prog G3 T3 0 1 55 [.int .i64 a] = some [.int .i64 (sgn a)] := by
  unfold evTop
  simp only [List.map]
  rw [evF_s (fn := Try.f55) (msk := en55.ms) (hT := by rfl) (hb := by rfl)]
  by_cases h1 : a < 0
  · simp only [Try.f55, go_sem, Nat.reduceAdd, Nat.reduceSub, Nat.reduceMul, Nat.reduceEqDiff, Nat.reduceBEq, Nat.reduceLT, Nat.reduceLeDiff, Nat.reducePow, Int.cast_ofNat_Int, IntWalk.i64_in, IntWalk.u64_in, IntWalk.u8_in, Int.reduceToNat, Int.reduceLT, Int.reduceLE, Int.reduceGT, Int.reduceGE, Int.reduceEq, Int.reduceNeg, Int.reduceAdd, Int.reduceSub, ↓reduceIte, reduceCtorEq, beq_self_eq_true, Bool.true_beq, Bool.false_beq, Bool.and_true, Bool.true_and, Bool.false_and, Bool.and_false, Bool.and_self, Bool.not_true, Bool.not_false, Bool.not_eq_true, cond_true, cond_false, if_true, if_false, and_true, true_and, and_self, decide_true, decide_false, Bool.or_true, Bool.true_or, Bool.or_false, Bool.false_or, List.isEmpty, List.isEmpty_nil, List.size_toArray, List.map, List.length_map, List.length_cons, List.length_nil, Option.map, Option.bind, Option.getD, Option.isSome, List.replicate, Bool.false_eq_true, implies_true, forall_const, Array.toList, Array.isEmpty, List.append, List.nil_append, List.cons_append, List.drop_zero, List.take_length, List.take_succ_cons, List.take_zero, List.take_nil, List.getElem?_map, List.getElem?_cons_zero, List.getElem?_cons_succ, List.getElem?_nil, List.append_nil, h1, sgn]
  · by_cases h2 : a > 0
    · simp only [Try.f55, go_sem, Nat.reduceAdd, Nat.reduceSub, Nat.reduceMul, Nat.reduceEqDiff, Nat.reduceBEq, Nat.reduceLT, Nat.reduceLeDiff, Nat.reducePow, Int.cast_ofNat_Int, IntWalk.i64_in, IntWalk.u64_in, IntWalk.u8_in, Int.reduceToNat, Int.reduceLT, Int.reduceLE, Int.reduceGT, Int.reduceGE, Int.reduceEq, Int.reduceNeg, Int.reduceAdd, Int.reduceSub, ↓reduceIte, reduceCtorEq, beq_self_eq_true, Bool.true_beq, Bool.false_beq, Bool.and_true, Bool.true_and, Bool.false_and, Bool.and_false, Bool.and_self, Bool.not_true, Bool.not_false, Bool.not_eq_true, cond_true, cond_false, if_true, if_false, and_true, true_and, and_self, decide_true, decide_false, Bool.or_true, Bool.true_or, Bool.or_false, Bool.false_or, List.isEmpty, List.isEmpty_nil, List.size_toArray, List.map, List.length_map, List.length_cons, List.length_nil, Option.map, Option.bind, Option.getD, Option.isSome, List.replicate, Bool.false_eq_true, implies_true, forall_const, Array.toList, Array.isEmpty, List.append, List.nil_append, List.cons_append, List.drop_zero, List.take_length, List.take_succ_cons, List.take_zero, List.take_nil, List.getElem?_map, List.getElem?_cons_zero, List.getElem?_cons_succ, List.getElem?_nil, List.append_nil, h1, h2, sgn]
    · simp only [Try.f55, go_sem, Nat.reduceAdd, Nat.reduceSub, Nat.reduceMul, Nat.reduceEqDiff, Nat.reduceBEq, Nat.reduceLT, Nat.reduceLeDiff, Nat.reducePow, Int.cast_ofNat_Int, IntWalk.i64_in, IntWalk.u64_in, IntWalk.u8_in, Int.reduceToNat, Int.reduceLT, Int.reduceLE, Int.reduceGT, Int.reduceGE, Int.reduceEq, Int.reduceNeg, Int.reduceAdd, Int.reduceSub, ↓reduceIte, reduceCtorEq, beq_self_eq_true, Bool.true_beq, Bool.false_beq, Bool.and_true, Bool.true_and, Bool.false_and, Bool.and_false, Bool.and_self, Bool.not_true, Bool.not_false, Bool.not_eq_true, cond_true, cond_false, if_true, if_false, and_true, true_and, and_self, decide_true, decide_false, Bool.or_true, Bool.true_or, Bool.or_false, Bool.false_or, List.isEmpty, List.isEmpty_nil, List.size_toArray, List.map, List.length_map, List.length_cons, List.length_nil, Option.map, Option.bind, Option.getD, Option.isSome, List.replicate, Bool.false_eq_true, implies_true, forall_const, Array.toList, Array.isEmpty, List.append, List.nil_append, List.cons_append, List.drop_zero, List.take_length, List.take_succ_cons, List.take_zero, List.take_nil, List.getElem?_map, List.getElem?_cons_zero, List.getElem?_cons_succ, List.getElem?_nil, List.append_nil, h1, h2, sgn]
theorem sSign_ok : SpecOk Try.prog 55 sSign := specC_ok mixed G3_ok T3_ok fun x hp => ⟨0, 1, eSign x⟩
noncomputable def sSqrt : Ev.Spec := specC (c1 .i64) I fun x => [.int .i64 (rootR x 1)]
theorem sSqrt_run (a : Int) (h : I a) : sSqrt.run [.int .i64 a] = some [.int .i64 (rootR a 1)] := specC_run (c1 .i64) _ _ a h
theorem eSqrt (a : Int) (h : I a) : evTop Try.prog G3 T3 0 1 47 [.int .i64 a] = some [.int .i64 (rootR a 1)] := by
  unfold evTop
  simp only [List.map]
  rw [evF_s (fn := Try.f47) (msk := en47.ms) (hT := by rfl) (hb := by rfl)]
  simp only [Try.f47, G3, go_sem, Nat.reduceAdd, Nat.reduceSub, Nat.reduceMul, Nat.reduceEqDiff, Nat.reduceBEq, Nat.reduceLT, Nat.reduceLeDiff, Nat.reducePow, Int.cast_ofNat_Int, IntWalk.i64_in, IntWalk.u64_in, IntWalk.u8_in, Int.reduceToNat, Int.reduceLT, Int.reduceLE, Int.reduceGT, Int.reduceGE, Int.reduceEq, Int.reduceNeg, Int.reduceAdd, Int.reduceSub, ↓reduceIte, reduceCtorEq, beq_self_eq_true, Bool.true_beq, Bool.false_beq, Bool.and_true, Bool.true_and, Bool.false_and, Bool.and_false, Bool.and_self, Bool.not_true, Bool.not_false, Bool.not_eq_true, cond_true, cond_false, if_true, if_false, and_true, true_and, and_self, decide_true, decide_false, Bool.or_true, Bool.true_or, Bool.or_false, Bool.false_or, List.isEmpty, List.isEmpty_nil, List.size_toArray, List.map, List.length_map, List.length_cons, List.length_nil, Option.map, Option.bind, Option.getD, Option.isSome, List.replicate, Bool.false_eq_true, implies_true, forall_const, Array.toList, Array.isEmpty, List.append, List.nil_append, List.cons_append, List.drop_zero, List.take_length, List.take_succ_cons, List.take_zero, List.take_nil, List.getElem?_map, List.getElem?_cons_zero, List.getElem?_cons_succ, List.getElem?_nil, List.append_nil, sSqrtMul_run a 1 h ⟨by decide, by decide⟩]
theorem sSqrt_ok : SpecOk Try.prog 47 sSqrt := specC_ok mixed G3_ok T3_ok fun x hp => ⟨0, 1, eSqrt x hp⟩
noncomputable def G4 : Specs := [(53, sSize), (55, sSign), (54, sDown)]
noncomputable def T4 : Table := tableOf [(52, en52)]
theorem G4_ok : ∀ g s, Ev.look G4 g = some s → SpecOk Try.prog g s := specs_cons size3_ok (specs_cons sSign_ok (specs_cons sDown_ok specs_nil))
theorem T4_ok : TableOk Try.prog (G4.map (·.1)) T4 := (table_cons Try.func52 (by kernel_rfl) (by kernel_rfl) table_nil)
theorem ePart3 (x r : Int) (h : PP x r) : evTop Try.prog G4 T4 0 1 52 [.int .i64 x, .ptr (.int .i64 r)] = some [.int .i64 (plx r x)] := by
  unfold evTop
  simp only [List.map]
  rw [evF_s (fn := Try.f52) (msk := en52.ms) (hT := by rfl) (hb := by rfl)]
  obtain ⟨x0, x1, r0, r1⟩ := h
  have rs := sSize_run x ⟨by omega, by omega⟩
  have a0 : 0 ≤ ab x ∧ ab x ≤ 4194304 := by unfold ab; split <;> omega
  obtain ⟨b0, b1, b2, b3, b4, b5⟩ := part_bounds (a := ab x) a0.1 a0.2 r0 r1
  have wa : IntKind.i64.wrap (ab x) = ab x := wi_in (by omega) (by omega)
  have rd := sDown_run 9007199254740992 (ab x) r ⟨by decide, by decide, a0.1, by omega, by omega, by omega, by omega, by omega⟩
  have hz : ¬ r = 0 := by omega
  have d0 : 0 ≤ 9007199254740992 * ab x / r / r := Int.ediv_nonneg b0 (by omega)
  have d1 : 9007199254740992 * ab x / r / r ≤ 576460752303423488 := by have := Int.ediv_le_self r b0; omega
  have dd : 9007199254740992 * ab x / r / r / r = 9007199254740992 * ab x / r / (r * r) := Int.ediv_ediv_of_nonneg (by omega)
  have t1 : (9007199254740992 * ab x / r).tdiv r = 9007199254740992 * ab x / r / r := Int.tdiv_eq_ediv_of_nonneg b0
  have t2 : (9007199254740992 * ab x / r / r).tdiv r = 9007199254740992 * ab x / r / r / r := Int.tdiv_eq_ediv_of_nonneg d0
  have w1 : IntKind.i64.wrap (9007199254740992 * ab x / r / r) = 9007199254740992 * ab x / r / r := wi_in (by omega) (by omega)
  have w2 : IntKind.i64.wrap (9007199254740992 * ab x / r / (r * r)) = 9007199254740992 * ab x / r / (r * r) := wi_in (by omega) (by omega)
  have hsg : IntKind.i64.wrap (0 - sgn x) = -sgn x := by unfold sgn; split <;> first | rfl | (split <;> rfl)
  have hf : IntKind.i64.wrap (-sgn x * (9007199254740992 * ab x / r / (r * r))) = plx r x := by
    unfold plx sgn
    by_cases h1 : x < 0
    · have e : ab x = -x := by unfold ab; rw [if_pos h1]
      rw [e] at b4 b5 ⊢
      rw [if_pos h1, if_neg (by omega)]
      rw [show -(-1 : Int) = 1 from rfl, Int.one_mul]
      exact wi_in (by omega) (by omega)
    · have e : ab x = x := by unfold ab; rw [if_neg h1]
      rw [e] at b4 b5 ⊢
      rw [if_neg h1]
      by_cases h2 : x > 0
      · rw [if_pos h2, if_pos h2, Int.neg_mul, Int.one_mul]
        exact wi_in (by omega) (by omega)
      · have : x = 0 := by omega
        subst this
        simp [IntKind.wrap, IntKind.bits, IntKind.signed]
  simp only [Try.f52, G4, go_sem, Nat.reduceAdd, Nat.reduceSub, Nat.reduceMul, Nat.reduceEqDiff, Nat.reduceBEq, Nat.reduceLT, Nat.reduceLeDiff, Nat.reducePow, Int.cast_ofNat_Int, IntWalk.i64_in, IntWalk.u64_in, IntWalk.u8_in, Int.reduceToNat, Int.reduceLT, Int.reduceLE, Int.reduceGT, Int.reduceGE, Int.reduceEq, Int.reduceNeg, Int.reduceAdd, Int.reduceSub, ↓reduceIte, reduceCtorEq, beq_self_eq_true, Bool.true_beq, Bool.false_beq, Bool.and_true, Bool.true_and, Bool.false_and, Bool.and_false, Bool.and_self, Bool.not_true, Bool.not_false, Bool.not_eq_true, cond_true, cond_false, if_true, if_false, and_true, true_and, and_self, decide_true, decide_false, Bool.or_true, Bool.true_or, Bool.or_false, Bool.false_or, List.isEmpty, List.isEmpty_nil, List.size_toArray, List.map, List.length_map, List.length_cons, List.length_nil, Option.map, Option.bind, Option.getD, Option.isSome, List.replicate, Bool.false_eq_true, implies_true, forall_const, Array.toList, Array.isEmpty, List.append, List.nil_append, List.cons_append, List.drop_zero, List.take_length, List.take_succ_cons, List.take_zero, List.take_nil, List.getElem?_map, List.getElem?_cons_zero, List.getElem?_cons_succ, List.getElem?_nil, List.append_nil, rs, wa, rd, hz, t1, w1, t2, dd, w2, sSign_run x, hsg, hf]
theorem part3_ok : SpecOk Try.prog 52 sPart := specC_ok mixed G4_ok T4_ok fun x hp => ⟨0, 1, ePart3 x.1 x.2 hp⟩
/-! ### Pull -/
noncomputable def pull (v : Vec) : Vec := if okV 4194304 v = true then (if isqrt (v.1 * v.1 + v.2.1 * v.2.1 + v.2.2 * v.2.2) < 65536 then (0, 0, 0) else (plx (isqrt (v.1 * v.1 + v.2.1 * v.2.1 + v.2.2 * v.2.2)) v.1, plx (isqrt (v.1 * v.1 + v.2.1 * v.2.1 + v.2.2 * v.2.2)) v.2.1, plx (isqrt (v.1 * v.1 + v.2.1 * v.2.1 + v.2.2 * v.2.2)) v.2.2)) else (0, 0, 0)
noncomputable def sPull : Ev.Spec := specC (cOne cV) (fun _ => True) fun v => [vD (pull v)]
theorem sPull_run (x y z : Int) : sPull.run [.agg 23 [.int .i64 x, .int .i64 y, .int .i64 z]] = some [vD (pull (x, y, z))] := specC_run (cOne cV) _ _ (x, y, z) trivial
theorem okV_spec {m : Int} {v : Vec} (h : okV m v = true) : (-m ≤ v.1 ∧ v.1 ≤ m) ∧ (-m ≤ v.2.1 ∧ v.2.1 ≤ m) ∧ (-m ≤ v.2.2 ∧ v.2.2 ≤ m) := by
  simp [okV, inn] at h; omega
theorem sq_bound {x : Int} (h0 : -4194304 ≤ x) (h1 : x ≤ 4194304) : 0 ≤ x * x ∧ x * x ≤ 17592186044416 := by
  refine ⟨?_, ?_⟩
  · rcases Int.le_total 0 x with h | h
    · exact Int.mul_nonneg h h
    · exact Int.mul_nonneg_of_nonpos_of_nonpos h h
  · rcases Int.le_total 0 x with h | h
    · exact Int.mul_le_mul h1 h1 h (by omega)
    · have : (-x) * (-x) ≤ 4194304 * 4194304 := Int.mul_le_mul (by omega) (by omega) (by omega) (by omega)
      rw [Int.neg_mul_neg] at this; exact this
noncomputable def G5A : Specs := [(46, sIn), (47, sSqrt), (48, sPart)]
noncomputable def T5A : Table := tableOf [(15, en15)]
theorem G5A_ok : ∀ g s, Ev.look G5A g = some s → SpecOk Try.prog g s := specs_cons within_ok (specs_cons sSqrt_ok (specs_cons sPart_ok specs_nil))
theorem T5A_ok : TableOk Try.prog (G5A.map (·.1)) T5A := (table_cons Try.func15 (by kernel_rfl) (by kernel_rfl) table_nil)
theorem ePullA (x y z : Int) : evTop Try.prog G5A T5A 0 1 15 [.agg 23 [.int .i64 x, .int .i64 y, .int .i64 z]] = some [vD (pull (x, y, z))] := by
  unfold evTop
  simp only [List.map]
  rw [evF_s (fn := Try.f15) (msk := en15.ms) (hT := by rfl) (hb := by rfl)]
  have ri := sIn_run x y z 4194304 (by decide) (by decide)
  by_cases h1 : okV 4194304 (x, y, z) = true
  · obtain ⟨⟨x0, x1⟩, ⟨y0, y1⟩, z0, z1⟩ := okV_spec h1
    simp only at x0 x1 y0 y1 z0 z1
    obtain ⟨p0, p1⟩ := sq_bound x0 x1
    obtain ⟨q0, q1⟩ := sq_bound y0 y1
    obtain ⟨r0, r1⟩ := sq_bound z0 z1
    have w1 : IntKind.i64.wrap (x * x) = x * x := wi_in (by omega) (by omega)
    have w2 : IntKind.i64.wrap (y * y) = y * y := wi_in (by omega) (by omega)
    have w3 : IntKind.i64.wrap (z * z) = z * z := wi_in (by omega) (by omega)
    have w4 : IntKind.i64.wrap (x * x + y * y) = x * x + y * y := wi_in (by omega) (by omega)
    have w5 : IntKind.i64.wrap (x * x + y * y + z * z) = x * x + y * y + z * z := wi_in (by omega) (by omega)
    have rq := sSqrt_run (x * x + y * y + z * z) ⟨by omega, by omega⟩
    rw [show rootR (x * x + y * y + z * z) 1 = isqrt (x * x + y * y + z * z) by rw [rootR, if_neg (by omega), if_neg (by decide), Int.mul_one]] at rq
    have hs := isqrt_spec (n := x * x + y * y + z * z) (by omega)
    have hlt : isqrt (x * x + y * y + z * z) < 1073741824 := sq_lt hs.1 (by have := hs.2.1; omega) (by decide)
    rw [pull, if_pos h1]
    generalize hr : isqrt (x * x + y * y + z * z) = r at *
    by_cases h2 : r < 65536
    · rw [if_pos h2]
      simp only [Try.f15, G5A, go_sem, Nat.reduceAdd, Nat.reduceSub, Nat.reduceMul, Nat.reduceEqDiff, Nat.reduceBEq, Nat.reduceLT, Nat.reduceLeDiff, Nat.reducePow, Int.cast_ofNat_Int, IntWalk.i64_in, IntWalk.u64_in, IntWalk.u8_in, Int.reduceToNat, Int.reduceLT, Int.reduceLE, Int.reduceGT, Int.reduceGE, Int.reduceEq, Int.reduceNeg, Int.reduceAdd, Int.reduceSub, ↓reduceIte, reduceCtorEq, beq_self_eq_true, Bool.true_beq, Bool.false_beq, Bool.and_true, Bool.true_and, Bool.false_and, Bool.and_false, Bool.and_self, Bool.not_true, Bool.not_false, Bool.not_eq_true, cond_true, cond_false, if_true, if_false, and_true, true_and, and_self, decide_true, decide_false, Bool.or_true, Bool.true_or, Bool.or_false, Bool.false_or, List.isEmpty, List.isEmpty_nil, List.size_toArray, List.map, List.length_map, List.length_cons, List.length_nil, Option.map, Option.bind, Option.getD, Option.isSome, List.replicate, Bool.false_eq_true, implies_true, forall_const, Array.toList, Array.isEmpty, List.append, List.nil_append, List.cons_append, List.drop_zero, List.take_length, List.take_succ_cons, List.take_zero, List.take_nil, List.getElem?_map, List.getElem?_cons_zero, List.getElem?_cons_succ, List.getElem?_nil, List.append_nil, ri, h1, w1, w2, w3, w4, w5, rq, h2, vD]
    · rw [if_neg h2]
      have c1 := sPart_run x r ⟨by omega, by omega, by omega, hlt⟩
      have c2 := sPart_run y r ⟨by omega, by omega, by omega, hlt⟩
      have c3 := sPart_run z r ⟨by omega, by omega, by omega, hlt⟩
      simp only [Try.f15, G5A, go_sem, Nat.reduceAdd, Nat.reduceSub, Nat.reduceMul, Nat.reduceEqDiff, Nat.reduceBEq, Nat.reduceLT, Nat.reduceLeDiff, Nat.reducePow, Int.cast_ofNat_Int, IntWalk.i64_in, IntWalk.u64_in, IntWalk.u8_in, Int.reduceToNat, Int.reduceLT, Int.reduceLE, Int.reduceGT, Int.reduceGE, Int.reduceEq, Int.reduceNeg, Int.reduceAdd, Int.reduceSub, ↓reduceIte, reduceCtorEq, beq_self_eq_true, Bool.true_beq, Bool.false_beq, Bool.and_true, Bool.true_and, Bool.false_and, Bool.and_false, Bool.and_self, Bool.not_true, Bool.not_false, Bool.not_eq_true, cond_true, cond_false, if_true, if_false, and_true, true_and, and_self, decide_true, decide_false, Bool.or_true, Bool.true_or, Bool.or_false, Bool.false_or, List.isEmpty, List.isEmpty_nil, List.size_toArray, List.map, List.length_map, List.length_cons, List.length_nil, Option.map, Option.bind, Option.getD, Option.isSome, List.replicate, Bool.false_eq_true, implies_true, forall_const, Array.toList, Array.isEmpty, List.append, List.nil_append, List.cons_append, List.drop_zero, List.take_length, List.take_succ_cons, List.take_zero, List.take_nil, List.getElem?_map, List.getElem?_cons_zero, List.getElem?_cons_succ, List.getElem?_nil, List.append_nil, ri, h1, w1, w2, w3, w4, w5, rq, h2, c1, c2, c3, vD]
  · rw [pull, if_neg h1]
    have h1' : okV 4194304 (x, y, z) = false := by simpa using h1
    simp only [Try.f15, G5A, go_sem, Nat.reduceAdd, Nat.reduceSub, Nat.reduceMul, Nat.reduceEqDiff, Nat.reduceBEq, Nat.reduceLT, Nat.reduceLeDiff, Nat.reducePow, Int.cast_ofNat_Int, IntWalk.i64_in, IntWalk.u64_in, IntWalk.u8_in, Int.reduceToNat, Int.reduceLT, Int.reduceLE, Int.reduceGT, Int.reduceGE, Int.reduceEq, Int.reduceNeg, Int.reduceAdd, Int.reduceSub, ↓reduceIte, reduceCtorEq, beq_self_eq_true, Bool.true_beq, Bool.false_beq, Bool.and_true, Bool.true_and, Bool.false_and, Bool.and_false, Bool.and_self, Bool.not_true, Bool.not_false, Bool.not_eq_true, cond_true, cond_false, if_true, if_false, and_true, true_and, and_self, decide_true, decide_false, Bool.or_true, Bool.true_or, Bool.or_false, Bool.false_or, List.isEmpty, List.isEmpty_nil, List.size_toArray, List.map, List.length_map, List.length_cons, List.length_nil, Option.map, Option.bind, Option.getD, Option.isSome, List.replicate, Bool.false_eq_true, implies_true, forall_const, Array.toList, Array.isEmpty, List.append, List.nil_append, List.cons_append, List.drop_zero, List.take_length, List.take_succ_cons, List.take_zero, List.take_nil, List.getElem?_map, List.getElem?_cons_zero, List.getElem?_cons_succ, List.getElem?_nil, List.append_nil, ri, h1', vD]
theorem pullA_ok : SpecOk Try.prog 15 sPull := specC_ok mixed G5A_ok T5A_ok fun x _ => ⟨0, 1, ePullA x.1 x.2.1 x.2.2⟩
#print axioms pullA_ok
noncomputable def G5B : Specs := [(50, sIn), (51, sRoot), (52, sPart)]
noncomputable def T5B : Table := tableOf [(16, en16)]
theorem G5B_ok : ∀ g s, Ev.look G5B g = some s → SpecOk Try.prog g s := specs_cons inside_ok (specs_cons sRoot_ok (specs_cons part3_ok specs_nil))
theorem T5B_ok : TableOk Try.prog (G5B.map (·.1)) T5B := (table_cons Try.func16 (by kernel_rfl) (by kernel_rfl) table_nil)
theorem ePullB (x y z : Int) : evTop Try.prog G5B T5B 0 1 16 [.agg 23 [.int .i64 x, .int .i64 y, .int .i64 z]] = some [vD (pull (x, y, z))] := by
  unfold evTop
  simp only [List.map]
  rw [evF_s (fn := Try.f16) (msk := en16.ms) (hT := by rfl) (hb := by rfl)]
  have ri := sIn_run x y z 4194304 (by decide) (by decide)
  by_cases h1 : okV 4194304 (x, y, z) = true
  · obtain ⟨⟨x0, x1⟩, ⟨y0, y1⟩, z0, z1⟩ := okV_spec h1
    simp only at x0 x1 y0 y1 z0 z1
    obtain ⟨p0, p1⟩ := sq_bound x0 x1
    obtain ⟨q0, q1⟩ := sq_bound y0 y1
    obtain ⟨r0, r1⟩ := sq_bound z0 z1
    have w1 : IntKind.i64.wrap (x * x) = x * x := wi_in (by omega) (by omega)
    have w2 : IntKind.i64.wrap (y * y) = y * y := wi_in (by omega) (by omega)
    have w3 : IntKind.i64.wrap (z * z) = z * z := wi_in (by omega) (by omega)
    have w4 : IntKind.i64.wrap (x * x + y * y) = x * x + y * y := wi_in (by omega) (by omega)
    have w5 : IntKind.i64.wrap (x * x + y * y + z * z) = x * x + y * y + z * z := wi_in (by omega) (by omega)
    have rq := sRoot_run (x * x + y * y + z * z) 1 ⟨by omega, by omega, by decide, by decide⟩
    rw [Int.mul_one] at rq
    have hs := isqrt_spec (n := x * x + y * y + z * z) (by omega)
    have hlt : isqrt (x * x + y * y + z * z) < 1073741824 := sq_lt hs.1 (by have := hs.2.1; omega) (by decide)
    rw [pull, if_pos h1]
    generalize hr : isqrt (x * x + y * y + z * z) = r at *
    by_cases h2 : r < 65536
    · rw [if_pos h2]
      simp only [Try.f16, G5B, go_sem, Nat.reduceAdd, Nat.reduceSub, Nat.reduceMul, Nat.reduceEqDiff, Nat.reduceBEq, Nat.reduceLT, Nat.reduceLeDiff, Nat.reducePow, Int.cast_ofNat_Int, IntWalk.i64_in, IntWalk.u64_in, IntWalk.u8_in, Int.reduceToNat, Int.reduceLT, Int.reduceLE, Int.reduceGT, Int.reduceGE, Int.reduceEq, Int.reduceNeg, Int.reduceAdd, Int.reduceSub, ↓reduceIte, reduceCtorEq, beq_self_eq_true, Bool.true_beq, Bool.false_beq, Bool.and_true, Bool.true_and, Bool.false_and, Bool.and_false, Bool.and_self, Bool.not_true, Bool.not_false, Bool.not_eq_true, cond_true, cond_false, if_true, if_false, and_true, true_and, and_self, decide_true, decide_false, Bool.or_true, Bool.true_or, Bool.or_false, Bool.false_or, List.isEmpty, List.isEmpty_nil, List.size_toArray, List.map, List.length_map, List.length_cons, List.length_nil, Option.map, Option.bind, Option.getD, Option.isSome, List.replicate, Bool.false_eq_true, implies_true, forall_const, Array.toList, Array.isEmpty, List.append, List.nil_append, List.cons_append, List.drop_zero, List.take_length, List.take_succ_cons, List.take_zero, List.take_nil, List.getElem?_map, List.getElem?_cons_zero, List.getElem?_cons_succ, List.getElem?_nil, List.append_nil, ri, h1, w1, w2, w3, w4, w5, rq, h2, vD]
    · rw [if_neg h2]
      have c1 := sPart_run x r ⟨by omega, by omega, by omega, hlt⟩
      have c2 := sPart_run y r ⟨by omega, by omega, by omega, hlt⟩
      have c3 := sPart_run z r ⟨by omega, by omega, by omega, hlt⟩
      simp only [Try.f16, G5B, go_sem, Nat.reduceAdd, Nat.reduceSub, Nat.reduceMul, Nat.reduceEqDiff, Nat.reduceBEq, Nat.reduceLT, Nat.reduceLeDiff, Nat.reducePow, Int.cast_ofNat_Int, IntWalk.i64_in, IntWalk.u64_in, IntWalk.u8_in, Int.reduceToNat, Int.reduceLT, Int.reduceLE, Int.reduceGT, Int.reduceGE, Int.reduceEq, Int.reduceNeg, Int.reduceAdd, Int.reduceSub, ↓reduceIte, reduceCtorEq, beq_self_eq_true, Bool.true_beq, Bool.false_beq, Bool.and_true, Bool.true_and, Bool.false_and, Bool.and_false, Bool.and_self, Bool.not_true, Bool.not_false, Bool.not_eq_true, cond_true, cond_false, if_true, if_false, and_true, true_and, and_self, decide_true, decide_false, Bool.or_true, Bool.true_or, Bool.or_false, Bool.false_or, List.isEmpty, List.isEmpty_nil, List.size_toArray, List.map, List.length_map, List.length_cons, List.length_nil, Option.map, Option.bind, Option.getD, Option.isSome, List.replicate, Bool.false_eq_true, implies_true, forall_const, Array.toList, Array.isEmpty, List.append, List.nil_append, List.cons_append, List.drop_zero, List.take_length, List.take_succ_cons, List.take_zero, List.take_nil, List.getElem?_map, List.getElem?_cons_zero, List.getElem?_cons_succ, List.getElem?_nil, List.append_nil, ri, h1, w1, w2, w3, w4, w5, rq, h2, c1, c2, c3, vD]
  · rw [pull, if_neg h1]
    have h1' : okV 4194304 (x, y, z) = false := by simpa using h1
    simp only [Try.f16, G5B, go_sem, Nat.reduceAdd, Nat.reduceSub, Nat.reduceMul, Nat.reduceEqDiff, Nat.reduceBEq, Nat.reduceLT, Nat.reduceLeDiff, Nat.reducePow, Int.cast_ofNat_Int, IntWalk.i64_in, IntWalk.u64_in, IntWalk.u8_in, Int.reduceToNat, Int.reduceLT, Int.reduceLE, Int.reduceGT, Int.reduceGE, Int.reduceEq, Int.reduceNeg, Int.reduceAdd, Int.reduceSub, ↓reduceIte, reduceCtorEq, beq_self_eq_true, Bool.true_beq, Bool.false_beq, Bool.and_true, Bool.true_and, Bool.false_and, Bool.and_false, Bool.and_self, Bool.not_true, Bool.not_false, Bool.not_eq_true, cond_true, cond_false, if_true, if_false, and_true, true_and, and_self, decide_true, decide_false, Bool.or_true, Bool.true_or, Bool.or_false, Bool.false_or, List.isEmpty, List.isEmpty_nil, List.size_toArray, List.map, List.length_map, List.length_cons, List.length_nil, Option.map, Option.bind, Option.getD, Option.isSome, List.replicate, Bool.false_eq_true, implies_true, forall_const, Array.toList, Array.isEmpty, List.append, List.nil_append, List.cons_append, List.drop_zero, List.take_length, List.take_succ_cons, List.take_zero, List.take_nil, List.getElem?_map, List.getElem?_cons_zero, List.getElem?_cons_succ, List.getElem?_nil, List.append_nil, ri, h1', vD]
theorem pullB_ok : SpecOk Try.prog 16 sPull := specC_ok mixed G5B_ok T5B_ok fun x _ => ⟨0, 1, ePullB x.1 x.2.1 x.2.2⟩
#print axioms pullB_ok
/-! ### Step -/
theorem plx_bounds {x r : Int} (h : PP x r) : -576460752303423488 ≤ plx r x ∧ plx r x ≤ 576460752303423488 := by
  obtain ⟨x0, x1, r0, r1⟩ := h
  unfold plx
  split
  · obtain ⟨b0, b1, b2, b3, b4, b5⟩ := part_bounds (a := x) (by omega) x1 r0 r1
    omega
  · obtain ⟨b0, b1, b2, b3, b4, b5⟩ := part_bounds (a := -x) (by omega) (by omega) r0 r1
    omega
theorem pull_bounds (v : Vec) : -576460752303423488 ≤ (pull v).1 ∧ (pull v).1 ≤ 576460752303423488 ∧ -576460752303423488 ≤ (pull v).2.1 ∧ (pull v).2.1 ≤ 576460752303423488 ∧ -576460752303423488 ≤ (pull v).2.2 ∧ (pull v).2.2 ≤ 576460752303423488 := by
  obtain ⟨x, y, z⟩ := v
  unfold pull
  by_cases h1 : okV 4194304 (x, y, z) = true
  · rw [if_pos h1]
    obtain ⟨⟨x0, x1⟩, ⟨y0, y1⟩, z0, z1⟩ := okV_spec h1
    simp only at x0 x1 y0 y1 z0 z1
    obtain ⟨p0, p1⟩ := sq_bound x0 x1
    obtain ⟨q0, q1⟩ := sq_bound y0 y1
    obtain ⟨r0, r1⟩ := sq_bound z0 z1
    have hs := isqrt_spec (n := x * x + y * y + z * z) (by omega)
    have hlt : isqrt (x * x + y * y + z * z) < 1073741824 := sq_lt hs.1 (by have := hs.2.1; omega) (by decide)
    simp only
    generalize isqrt (x * x + y * y + z * z) = r at *
    by_cases h2 : r < 65536
    · rw [if_pos h2]; simp
    · rw [if_neg h2]
      have e1 := plx_bounds (x := x) (r := r) ⟨by omega, by omega, by omega, hlt⟩
      have e2 := plx_bounds (x := y) (r := r) ⟨by omega, by omega, by omega, hlt⟩
      have e3 := plx_bounds (x := z) (r := r) ⟨by omega, by omega, by omega, hlt⟩
      exact ⟨e1.1, e1.2, e2.1, e2.2, e3.1, e3.2⟩
  · rw [if_neg h1]; simp
/-- The place a day on, and the error. -/
noncomputable def stepR (was here : Vec) : Vec × Int := if okV 4194304 was = true then (if okV 4194304 here = true then (if okV 4194304 (2 * here.1 - was.1 + (pull here).1, 2 * here.2.1 - was.2.1 + (pull here).2.1, 2 * here.2.2 - was.2.2 + (pull here).2.2) = true then ((2 * here.1 - was.1 + (pull here).1, 2 * here.2.1 - was.2.1 + (pull here).2.1, 2 * here.2.2 - was.2.2 + (pull here).2.2), 0) else ((0, 0, 0), 18)) else ((0, 0, 0), 4)) else ((0, 0, 0), 4)
noncomputable def sStep : Ev.Spec := specC (cCons cV (cOne cV)) (fun _ => True) fun v => [vD (stepR v.1 v.2).1, .int .i64 (stepR v.1 v.2).2]
theorem sStep_run (a b c x y z : Int) : sStep.run [.agg 23 [.int .i64 a, .int .i64 b, .int .i64 c], .agg 23 [.int .i64 x, .int .i64 y, .int .i64 z]] = some [vD (stepR (a, b, c) (x, y, z)).1, .int .i64 (stepR (a, b, c) (x, y, z)).2] := specC_run (cCons cV (cOne cV)) _ _ ((a, b, c), (x, y, z)) trivial
noncomputable def G6A : Specs := [(46, sIn), (15, sPull)]
noncomputable def T6A : Table := tableOf [(17, en17)]
theorem G6A_ok : ∀ g s, Ev.look G6A g = some s → SpecOk Try.prog g s := specs_cons within_ok (specs_cons pullA_ok specs_nil)
theorem T6A_ok : TableOk Try.prog (G6A.map (·.1)) T6A := (table_cons Try.func17 (by kernel_rfl) (by kernel_rfl) table_nil)
theorem eStepA (a b c x y z : Int) : evTop Try.prog G6A T6A 0 1 17 [.agg 23 [.int .i64 a, .int .i64 b, .int .i64 c], .agg 23 [.int .i64 x, .int .i64 y, .int .i64 z]] = some [vD (stepR (a, b, c) (x, y, z)).1, .int .i64 (stepR (a, b, c) (x, y, z)).2] := by
  unfold evTop
  simp only [List.map]
  rw [evF_s (fn := Try.f17) (msk := en17.ms) (hT := by rfl) (hb := by rfl)]
  have r1 := sIn_run a b c 4194304 (by decide) (by decide)
  have r2 := sIn_run x y z 4194304 (by decide) (by decide)
  by_cases h1 : okV 4194304 (a, b, c) = true
  case neg =>
    have e : stepR (a, b, c) (x, y, z) = ((0, 0, 0), 4) := by rw [stepR, if_neg h1]
    have h1' : okV 4194304 (a, b, c) = false := by simpa using h1
    rw [e]
    simp only [Try.f17, G6A, go_sem, Nat.reduceAdd, Nat.reduceSub, Nat.reduceMul, Nat.reduceEqDiff, Nat.reduceBEq, Nat.reduceLT, Nat.reduceLeDiff, Nat.reducePow, Int.cast_ofNat_Int, IntWalk.i64_in, IntWalk.u64_in, IntWalk.u8_in, Int.reduceToNat, Int.reduceLT, Int.reduceLE, Int.reduceGT, Int.reduceGE, Int.reduceEq, Int.reduceNeg, Int.reduceAdd, Int.reduceSub, ↓reduceIte, reduceCtorEq, beq_self_eq_true, Bool.true_beq, Bool.false_beq, Bool.and_true, Bool.true_and, Bool.false_and, Bool.and_false, Bool.and_self, Bool.not_true, Bool.not_false, Bool.not_eq_true, cond_true, cond_false, if_true, if_false, and_true, true_and, and_self, decide_true, decide_false, Bool.or_true, Bool.true_or, Bool.or_false, Bool.false_or, List.isEmpty, List.isEmpty_nil, List.size_toArray, List.map, List.length_map, List.length_cons, List.length_nil, Option.map, Option.bind, Option.getD, Option.isSome, List.replicate, Bool.false_eq_true, implies_true, forall_const, Array.toList, Array.isEmpty, List.append, List.nil_append, List.cons_append, List.drop_zero, List.take_length, List.take_succ_cons, List.take_zero, List.take_nil, List.getElem?_map, List.getElem?_cons_zero, List.getElem?_cons_succ, List.getElem?_nil, List.append_nil, r1, h1', vD]
  by_cases h2 : okV 4194304 (x, y, z) = true
  case neg =>
    have e : stepR (a, b, c) (x, y, z) = ((0, 0, 0), 4) := by rw [stepR, if_pos h1, if_neg h2]
    have h2' : okV 4194304 (x, y, z) = false := by simpa using h2
    rw [e]
    simp only [Try.f17, G6A, go_sem, Nat.reduceAdd, Nat.reduceSub, Nat.reduceMul, Nat.reduceEqDiff, Nat.reduceBEq, Nat.reduceLT, Nat.reduceLeDiff, Nat.reducePow, Int.cast_ofNat_Int, IntWalk.i64_in, IntWalk.u64_in, IntWalk.u8_in, Int.reduceToNat, Int.reduceLT, Int.reduceLE, Int.reduceGT, Int.reduceGE, Int.reduceEq, Int.reduceNeg, Int.reduceAdd, Int.reduceSub, ↓reduceIte, reduceCtorEq, beq_self_eq_true, Bool.true_beq, Bool.false_beq, Bool.and_true, Bool.true_and, Bool.false_and, Bool.and_false, Bool.and_self, Bool.not_true, Bool.not_false, Bool.not_eq_true, cond_true, cond_false, if_true, if_false, and_true, true_and, and_self, decide_true, decide_false, Bool.or_true, Bool.true_or, Bool.or_false, Bool.false_or, List.isEmpty, List.isEmpty_nil, List.size_toArray, List.map, List.length_map, List.length_cons, List.length_nil, Option.map, Option.bind, Option.getD, Option.isSome, List.replicate, Bool.false_eq_true, implies_true, forall_const, Array.toList, Array.isEmpty, List.append, List.nil_append, List.cons_append, List.drop_zero, List.take_length, List.take_succ_cons, List.take_zero, List.take_nil, List.getElem?_map, List.getElem?_cons_zero, List.getElem?_cons_succ, List.getElem?_nil, List.append_nil, r1, h1, r2, h2', vD]
  obtain ⟨⟨x0, x1⟩, ⟨y0, y1⟩, z0, z1⟩ := okV_spec h2
  obtain ⟨⟨a0, a1⟩, ⟨b0, b1⟩, c0, c1⟩ := okV_spec h1
  simp only at x0 x1 y0 y1 z0 z1 a0 a1 b0 b1 c0 c1
  have rp := sPull_run x y z
  have pb := pull_bounds (x, y, z)
  unfold stepR
  rw [if_pos h1, if_pos h2]
  generalize hp : pull (x, y, z) = P at *
  obtain ⟨p, q, r⟩ := P
  simp only at pb
  obtain ⟨p0, p1, q0, q1, r0, r1'⟩ := pb
  have w1 : IntKind.i64.wrap (2 * x) = 2 * x := wi_in (by omega) (by omega)
  have v1 : IntKind.i64.wrap (2 * x - a) = 2 * x - a := wi_in (by omega) (by omega)
  have u1 : IntKind.i64.wrap (2 * x - a + p) = 2 * x - a + p := wi_in (by omega) (by omega)
  have w2 : IntKind.i64.wrap (2 * y) = 2 * y := wi_in (by omega) (by omega)
  have v2 : IntKind.i64.wrap (2 * y - b) = 2 * y - b := wi_in (by omega) (by omega)
  have u2 : IntKind.i64.wrap (2 * y - b + q) = 2 * y - b + q := wi_in (by omega) (by omega)
  have w3 : IntKind.i64.wrap (2 * z) = 2 * z := wi_in (by omega) (by omega)
  have v3 : IntKind.i64.wrap (2 * z - c) = 2 * z - c := wi_in (by omega) (by omega)
  have u3 : IntKind.i64.wrap (2 * z - c + r) = 2 * z - c + r := wi_in (by omega) (by omega)
  have r3 := sIn_run (2 * x - a + p) (2 * y - b + q) (2 * z - c + r) 4194304 (by decide) (by decide)
  unfold vD at rp
  by_cases h3 : okV 4194304 (2 * x - a + p, 2 * y - b + q, 2 * z - c + r) = true
  · rw [if_pos h3]
    simp only [Try.f17, G6A, go_sem, Nat.reduceAdd, Nat.reduceSub, Nat.reduceMul, Nat.reduceEqDiff, Nat.reduceBEq, Nat.reduceLT, Nat.reduceLeDiff, Nat.reducePow, Int.cast_ofNat_Int, IntWalk.i64_in, IntWalk.u64_in, IntWalk.u8_in, Int.reduceToNat, Int.reduceLT, Int.reduceLE, Int.reduceGT, Int.reduceGE, Int.reduceEq, Int.reduceNeg, Int.reduceAdd, Int.reduceSub, ↓reduceIte, reduceCtorEq, beq_self_eq_true, Bool.true_beq, Bool.false_beq, Bool.and_true, Bool.true_and, Bool.false_and, Bool.and_false, Bool.and_self, Bool.not_true, Bool.not_false, Bool.not_eq_true, cond_true, cond_false, if_true, if_false, and_true, true_and, and_self, decide_true, decide_false, Bool.or_true, Bool.true_or, Bool.or_false, Bool.false_or, List.isEmpty, List.isEmpty_nil, List.size_toArray, List.map, List.length_map, List.length_cons, List.length_nil, Option.map, Option.bind, Option.getD, Option.isSome, List.replicate, Bool.false_eq_true, implies_true, forall_const, Array.toList, Array.isEmpty, List.append, List.nil_append, List.cons_append, List.drop_zero, List.take_length, List.take_succ_cons, List.take_zero, List.take_nil, List.getElem?_map, List.getElem?_cons_zero, List.getElem?_cons_succ, List.getElem?_nil, List.append_nil, r1, h1, r2, h2, rp, w1, v1, u1, w2, v2, u2, w3, v3, u3, r3, h3, vD]
  · rw [if_neg h3]
    have h3' : okV 4194304 (2 * x - a + p, 2 * y - b + q, 2 * z - c + r) = false := by simpa using h3
    simp only [Try.f17, G6A, go_sem, Nat.reduceAdd, Nat.reduceSub, Nat.reduceMul, Nat.reduceEqDiff, Nat.reduceBEq, Nat.reduceLT, Nat.reduceLeDiff, Nat.reducePow, Int.cast_ofNat_Int, IntWalk.i64_in, IntWalk.u64_in, IntWalk.u8_in, Int.reduceToNat, Int.reduceLT, Int.reduceLE, Int.reduceGT, Int.reduceGE, Int.reduceEq, Int.reduceNeg, Int.reduceAdd, Int.reduceSub, ↓reduceIte, reduceCtorEq, beq_self_eq_true, Bool.true_beq, Bool.false_beq, Bool.and_true, Bool.true_and, Bool.false_and, Bool.and_false, Bool.and_self, Bool.not_true, Bool.not_false, Bool.not_eq_true, cond_true, cond_false, if_true, if_false, and_true, true_and, and_self, decide_true, decide_false, Bool.or_true, Bool.true_or, Bool.or_false, Bool.false_or, List.isEmpty, List.isEmpty_nil, List.size_toArray, List.map, List.length_map, List.length_cons, List.length_nil, Option.map, Option.bind, Option.getD, Option.isSome, List.replicate, Bool.false_eq_true, implies_true, forall_const, Array.toList, Array.isEmpty, List.append, List.nil_append, List.cons_append, List.drop_zero, List.take_length, List.take_succ_cons, List.take_zero, List.take_nil, List.getElem?_map, List.getElem?_cons_zero, List.getElem?_cons_succ, List.getElem?_nil, List.append_nil, r1, h1, r2, h2, rp, w1, v1, u1, w2, v2, u2, w3, v3, u3, r3, h3', vD]
theorem stepA_ok : SpecOk Try.prog 17 sStep := specC_ok mixed G6A_ok T6A_ok fun x _ => ⟨0, 1, eStepA x.1.1 x.1.2.1 x.1.2.2 x.2.1 x.2.2.1 x.2.2.2⟩
#print axioms stepA_ok
noncomputable def G6B : Specs := [(50, sIn), (16, sPull)]
noncomputable def T6B : Table := tableOf [(18, en18)]
theorem G6B_ok : ∀ g s, Ev.look G6B g = some s → SpecOk Try.prog g s := specs_cons inside_ok (specs_cons pullB_ok specs_nil)
theorem T6B_ok : TableOk Try.prog (G6B.map (·.1)) T6B := (table_cons Try.func18 (by kernel_rfl) (by kernel_rfl) table_nil)
theorem eStepB (a b c x y z : Int) : evTop Try.prog G6B T6B 0 1 18 [.agg 23 [.int .i64 a, .int .i64 b, .int .i64 c], .agg 23 [.int .i64 x, .int .i64 y, .int .i64 z]] = some [vD (stepR (a, b, c) (x, y, z)).1, .int .i64 (stepR (a, b, c) (x, y, z)).2] := by
  unfold evTop
  simp only [List.map]
  rw [evF_s (fn := Try.f18) (msk := en18.ms) (hT := by rfl) (hb := by rfl)]
  have r1 := sIn_run a b c 4194304 (by decide) (by decide)
  have r2 := sIn_run x y z 4194304 (by decide) (by decide)
  by_cases h1 : okV 4194304 (a, b, c) = true
  case neg =>
    have e : stepR (a, b, c) (x, y, z) = ((0, 0, 0), 4) := by rw [stepR, if_neg h1]
    have h1' : okV 4194304 (a, b, c) = false := by simpa using h1
    rw [e]
    simp only [Try.f18, G6B, go_sem, Nat.reduceAdd, Nat.reduceSub, Nat.reduceMul, Nat.reduceEqDiff, Nat.reduceBEq, Nat.reduceLT, Nat.reduceLeDiff, Nat.reducePow, Int.cast_ofNat_Int, IntWalk.i64_in, IntWalk.u64_in, IntWalk.u8_in, Int.reduceToNat, Int.reduceLT, Int.reduceLE, Int.reduceGT, Int.reduceGE, Int.reduceEq, Int.reduceNeg, Int.reduceAdd, Int.reduceSub, ↓reduceIte, reduceCtorEq, beq_self_eq_true, Bool.true_beq, Bool.false_beq, Bool.and_true, Bool.true_and, Bool.false_and, Bool.and_false, Bool.and_self, Bool.not_true, Bool.not_false, Bool.not_eq_true, cond_true, cond_false, if_true, if_false, and_true, true_and, and_self, decide_true, decide_false, Bool.or_true, Bool.true_or, Bool.or_false, Bool.false_or, List.isEmpty, List.isEmpty_nil, List.size_toArray, List.map, List.length_map, List.length_cons, List.length_nil, Option.map, Option.bind, Option.getD, Option.isSome, List.replicate, Bool.false_eq_true, implies_true, forall_const, Array.toList, Array.isEmpty, List.append, List.nil_append, List.cons_append, List.drop_zero, List.take_length, List.take_succ_cons, List.take_zero, List.take_nil, List.getElem?_map, List.getElem?_cons_zero, List.getElem?_cons_succ, List.getElem?_nil, List.append_nil, r1, h1', vD]
  by_cases h2 : okV 4194304 (x, y, z) = true
  case neg =>
    have e : stepR (a, b, c) (x, y, z) = ((0, 0, 0), 4) := by rw [stepR, if_pos h1, if_neg h2]
    have h2' : okV 4194304 (x, y, z) = false := by simpa using h2
    rw [e]
    simp only [Try.f18, G6B, go_sem, Nat.reduceAdd, Nat.reduceSub, Nat.reduceMul, Nat.reduceEqDiff, Nat.reduceBEq, Nat.reduceLT, Nat.reduceLeDiff, Nat.reducePow, Int.cast_ofNat_Int, IntWalk.i64_in, IntWalk.u64_in, IntWalk.u8_in, Int.reduceToNat, Int.reduceLT, Int.reduceLE, Int.reduceGT, Int.reduceGE, Int.reduceEq, Int.reduceNeg, Int.reduceAdd, Int.reduceSub, ↓reduceIte, reduceCtorEq, beq_self_eq_true, Bool.true_beq, Bool.false_beq, Bool.and_true, Bool.true_and, Bool.false_and, Bool.and_false, Bool.and_self, Bool.not_true, Bool.not_false, Bool.not_eq_true, cond_true, cond_false, if_true, if_false, and_true, true_and, and_self, decide_true, decide_false, Bool.or_true, Bool.true_or, Bool.or_false, Bool.false_or, List.isEmpty, List.isEmpty_nil, List.size_toArray, List.map, List.length_map, List.length_cons, List.length_nil, Option.map, Option.bind, Option.getD, Option.isSome, List.replicate, Bool.false_eq_true, implies_true, forall_const, Array.toList, Array.isEmpty, List.append, List.nil_append, List.cons_append, List.drop_zero, List.take_length, List.take_succ_cons, List.take_zero, List.take_nil, List.getElem?_map, List.getElem?_cons_zero, List.getElem?_cons_succ, List.getElem?_nil, List.append_nil, r1, h1, r2, h2', vD]
  obtain ⟨⟨x0, x1⟩, ⟨y0, y1⟩, z0, z1⟩ := okV_spec h2
  obtain ⟨⟨a0, a1⟩, ⟨b0, b1⟩, c0, c1⟩ := okV_spec h1
  simp only at x0 x1 y0 y1 z0 z1 a0 a1 b0 b1 c0 c1
  have rp := sPull_run x y z
  have pb := pull_bounds (x, y, z)
  unfold stepR
  rw [if_pos h1, if_pos h2]
  generalize hp : pull (x, y, z) = P at *
  obtain ⟨p, q, r⟩ := P
  simp only at pb
  obtain ⟨p0, p1, q0, q1, r0, r1'⟩ := pb
  have w1 : IntKind.i64.wrap (x - a) = x - a := wi_in (by omega) (by omega)
  have v1 : IntKind.i64.wrap (x - a + x) = 2 * x - a := by rw [wi_in (by omega) (by omega)]; omega
  have u1 : IntKind.i64.wrap (2 * x - a + p) = 2 * x - a + p := wi_in (by omega) (by omega)
  have w2 : IntKind.i64.wrap (y - b) = y - b := wi_in (by omega) (by omega)
  have v2 : IntKind.i64.wrap (y - b + y) = 2 * y - b := by rw [wi_in (by omega) (by omega)]; omega
  have u2 : IntKind.i64.wrap (2 * y - b + q) = 2 * y - b + q := wi_in (by omega) (by omega)
  have w3 : IntKind.i64.wrap (z - c) = z - c := wi_in (by omega) (by omega)
  have v3 : IntKind.i64.wrap (z - c + z) = 2 * z - c := by rw [wi_in (by omega) (by omega)]; omega
  have u3 : IntKind.i64.wrap (2 * z - c + r) = 2 * z - c + r := wi_in (by omega) (by omega)
  have r3 := sIn_run (2 * x - a + p) (2 * y - b + q) (2 * z - c + r) 4194304 (by decide) (by decide)
  unfold vD at rp
  by_cases h3 : okV 4194304 (2 * x - a + p, 2 * y - b + q, 2 * z - c + r) = true
  · rw [if_pos h3]
    simp only [Try.f18, G6B, go_sem, Nat.reduceAdd, Nat.reduceSub, Nat.reduceMul, Nat.reduceEqDiff, Nat.reduceBEq, Nat.reduceLT, Nat.reduceLeDiff, Nat.reducePow, Int.cast_ofNat_Int, IntWalk.i64_in, IntWalk.u64_in, IntWalk.u8_in, Int.reduceToNat, Int.reduceLT, Int.reduceLE, Int.reduceGT, Int.reduceGE, Int.reduceEq, Int.reduceNeg, Int.reduceAdd, Int.reduceSub, ↓reduceIte, reduceCtorEq, beq_self_eq_true, Bool.true_beq, Bool.false_beq, Bool.and_true, Bool.true_and, Bool.false_and, Bool.and_false, Bool.and_self, Bool.not_true, Bool.not_false, Bool.not_eq_true, cond_true, cond_false, if_true, if_false, and_true, true_and, and_self, decide_true, decide_false, Bool.or_true, Bool.true_or, Bool.or_false, Bool.false_or, List.isEmpty, List.isEmpty_nil, List.size_toArray, List.map, List.length_map, List.length_cons, List.length_nil, Option.map, Option.bind, Option.getD, Option.isSome, List.replicate, Bool.false_eq_true, implies_true, forall_const, Array.toList, Array.isEmpty, List.append, List.nil_append, List.cons_append, List.drop_zero, List.take_length, List.take_succ_cons, List.take_zero, List.take_nil, List.getElem?_map, List.getElem?_cons_zero, List.getElem?_cons_succ, List.getElem?_nil, List.append_nil, r1, h1, r2, h2, rp, w1, v1, u1, w2, v2, u2, w3, v3, u3, r3, h3, vD]
  · rw [if_neg h3]
    have h3' : okV 4194304 (2 * x - a + p, 2 * y - b + q, 2 * z - c + r) = false := by simpa using h3
    simp only [Try.f18, G6B, go_sem, Nat.reduceAdd, Nat.reduceSub, Nat.reduceMul, Nat.reduceEqDiff, Nat.reduceBEq, Nat.reduceLT, Nat.reduceLeDiff, Nat.reducePow, Int.cast_ofNat_Int, IntWalk.i64_in, IntWalk.u64_in, IntWalk.u8_in, Int.reduceToNat, Int.reduceLT, Int.reduceLE, Int.reduceGT, Int.reduceGE, Int.reduceEq, Int.reduceNeg, Int.reduceAdd, Int.reduceSub, ↓reduceIte, reduceCtorEq, beq_self_eq_true, Bool.true_beq, Bool.false_beq, Bool.and_true, Bool.true_and, Bool.false_and, Bool.and_false, Bool.and_self, Bool.not_true, Bool.not_false, Bool.not_eq_true, cond_true, cond_false, if_true, if_false, and_true, true_and, and_self, decide_true, decide_false, Bool.or_true, Bool.true_or, Bool.or_false, Bool.false_or, List.isEmpty, List.isEmpty_nil, List.size_toArray, List.map, List.length_map, List.length_cons, List.length_nil, Option.map, Option.bind, Option.getD, Option.isSome, List.replicate, Bool.false_eq_true, implies_true, forall_const, Array.toList, Array.isEmpty, List.append, List.nil_append, List.cons_append, List.drop_zero, List.take_length, List.take_succ_cons, List.take_zero, List.take_nil, List.getElem?_map, List.getElem?_cons_zero, List.getElem?_cons_succ, List.getElem?_nil, List.append_nil, r1, h1, r2, h2, rp, w1, v1, u1, w2, v2, u2, w3, v3, u3, r3, h3', vD]
theorem stepB_ok : SpecOk Try.prog 18 sStep := specC_ok mixed G6B_ok T6B_ok fun x _ => ⟨0, 1, eStepB x.1.1 x.1.2.1 x.1.2.2 x.2.1 x.2.2.1 x.2.2.2⟩
#print axioms stepB_ok
end Go.Proofs.YtmhjmjodchbhlaaR.Pull2Pull
