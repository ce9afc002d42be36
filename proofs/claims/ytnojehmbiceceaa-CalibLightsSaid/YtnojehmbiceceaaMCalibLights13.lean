/- The row of the law CalibLights: for every input the call returns true. Over the evaluator's contract of the law's function. No conditions. -/
import Derived.Test.YtnojehmbiceceaaMCalibLights12
import Derived.Test.YtnojehmbiceceaaRows
import Derived.WalkKit
import Derived.ProofKit
import Derived.OpenShut
import Derived.ShutString
import Derived.ChangeOld
import Derived.Below
import Derived.SizedLaws
import Derived.Carry
import Derived.WideShapes
import Derived.KernelRfl
section
set_option linter.unusedVariables false
set_option linter.unusedSimpArgs false
set_option maxRecDepth 100000
namespace Go.Proofs.Ytnojehmbiceceaa.P
open Go.Ev Go.IntKind Go.Proofs.Ytnojehmbiceceaa Go.Proofs.Ytnojehmbiceceaa.Ty Go.Proofs.Ytnojehmbiceceaa.E
noncomputable def p_spyref3_CellLight (L : Nat) (a0_0 : Int) (a0_1 : Int) (a0_2 : Bool) (a1_0 : Int) (a1_1 : Int) (a1_2 : Bool) (a2_0 : Int) (a2_1 : Int) (a2_2 : Bool) (a3 : Int) : Option (Int × Int × Bool) := bnd (p_spyref3_Bad_Quanta L a0_0 a0_1 a0_2) fun r1 => cb r1 (some (0, 0, true)) (bnd (p_spyref3_Bad_Part L a2_0 a2_1 a2_2) fun r2 => cb r2 (some (0, 0, true)) (if a2_0 < 1 then (some (0, 0, true)) else (if a2_1 > 4096 then (some (0, 0, true)) else (if a3 < 0 then (some (0, 0, true)) else (if a3 > 16 then (some (0, 0, true)) else (bnd (p_spyref3_Meant L a0_0 a0_1 a0_2) fun r3 => bnd (p_spyref3_rest L r3.1 r3.2.1 r3.2.2 a1_0 a1_1 a1_2 a3) fun r4 => cb r4.2.2 (bnd (p_spyref3_Down L r4.1 4096 (shlI .i64 a2_1 24)) fun r5 => bnd (p_spyref3_Up L r4.2.1 4096 (shlI .i64 a2_0 24)) fun r6 => bnd (p_spyref3_Span_Quanta L r5 r6) fun r7 => some (r7.1, r7.2.1, r7.2.2)) (some (0, 0, true))))))))
attribute [local go_sem] Ev.putR_s Ev.putR_0 Ev.thenO_s Ev.thenO_0 Ev.seqR_n Ev.seqR_e Ev.seqR_r Ev.seqR_0 Ev.blkR_e Ev.blkR_n Ev.blkR_r Ev.blkR_0 Ev.normR_s Ev.normR_0 Ev.outR_r Ev.outR_n Ev.outR_0 Ev.retS_s Ev.retS_0 Ev.pureO_s Ev.pureO_0 Ev.topR_0 Ev.topR_t Ev.topR_t0 Ev.oneL_0 Ev.oneL_s Ev.topR_d Ev.topR_nils Ev.topR_agg Ev.topR_rs Ev.evOp_move Ev.evOp_assign Ev.evOp_pick Ev.evOp_alloc Ev.evOp_box Ev.evOp_build Ev.evOp_buildSlice Ev.evOp_load Ev.evOp_store Ev.evOp_makeMap Ev.evOp_lookup Ev.evOp_mapUpdate Ev.evOp_insert Ev.evOp_nilCheck Ev.evOp_binOp Ev.evOp_unOp Ev.evOp_convert Ev.evOp_makeFunc Ev.evOp_makeSlice Ev.evOp_slice Ev.evOp_fieldAddr Ev.evOp_field Ev.evOp_indexAddr Ev.evOp_index Ev.evOp_extract Ev.evOp_call Ev.evOp_append Ev.evOp_clear Ev.evOp_len Ev.evOp_min Ev.evOp_max Ev.condR_b Ev.condR_t Ev.evOps_nil Ev.evOps_plain Ev.evOps_guard Ev.runG_eq Ev.skipG_eq Ev.condL_tt Ev.condL_ff Ev.condL_tf Ev.condL_ft Ev.condL_u Ev.condC_t Ev.condC_f Ev.evC_skip Ev.evC_ret Ev.evC_exit Ev.evC_label Ev.evC_region Ev.evC_draw Ev.evC_seq Ev.evC_cond Ev.evC_block Ev.evC_loop Ev.fin_d Ev.fin_nils Ev.fin_agg_ Ev.fin_rs Ev.finS_s Ev.mapO_fin Ev.upd_upd Ev.argv_d Ev.argv_nils Ev.argv_agg Ev.argv_rs Ev.argv_p Ev.fk_low Ev.appendTo_nils Ev.appendTo_rs Ev.consV_d Ev.consV_agg Ev.consV_p Ev.consV_rs Ev.consV_nils Ev.consV_fn Ev.consV_und Ev.consV_jk Ev.consV_grown Ev.topR_grown Ev.len_grown Ev.consV_mp Ev.sameK_i Ev.sameK_s Ev.mget_0 Ev.mget_hit Ev.mget_miss Ev.mput_0 Ev.mput_hit Ev.mput_miss Ev.apartAll Ev.apartL Ev.apartV Ev.freeAll Ev.sel Ev.keyOfV Ev.evLookup Ev.evPut Ev.hintOk Ev.keyOk Ev.consP Ev.lookV Ev.guardV Ev.dstAt Ev.evPure Ev.evStore Ev.evBin Ev.evBinO Ev.evNil Ev.isNilC Ev.evUn Ev.evConv Ev.evSlice Ev.optI Ev.foldI Ev.capsOk Ev.noTup Ev.nth Ev.setN Ev.killAt Ev.pad Ev.V.get Ev.V.put Ev.putD Ev.newBlk Ev.upd Ev.keq Ev.empty Ev.evCall Ev.V.args Ev.argP Ev.callOf Ev.evNilP Ev.isNilP Ev.look Ev.V.view.views Ev.V.view Ev.V.toD Ev.V.toD.V.toDs Ev.V.pure.pures Ev.V.pure Ev.D.flat.flats Ev.D.flat Ev.mkAgg Ev.allD Ev.aggParts Ev.setParts Ev.setElems Ev.getPath Ev.setPath Ev.subL Ev.eqD Ev.eqD.eqDs Ev.and2 Ev.strCut Ev.evalT Ev.constT Ev.evArgs Ev.mask Ev.maskOf Ev.tableOf Ev.compT Ev.resV Ev.retV Ev.mapO Ev.frzO_n Ev.frzO_e Ev.frzO_r Ev.frzO_0 Ev.mb_z Ev.mb_0 Ev.mb_s Ev.frzL_t Ev.frzL_f Ev.frzL_0 Ev.frzT_nils Ev.frzT_rs Ev.frzT_p Ev.frzK_i Ev.keyIn_i Ev.rI_nil Ev.rI_cons Ev.rI_row Ev.rI_app Ev.r_d Ev.r_nils Ev.r_agg Ev.r_rs Ev.r_gl Ev.vw_row Ev.vw_app Ev.appO_s Ev.frzT_gl Ev.allD_gl Ev.killAt_i Ev.tkOne_i Ev.hT_agg Ev.hT_vagg Ev.hT_int Ev.hT_bool Ev.hT_str Ev.hT_sl Ev.hT_ptr Ev.hT_np Ev.hT_p Ev.hT_rs Ev.hT_mp Ev.hT_nils Ev.hT_fn Ev.hT_jk Ev.hT_gl Ev.eO_sl Ev.eO_nils Ev.eO_rs Ev.eT_sl Ev.eT_rs Ev.pL_str Ev.pL_sl Ev.pL_rs Ev.pL_nils Ev.pL_min Ev.pL_max Ev.len_glB Ev.noTup_gl Ev.rowV_len Ev.rowV_nil Ev.rowV_cons Ev.rowV_append Ev.rowV_set Ev.rowV_replicate Ev.nth_row Ev.row_take Ev.row_drop Ev.toDs_row Ev.fin_row Ev.map_row Ev.map_take_ Ev.map_drop_ Ev.Bk_i Ev.GlB_0 Ev.GlB_mk Ev.gl_nil Ev.gl_cons Ev.gl_snoc Ev.gl_setN Ev.appendTo_gl Ev.consV_gl Ev.elems_gl Ev.fin_gl Ev.view_gl Ev.argv_gl Ev.topR_gl Ev.sp_z Ev.sp_0 Ev.sp_s Ev.km_z Ev.km_0 Ev.km_s Ev.beq_toList Ev.nc0 Ev.bq_t Ev.bq_f Ev.bodyN Ev.le_maxRow Int.cast_ofNat_Int IntWalk.i64_in IntWalk.u64_in IntWalk.u8_in beq_self_eq_true Bool.true_beq Bool.false_beq Bool.and_true Bool.true_and Bool.false_and Bool.and_false Bool.and_self Bool.not_true Bool.not_false Bool.not_eq_true cond_true cond_false if_true if_false and_true true_and and_self decide_true decide_false Bool.or_true Bool.true_or Bool.or_false Bool.false_or List.isEmpty List.isEmpty_nil List.size_toArray List.map List.length_map List.length_cons List.length_nil Option.map Option.bind Option.getD Option.isSome List.replicate Bool.false_eq_true implies_true false_implies forall_const Array.toList Array.isEmpty List.append List.nil_append List.cons_append List.drop_zero List.take_length List.take_succ_cons List.take_zero List.take_nil List.getElem?_map List.getElem?_cons_zero List.getElem?_cons_succ List.getElem?_nil List.append_nil eq_self Int.toNat_natCast List.length_append Nat.zero_add Nat.add_zero List.length_replicate Nat.sub_zero Option.map_some Option.map_none Int.le_refl Nat.le_refl Int.natCast_nonneg List.map_append
noncomputable def G_spyref3_CellLight (L : Nat) : Specs := [(81, s_spyref3_Bad_Quanta L), (82, s_spyref3_Bad_Part L), (83, s_spyref3_rest L), (84, s_spyref3_Meant L), (85, s_spyref3_Span_Quanta L), (86, s_spyref3_Down L), (87, s_spyref3_Up L)]
noncomputable def T_spyref3_CellLight : Table := tableOf [(20, en20)]
theorem Go_spyref3_CellLight (L : Nat) (hL : L ≤ 4611686018427387904) : ∀ g s, Ev.look (G_spyref3_CellLight L) g = some s → SpecOk Try.prog g s := (specs_cons (ok_spyref3_Bad_Quanta L hL) (specs_cons (ok_spyref3_Bad_Part L hL) (specs_cons (ok_spyref3_rest L hL) (specs_cons (ok_spyref3_Meant L hL) (specs_cons (ok_spyref3_Span_Quanta L hL) (specs_cons (ok_spyref3_Down L hL) (specs_cons (ok_spyref3_Up L hL) specs_nil)))))))
theorem To_spyref3_CellLight (L : Nat) : TableOk Try.prog ((G_spyref3_CellLight L).map (·.1)) T_spyref3_CellLight := (table_cons Try.func20 (by kernel_rfl) (by kernel_rfl) table_nil)
theorem lk_spyref3_CellLight_81 (L : Nat) : Ev.look (G_spyref3_CellLight L) 81 = some (s_spyref3_Bad_Quanta L) := nr rfl
theorem lk_spyref3_CellLight_82 (L : Nat) : Ev.look (G_spyref3_CellLight L) 82 = some (s_spyref3_Bad_Part L) := nr rfl
theorem lk_spyref3_CellLight_83 (L : Nat) : Ev.look (G_spyref3_CellLight L) 83 = some (s_spyref3_rest L) := nr rfl
theorem lk_spyref3_CellLight_84 (L : Nat) : Ev.look (G_spyref3_CellLight L) 84 = some (s_spyref3_Meant L) := nr rfl
theorem lk_spyref3_CellLight_85 (L : Nat) : Ev.look (G_spyref3_CellLight L) 85 = some (s_spyref3_Span_Quanta L) := nr rfl
theorem lk_spyref3_CellLight_86 (L : Nat) : Ev.look (G_spyref3_CellLight L) 86 = some (s_spyref3_Down L) := nr rfl
theorem lk_spyref3_CellLight_87 (L : Nat) : Ev.look (G_spyref3_CellLight L) 87 = some (s_spyref3_Up L) := nr rfl
attribute [local go_sem] Ty.tk2 Ty.ik2 Ty.ek2 Ty.zv2 Ty.by2 Ty.so2 Ty.tk3 Ty.ik3 Ty.ek3 Ty.zv3 Ty.by3 Ty.so3 Ty.tk4 Ty.ub4 Ty.ek4 Ty.zv4 Ty.by4 Ty.so4 Ty.tk24 Ty.ik24 Ty.ek24 Ty.zv24 Ty.by24 Ty.so24 Ty.tk32 Ty.ik32 Ty.ek32 Ty.zv32 Ty.by32 Ty.so32 Ty.tk35 Ty.ct35 Ty.ek35 Ty.zv35 Ty.by35 Ty.so35 Ty.tk37 Ty.ct37 Ty.ek37 Ty.zv37 Ty.by37 Ty.so37 Ty.tk38 Ty.ik38 Ty.ek38 Ty.zv38 Ty.by38 Ty.so38 Ty.tk40 Ty.ct40 Ty.ek40 Ty.zv40 Ty.by40 Ty.so40 Ty.tk147 Ty.ik147 Ty.ek147 Ty.zv147 Ty.by147 Ty.so147 Ty.k35_e Ty.k37_e Ty.k40_e E.dw20_4 E.kl20_4 E.nc20_4 E.dw20_7 E.kl20_7 E.nc20_7 E.mk20_1000000 lk_spyref3_CellLight_81 lk_spyref3_CellLight_82 lk_spyref3_CellLight_83 lk_spyref3_CellLight_84 lk_spyref3_CellLight_85 lk_spyref3_CellLight_86 lk_spyref3_CellLight_87 s_spyref3_Bad_Quanta_run s_spyref3_Bad_Part_run s_spyref3_rest_run s_spyref3_Meant_run s_spyref3_Span_Quanta_run s_spyref3_Down_run s_spyref3_Up_run loopN loops Try.f20
theorem e_spyref3_CellLight (L : Nat) (hL : L ≤ 4611686018427387904) (a0_0 : Int) (a0_1 : Int) (a0_2 : Bool) (a1_0 : Int) (a1_1 : Int) (a1_2 : Bool) (a2_0 : Int) (a2_1 : Int) (a2_2 : Bool) (a3 : Int) (res : Int × Int × Bool) (h : p_spyref3_CellLight L a0_0 a0_1 a0_2 a1_0 a1_1 a1_2 a2_0 a2_1 a2_2 a3 = some res) : evTop Try.prog (G_spyref3_CellLight L) T_spyref3_CellLight L 1 20 [.agg 35 [.int .i64 a0_0, .int .i64 a0_1, .bool a0_2], .agg 37 [.int .i64 a1_0, .int .i64 a1_1, .bool a1_2], .agg 40 [.int .i64 a2_0, .int .i64 a2_1, .bool a2_2], .int .i64 a3] = some [.agg 35 [.int .i64 res.1, .int .i64 res.2.1, .bool res.2.2]] := by
  revert h
  unfold p_spyref3_CellLight evTop
  simp only [List.map]
  rw [evF_s (fn := Try.f20) (msk := en20.ms) (hT := by rfl) (hb := by rfl)]
  refine bnd_i fun r1 c1 => ?_
  refine cb_i (fun c2 => ?_) (fun c2 => ?_)
  · rintro ⟨⟩
    simp only [go_sem, Nat.reduceAdd, Nat.reduceSub, Nat.reduceMul, Nat.reduceEqDiff, Nat.reduceBEq, Nat.reduceLT, Nat.reduceLeDiff, Nat.reducePow, Int.reduceToNat, Int.reduceLT, Int.reduceLE, Int.reduceGT, Int.reduceGE, Int.reduceEq, Int.reduceNeg, Int.reduceAdd, Int.reduceSub, Int.reduceMul, ↓reduceIte, reduceCtorEq, *]
  · refine bnd_i fun r2 c3 => ?_
    refine cb_i (fun c4 => ?_) (fun c4 => ?_)
    · rintro ⟨⟩
      simp only [go_sem, Nat.reduceAdd, Nat.reduceSub, Nat.reduceMul, Nat.reduceEqDiff, Nat.reduceBEq, Nat.reduceLT, Nat.reduceLeDiff, Nat.reducePow, Int.reduceToNat, Int.reduceLT, Int.reduceLE, Int.reduceGT, Int.reduceGE, Int.reduceEq, Int.reduceNeg, Int.reduceAdd, Int.reduceSub, Int.reduceMul, ↓reduceIte, reduceCtorEq, *]
    · refine ite_i (fun c5 => ?_) (fun c5 => ?_)
      · rintro ⟨⟩
        simp only [go_sem, Nat.reduceAdd, Nat.reduceSub, Nat.reduceMul, Nat.reduceEqDiff, Nat.reduceBEq, Nat.reduceLT, Nat.reduceLeDiff, Nat.reducePow, Int.reduceToNat, Int.reduceLT, Int.reduceLE, Int.reduceGT, Int.reduceGE, Int.reduceEq, Int.reduceNeg, Int.reduceAdd, Int.reduceSub, Int.reduceMul, ↓reduceIte, reduceCtorEq, *]
      · refine ite_i (fun c6 => ?_) (fun c6 => ?_)
        · rintro ⟨⟩
          simp only [go_sem, Nat.reduceAdd, Nat.reduceSub, Nat.reduceMul, Nat.reduceEqDiff, Nat.reduceBEq, Nat.reduceLT, Nat.reduceLeDiff, Nat.reducePow, Int.reduceToNat, Int.reduceLT, Int.reduceLE, Int.reduceGT, Int.reduceGE, Int.reduceEq, Int.reduceNeg, Int.reduceAdd, Int.reduceSub, Int.reduceMul, ↓reduceIte, reduceCtorEq, *]
        · refine ite_i (fun c7 => ?_) (fun c7 => ?_)
          · rintro ⟨⟩
            simp only [go_sem, Nat.reduceAdd, Nat.reduceSub, Nat.reduceMul, Nat.reduceEqDiff, Nat.reduceBEq, Nat.reduceLT, Nat.reduceLeDiff, Nat.reducePow, Int.reduceToNat, Int.reduceLT, Int.reduceLE, Int.reduceGT, Int.reduceGE, Int.reduceEq, Int.reduceNeg, Int.reduceAdd, Int.reduceSub, Int.reduceMul, ↓reduceIte, reduceCtorEq, *]
          · refine ite_i (fun c8 => ?_) (fun c8 => ?_)
            · rintro ⟨⟩
              simp only [go_sem, Nat.reduceAdd, Nat.reduceSub, Nat.reduceMul, Nat.reduceEqDiff, Nat.reduceBEq, Nat.reduceLT, Nat.reduceLeDiff, Nat.reducePow, Int.reduceToNat, Int.reduceLT, Int.reduceLE, Int.reduceGT, Int.reduceGE, Int.reduceEq, Int.reduceNeg, Int.reduceAdd, Int.reduceSub, Int.reduceMul, ↓reduceIte, reduceCtorEq, *]
            · refine bnd_i fun r3 c9 => ?_
              refine bnd_i fun r4 c10 => ?_
              refine cb_i (fun c11 => ?_) (fun c11 => ?_)
              · refine bnd_i fun r5 c12 => ?_
                refine bnd_i fun r6 c13 => ?_
                refine bnd_i fun r7 c14 => ?_
                rintro ⟨⟩
                simp only [go_sem, Nat.reduceAdd, Nat.reduceSub, Nat.reduceMul, Nat.reduceEqDiff, Nat.reduceBEq, Nat.reduceLT, Nat.reduceLeDiff, Nat.reducePow, Int.reduceToNat, Int.reduceLT, Int.reduceLE, Int.reduceGT, Int.reduceGE, Int.reduceEq, Int.reduceNeg, Int.reduceAdd, Int.reduceSub, Int.reduceMul, ↓reduceIte, reduceCtorEq, *]
              · rintro ⟨⟩
                simp only [go_sem, Nat.reduceAdd, Nat.reduceSub, Nat.reduceMul, Nat.reduceEqDiff, Nat.reduceBEq, Nat.reduceLT, Nat.reduceLeDiff, Nat.reducePow, Int.reduceToNat, Int.reduceLT, Int.reduceLE, Int.reduceGT, Int.reduceGE, Int.reduceEq, Int.reduceNeg, Int.reduceAdd, Int.reduceSub, Int.reduceMul, ↓reduceIte, reduceCtorEq, *]
noncomputable def s_spyref3_CellLight (L : Nat) : Ev.Spec := specP (cCons k35 (cCons k37 (cCons k40 (cCons (cI .i64) cNil)))) (fun x => p_spyref3_CellLight L x.1.1 x.1.2.1 x.1.2.2.1 x.2.1.1 x.2.1.2.1 x.2.1.2.2.1 x.2.2.1.1 x.2.2.1.2.1 x.2.2.1.2.2.1 x.2.2.2.1) (fun r => [.agg 35 [.int .i64 r.1, .int .i64 r.2.1, .bool r.2.2]])
theorem s_spyref3_CellLight_run (L : Nat) (a0_0 : Int) (a0_1 : Int) (a0_2 : Bool) (a1_0 : Int) (a1_1 : Int) (a1_2 : Bool) (a2_0 : Int) (a2_1 : Int) (a2_2 : Bool) (a3 : Int) : (s_spyref3_CellLight L).run [.agg 35 [.int .i64 a0_0, .int .i64 a0_1, .bool a0_2], .agg 37 [.int .i64 a1_0, .int .i64 a1_1, .bool a1_2], .agg 40 [.int .i64 a2_0, .int .i64 a2_1, .bool a2_2], .int .i64 a3] = (p_spyref3_CellLight L a0_0 a0_1 a0_2 a1_0 a1_1 a1_2 a2_0 a2_1 a2_2 a3).map fun r => [.agg 35 [.int .i64 r.1, .int .i64 r.2.1, .bool r.2.2]] := specP_run (cCons k35 (cCons k37 (cCons k40 (cCons (cI .i64) cNil)))) (fun x => p_spyref3_CellLight L x.1.1 x.1.2.1 x.1.2.2.1 x.2.1.1 x.2.1.2.1 x.2.1.2.2.1 x.2.2.1.1 x.2.2.1.2.1 x.2.2.1.2.2.1 x.2.2.2.1) (fun r => [.agg 35 [.int .i64 r.1, .int .i64 r.2.1, .bool r.2.2]]) ((a0_0, a0_1, a0_2, ()), (a1_0, a1_1, a1_2, ()), (a2_0, a2_1, a2_2, ()), a3, ())
theorem ok_spyref3_CellLight (L : Nat) (hL : L ≤ 4611686018427387904) : SpecOk Try.prog 20 (s_spyref3_CellLight L) := specP_ok mixed (Go_spyref3_CellLight L hL) (To_spyref3_CellLight L) fun x r h => ⟨L, 1, e_spyref3_CellLight L hL x.1.1 x.1.2.1 x.1.2.2.1 x.2.1.1 x.2.1.2.1 x.2.1.2.2.1 x.2.2.1.1 x.2.2.1.2.1 x.2.2.1.2.2.1 x.2.2.2.1 r h⟩
end Go.Proofs.Ytnojehmbiceceaa.P
end
section
set_option linter.unusedVariables false
set_option linter.unusedSimpArgs false
set_option maxRecDepth 100000
namespace Go.Proofs.Ytnojehmbiceceaa.P
open Go.Ev Go.IntKind Go.Proofs.Ytnojehmbiceceaa Go.Proofs.Ytnojehmbiceceaa.Ty Go.Proofs.Ytnojehmbiceceaa.E
noncomputable def p_spylaw3_CalibLights (L : Nat) (a0_0 : Int) (a0_1 : Int) (a0_2 : Bool) (a1_0 : Int) (a1_1 : Int) (a1_2 : Bool) (a2_0 : Int) (a2_1 : Int) (a2_2 : Bool) (a3 : Int) : Option Bool := bnd (p_spylaw3_calibs L) fun r1 => cb r1 (bnd (p_calib_Light L a0_0 a0_1 a0_2 a1_0 a1_1 a1_2 a2_0 a2_1 a2_2 a3) fun r2 => bnd (p_spyref3_CellLight L a0_0 a0_1 a0_2 a1_0 a1_1 a1_2 a2_0 a2_1 a2_2 a3) fun r3 => some ((decide (r2.1 = r3.1)) && ((decide (r2.2.1 = r3.2.1)) && (r2.2.2 == r3.2.2)))) (some false)
attribute [local go_sem] Ev.putR_s Ev.putR_0 Ev.thenO_s Ev.thenO_0 Ev.seqR_n Ev.seqR_e Ev.seqR_r Ev.seqR_0 Ev.blkR_e Ev.blkR_n Ev.blkR_r Ev.blkR_0 Ev.normR_s Ev.normR_0 Ev.outR_r Ev.outR_n Ev.outR_0 Ev.retS_s Ev.retS_0 Ev.pureO_s Ev.pureO_0 Ev.topR_0 Ev.topR_t Ev.topR_t0 Ev.oneL_0 Ev.oneL_s Ev.topR_d Ev.topR_nils Ev.topR_agg Ev.topR_rs Ev.evOp_move Ev.evOp_assign Ev.evOp_pick Ev.evOp_alloc Ev.evOp_box Ev.evOp_build Ev.evOp_buildSlice Ev.evOp_load Ev.evOp_store Ev.evOp_makeMap Ev.evOp_lookup Ev.evOp_mapUpdate Ev.evOp_insert Ev.evOp_nilCheck Ev.evOp_binOp Ev.evOp_unOp Ev.evOp_convert Ev.evOp_makeFunc Ev.evOp_makeSlice Ev.evOp_slice Ev.evOp_fieldAddr Ev.evOp_field Ev.evOp_indexAddr Ev.evOp_index Ev.evOp_extract Ev.evOp_call Ev.evOp_append Ev.evOp_clear Ev.evOp_len Ev.evOp_min Ev.evOp_max Ev.condR_b Ev.condR_t Ev.evOps_nil Ev.evOps_plain Ev.evOps_guard Ev.runG_eq Ev.skipG_eq Ev.condL_tt Ev.condL_ff Ev.condL_tf Ev.condL_ft Ev.condL_u Ev.condC_t Ev.condC_f Ev.evC_skip Ev.evC_ret Ev.evC_exit Ev.evC_label Ev.evC_region Ev.evC_draw Ev.evC_seq Ev.evC_cond Ev.evC_block Ev.evC_loop Ev.fin_d Ev.fin_nils Ev.fin_agg_ Ev.fin_rs Ev.finS_s Ev.mapO_fin Ev.upd_upd Ev.argv_d Ev.argv_nils Ev.argv_agg Ev.argv_rs Ev.argv_p Ev.fk_low Ev.appendTo_nils Ev.appendTo_rs Ev.consV_d Ev.consV_agg Ev.consV_p Ev.consV_rs Ev.consV_nils Ev.consV_fn Ev.consV_und Ev.consV_jk Ev.consV_grown Ev.topR_grown Ev.len_grown Ev.consV_mp Ev.sameK_i Ev.sameK_s Ev.mget_0 Ev.mget_hit Ev.mget_miss Ev.mput_0 Ev.mput_hit Ev.mput_miss Ev.apartAll Ev.apartL Ev.apartV Ev.freeAll Ev.sel Ev.keyOfV Ev.evLookup Ev.evPut Ev.hintOk Ev.keyOk Ev.consP Ev.lookV Ev.guardV Ev.dstAt Ev.evPure Ev.evStore Ev.evBin Ev.evBinO Ev.evNil Ev.isNilC Ev.evUn Ev.evConv Ev.evSlice Ev.optI Ev.foldI Ev.capsOk Ev.noTup Ev.nth Ev.setN Ev.killAt Ev.pad Ev.V.get Ev.V.put Ev.putD Ev.newBlk Ev.upd Ev.keq Ev.empty Ev.evCall Ev.V.args Ev.argP Ev.callOf Ev.evNilP Ev.isNilP Ev.look Ev.V.view.views Ev.V.view Ev.V.toD Ev.V.toD.V.toDs Ev.V.pure.pures Ev.V.pure Ev.D.flat.flats Ev.D.flat Ev.mkAgg Ev.allD Ev.aggParts Ev.setParts Ev.setElems Ev.getPath Ev.setPath Ev.subL Ev.eqD Ev.eqD.eqDs Ev.and2 Ev.strCut Ev.evalT Ev.constT Ev.evArgs Ev.mask Ev.maskOf Ev.tableOf Ev.compT Ev.resV Ev.retV Ev.mapO Ev.frzO_n Ev.frzO_e Ev.frzO_r Ev.frzO_0 Ev.mb_z Ev.mb_0 Ev.mb_s Ev.frzL_t Ev.frzL_f Ev.frzL_0 Ev.frzT_nils Ev.frzT_rs Ev.frzT_p Ev.frzK_i Ev.keyIn_i Ev.rI_nil Ev.rI_cons Ev.rI_row Ev.rI_app Ev.r_d Ev.r_nils Ev.r_agg Ev.r_rs Ev.r_gl Ev.vw_row Ev.vw_app Ev.appO_s Ev.frzT_gl Ev.allD_gl Ev.killAt_i Ev.tkOne_i Ev.hT_agg Ev.hT_vagg Ev.hT_int Ev.hT_bool Ev.hT_str Ev.hT_sl Ev.hT_ptr Ev.hT_np Ev.hT_p Ev.hT_rs Ev.hT_mp Ev.hT_nils Ev.hT_fn Ev.hT_jk Ev.hT_gl Ev.eO_sl Ev.eO_nils Ev.eO_rs Ev.eT_sl Ev.eT_rs Ev.pL_str Ev.pL_sl Ev.pL_rs Ev.pL_nils Ev.pL_min Ev.pL_max Ev.len_glB Ev.noTup_gl Ev.rowV_len Ev.rowV_nil Ev.rowV_cons Ev.rowV_append Ev.rowV_set Ev.rowV_replicate Ev.nth_row Ev.row_take Ev.row_drop Ev.toDs_row Ev.fin_row Ev.map_row Ev.map_take_ Ev.map_drop_ Ev.Bk_i Ev.GlB_0 Ev.GlB_mk Ev.gl_nil Ev.gl_cons Ev.gl_snoc Ev.gl_setN Ev.appendTo_gl Ev.consV_gl Ev.elems_gl Ev.fin_gl Ev.view_gl Ev.argv_gl Ev.topR_gl Ev.sp_z Ev.sp_0 Ev.sp_s Ev.km_z Ev.km_0 Ev.km_s Ev.beq_toList Ev.nc0 Ev.bq_t Ev.bq_f Ev.bodyN Ev.le_maxRow Int.cast_ofNat_Int IntWalk.i64_in IntWalk.u64_in IntWalk.u8_in beq_self_eq_true Bool.true_beq Bool.false_beq Bool.and_true Bool.true_and Bool.false_and Bool.and_false Bool.and_self Bool.not_true Bool.not_false Bool.not_eq_true cond_true cond_false if_true if_false and_true true_and and_self decide_true decide_false Bool.or_true Bool.true_or Bool.or_false Bool.false_or List.isEmpty List.isEmpty_nil List.size_toArray List.map List.length_map List.length_cons List.length_nil Option.map Option.bind Option.getD Option.isSome List.replicate Bool.false_eq_true implies_true false_implies forall_const Array.toList Array.isEmpty List.append List.nil_append List.cons_append List.drop_zero List.take_length List.take_succ_cons List.take_zero List.take_nil List.getElem?_map List.getElem?_cons_zero List.getElem?_cons_succ List.getElem?_nil List.append_nil eq_self Int.toNat_natCast List.length_append Nat.zero_add Nat.add_zero List.length_replicate Nat.sub_zero Option.map_some Option.map_none Int.le_refl Nat.le_refl Int.natCast_nonneg List.map_append
noncomputable def G_spylaw3_CalibLights (L : Nat) : Specs := [(18, s_spylaw3_calibs L), (19, s_calib_Light L), (20, s_spyref3_CellLight L)]
noncomputable def T_spylaw3_CalibLights : Table := tableOf [(4, en4)]
theorem Go_spylaw3_CalibLights (L : Nat) (hL : L ≤ 4611686018427387904) : ∀ g s, Ev.look (G_spylaw3_CalibLights L) g = some s → SpecOk Try.prog g s := (specs_cons (ok_spylaw3_calibs L hL) (specs_cons (ok_calib_Light L hL) (specs_cons (ok_spyref3_CellLight L hL) specs_nil)))
theorem To_spylaw3_CalibLights (L : Nat) : TableOk Try.prog ((G_spylaw3_CalibLights L).map (·.1)) T_spylaw3_CalibLights := (table_cons Try.func4 (by kernel_rfl) (by kernel_rfl) table_nil)
theorem lk_spylaw3_CalibLights_18 (L : Nat) : Ev.look (G_spylaw3_CalibLights L) 18 = some (s_spylaw3_calibs L) := nr rfl
theorem lk_spylaw3_CalibLights_19 (L : Nat) : Ev.look (G_spylaw3_CalibLights L) 19 = some (s_calib_Light L) := nr rfl
theorem lk_spylaw3_CalibLights_20 (L : Nat) : Ev.look (G_spylaw3_CalibLights L) 20 = some (s_spyref3_CellLight L) := nr rfl
attribute [local go_sem] Ty.tk3 Ty.ik3 Ty.ek3 Ty.zv3 Ty.by3 Ty.so3 Ty.tk4 Ty.ub4 Ty.ek4 Ty.zv4 Ty.by4 Ty.so4 Ty.tk24 Ty.ik24 Ty.ek24 Ty.zv24 Ty.by24 Ty.so24 Ty.tk32 Ty.ik32 Ty.ek32 Ty.zv32 Ty.by32 Ty.so32 Ty.tk35 Ty.ct35 Ty.ek35 Ty.zv35 Ty.by35 Ty.so35 Ty.tk37 Ty.ct37 Ty.ek37 Ty.zv37 Ty.by37 Ty.so37 Ty.tk38 Ty.ik38 Ty.ek38 Ty.zv38 Ty.by38 Ty.so38 Ty.tk40 Ty.ct40 Ty.ek40 Ty.zv40 Ty.by40 Ty.so40 Ty.k35_e Ty.k37_e Ty.k40_e E.dw4_1 E.kl4_1 E.nc4_1 E.mk4_1000000 lk_spylaw3_CalibLights_18 lk_spylaw3_CalibLights_19 lk_spylaw3_CalibLights_20 s_spylaw3_calibs_run s_calib_Light_run s_spyref3_CellLight_run loopN loops Try.f4
theorem e_spylaw3_CalibLights (L : Nat) (hL : L ≤ 4611686018427387904) (a0_0 : Int) (a0_1 : Int) (a0_2 : Bool) (a1_0 : Int) (a1_1 : Int) (a1_2 : Bool) (a2_0 : Int) (a2_1 : Int) (a2_2 : Bool) (a3 : Int) (res : Bool) (h : p_spylaw3_CalibLights L a0_0 a0_1 a0_2 a1_0 a1_1 a1_2 a2_0 a2_1 a2_2 a3 = some res) : evTop Try.prog (G_spylaw3_CalibLights L) T_spylaw3_CalibLights L 1 4 [.agg 35 [.int .i64 a0_0, .int .i64 a0_1, .bool a0_2], .agg 37 [.int .i64 a1_0, .int .i64 a1_1, .bool a1_2], .agg 40 [.int .i64 a2_0, .int .i64 a2_1, .bool a2_2], .int .i64 a3] = some [.bool res] := by
  revert h
  unfold p_spylaw3_CalibLights evTop
  simp only [List.map]
  rw [evF_s (fn := Try.f4) (msk := en4.ms) (hT := by rfl) (hb := by rfl)]
  refine bnd_i fun r1 c1 => ?_
  refine cb_i (fun c2 => ?_) (fun c2 => ?_)
  · refine bnd_i fun r2 c3 => ?_
    refine bnd_i fun r3 c4 => ?_
    rintro ⟨⟩
    simp only [go_sem, Nat.reduceAdd, Nat.reduceSub, Nat.reduceMul, Nat.reduceEqDiff, Nat.reduceBEq, Nat.reduceLT, Nat.reduceLeDiff, Nat.reducePow, Int.reduceToNat, Int.reduceLT, Int.reduceLE, Int.reduceGT, Int.reduceGE, Int.reduceEq, Int.reduceNeg, Int.reduceAdd, Int.reduceSub, Int.reduceMul, ↓reduceIte, reduceCtorEq, *]
  · rintro ⟨⟩
    simp only [go_sem, Nat.reduceAdd, Nat.reduceSub, Nat.reduceMul, Nat.reduceEqDiff, Nat.reduceBEq, Nat.reduceLT, Nat.reduceLeDiff, Nat.reducePow, Int.reduceToNat, Int.reduceLT, Int.reduceLE, Int.reduceGT, Int.reduceGE, Int.reduceEq, Int.reduceNeg, Int.reduceAdd, Int.reduceSub, Int.reduceMul, ↓reduceIte, reduceCtorEq, *]
noncomputable def s_spylaw3_CalibLights (L : Nat) : Ev.Spec := specP (cCons k35 (cCons k37 (cCons k40 (cCons (cI .i64) cNil)))) (fun x => p_spylaw3_CalibLights L x.1.1 x.1.2.1 x.1.2.2.1 x.2.1.1 x.2.1.2.1 x.2.1.2.2.1 x.2.2.1.1 x.2.2.1.2.1 x.2.2.1.2.2.1 x.2.2.2.1) (fun r => [.bool r])
theorem s_spylaw3_CalibLights_run (L : Nat) (a0_0 : Int) (a0_1 : Int) (a0_2 : Bool) (a1_0 : Int) (a1_1 : Int) (a1_2 : Bool) (a2_0 : Int) (a2_1 : Int) (a2_2 : Bool) (a3 : Int) : (s_spylaw3_CalibLights L).run [.agg 35 [.int .i64 a0_0, .int .i64 a0_1, .bool a0_2], .agg 37 [.int .i64 a1_0, .int .i64 a1_1, .bool a1_2], .agg 40 [.int .i64 a2_0, .int .i64 a2_1, .bool a2_2], .int .i64 a3] = (p_spylaw3_CalibLights L a0_0 a0_1 a0_2 a1_0 a1_1 a1_2 a2_0 a2_1 a2_2 a3).map fun r => [.bool r] := specP_run (cCons k35 (cCons k37 (cCons k40 (cCons (cI .i64) cNil)))) (fun x => p_spylaw3_CalibLights L x.1.1 x.1.2.1 x.1.2.2.1 x.2.1.1 x.2.1.2.1 x.2.1.2.2.1 x.2.2.1.1 x.2.2.1.2.1 x.2.2.1.2.2.1 x.2.2.2.1) (fun r => [.bool r]) ((a0_0, a0_1, a0_2, ()), (a1_0, a1_1, a1_2, ()), (a2_0, a2_1, a2_2, ()), a3, ())
theorem ok_spylaw3_CalibLights (L : Nat) (hL : L ≤ 4611686018427387904) : SpecOk Try.prog 4 (s_spylaw3_CalibLights L) := specP_ok mixed (Go_spylaw3_CalibLights L hL) (To_spylaw3_CalibLights L) fun x r h => ⟨L, 1, e_spylaw3_CalibLights L hL x.1.1 x.1.2.1 x.1.2.2.1 x.2.1.1 x.2.1.2.1 x.2.1.2.2.1 x.2.2.1.1 x.2.2.1.2.1 x.2.2.1.2.2.1 x.2.2.2.1 r h⟩
end Go.Proofs.Ytnojehmbiceceaa.P
end
section
set_option linter.unusedVariables false
set_option linter.unusedSimpArgs false
namespace Go.Proofs.Ytnojehmbiceceaa.PlCalibLights
open Go Go.Ev Go.IntKind Go.Pl Go.Ari Go.Proofs.Ytnojehmbiceceaa.P Go.Proofs.Ytnojehmbiceceaa.PlBndAQuanta Go.Proofs.Ytnojehmbiceceaa.PlMeans Go.Proofs.Ytnojehmbiceceaa.Num3Num Go.Proofs.Ytnojehmbiceceaa.Num5Num
theorem iB_t {x : Int} (h : -9223372036854775808 ≤ x ∧ x < 9223372036854775808) : iB x = true := by unfold iB; rw [decide_eq_true h.1, decide_eq_true h.2]; rfl
theorem uB_t {x : Int} (h : 0 ≤ x ∧ x < 18446744073709551616) : uB x = true := by unfold uB; rw [decide_eq_true h.1, decide_eq_true h.2]; rfl
theorem u64 {x : Int} (h : 0 ≤ x ∧ x < 18446744073709551616) : IntKind.u64.wrap x = x := wu_in h.1 h.2
theorem light_norm (L : Nat) (a b : Int) (u : Bool) : p_bound_Norm_Light L a b u = some (norm a b u) := norm_eq L a b u
theorem part_norm (L : Nat) (a b : Int) (u : Bool) : p_bound_Norm_Part L a b u = some (norm a b u) := norm_eq L a b u
theorem light_of (L : Nat) (a b : Int) : p_bound_Of_Light L a b = some (norm a b false) := of_eq L a b
theorem light_vague (L : Nat) (a b : Int) (u : Bool) (c d : Int) (v : Bool) : p_bound_vague_Light L a b u c d v = some (bad (a, b, u, ()) || bad (c, d, v, ())) := vague_eq L a b u c d v
theorem light_none (L : Nat) : p_bound_None_Light L = some none_ := rfl
theorem light_bad (L : Nat) (a b : Int) (u : Bool) : p_spyref3_Bad_Light L a b u = some (bad (a, b, u, ())) := rbad_eq L a b u
theorem part_bad (L : Nat) (a b : Int) (u : Bool) : p_spyref3_Bad_Part L a b u = some (bad (a, b, u, ())) := rbad_eq L a b u
theorem bad_f {a b : Int} (h : -1152921504606846976 ≤ a ∧ a ≤ b ∧ b ≤ 1152921504606846976) : bad (a, b, false, ()) = false := by
  unfold bad; simp only [Bool.false_or, Bool.or_eq_false_iff, decide_eq_false_iff_not]; omega
theorem norm_bad {a b : Int} {u : Bool} (h : bad (a, b, u, ()) = true) : norm a b u = none_ := by
  have hv := norm_vague a b u
  rw [h] at hv
  unfold norm at hv ⊢
  split
  · rename_i hc
    rw [if_pos hc] at hv
    simp only at hv
    subst hv
    unfold chk at hc
    have : a = 0 ∧ b = 0 := by
      by_cases ha : a = 0
      · by_cases hb : b = 0
        · exact ⟨ha, hb⟩
        · rw [if_pos ⟨rfl, .inr hb⟩] at hc; cases hc
      · rw [if_pos ⟨rfl, .inl ha⟩] at hc; cases hc
    rw [this.1, this.2]; rfl
  · rfl
theorem bad_none : bad (0, 0, true, ()) = true := rfl
theorem norm_norm (a b : Int) (u : Bool) : norm (norm a b u).1 (norm a b u).2.1 (norm a b u).2.2 = norm a b u := by
  cases h : bad (a, b, u, ())
  · rw [norm_good h, norm_good h]
  · rw [norm_bad h]; rfl
theorem means_norm (L : Nat) (a b : Int) (u : Bool) : p_quanta_Means L (norm a b u).1 (norm a b u).2.1 (norm a b u).2.2 = p_quanta_Means L a b u := by
  unfold p_quanta_Means
  rw [norm_eq, norm_eq, norm_norm]
/-! ### numbers -/
theorem div_eq (L : Nat) (x y c : Int) (hx : -1152921504606846976 ≤ x ∧ x ≤ 1152921504606846976) (hy : 0 ≤ y ∧ y ≤ 16777216) (hc : 1 ≤ c ∧ c ≤ 68719476736) : p_num_MulDiv L x y c = some (quoR (x * y) c) := by
  unfold p_num_MulDiv
  rw [iB_t (by omega), iB_t (by omega), iB_t (by omega)]; rfl
theorem prod_bd {x y : Int} (hx : -1152921504606846976 ≤ x ∧ x ≤ 1152921504606846976) (hy : 0 ≤ y ∧ y ≤ 16777216) : -19342813113834066795298816 ≤ x * y ∧ x * y ≤ 19342813113834066795298816 := by
  rcases Int.lt_or_le x 0 with h | h
  · have := mul_bd (show 0 ≤ -x by omega) (show -x ≤ 1152921504606846976 by omega) hy.1 hy.2
    rw [Int.neg_mul] at this; omega
  · have := mul_bd h hx.2 hy.1 hy.2; omega
theorem quo1 (n : Int) : quoR n 1 = if -9223372036854775808 ≤ n ∧ n < 9223372036854775808 then (n, 0) else (0, 2) := by
  unfold quoR
  rw [if_neg (by decide), Int.ediv_one]
theorem wdiv_eq (L : Nat) (n c : Int) (hn : -19342813113834066795298816 ≤ n ∧ n ≤ 19342813113834066795298816) (hc : 1 ≤ c ∧ c ≤ 68719476736) : p_num_Wide_Div L (wideN n).1 (wideN n).2 c = some (quoR n c) := by
  unfold p_num_Wide_Div wideN
  simp only
  rw [w64 (x := n / 18446744073709551616) (by omega), iB_t (by omega), uB_t (by omega), iB_t (by omega), show n / 18446744073709551616 * 18446744073709551616 + n % 18446744073709551616 = n by omega]; rfl
theorem mod1 (L : Nat) (n : Int) (hn : -19342813113834066795298816 ≤ n ∧ n ≤ 19342813113834066795298816) : p_num_Wide_Mod L (wideN n).1 (wideN n).2 1 = some 0 := by
  unfold p_num_Wide_Mod p_num_Wide_Neg p_bits_Div64
  rw [if_neg (by decide), show IntKind.u64.wrap 1 = 1 from by decide]
  unfold wideN
  simp only [Int.tmod_one, Int.emod_one]
  have hx : uB (-(n / 18446744073709551616 * 18446744073709551616 + n % 18446744073709551616) % 18446744073709551616) = true := uB_t (by omega)
  rw [w64 (x := n / 18446744073709551616) (by omega), iB_t (x := n / 18446744073709551616) (by omega), uB_t (x := n % 18446744073709551616) (by omega), uB_t (x := 0) (by omega), uB_t (x := 1) (by omega)]
  simp only [Bool.and_self, cb_t, bnd_s, hx]
  split <;> rfl
theorem up1 (L : Nat) (x y : Int) (hx : -1152921504606846976 ≤ x ∧ x ≤ 1152921504606846976) (hy : 0 ≤ y ∧ y ≤ 16777216) (hf : -9223372036854775808 ≤ x * y ∧ x * y < 9223372036854775808) : p_num_MulDivUp L x y 1 = some (x * y, 0) := by
  have hp := prod_bd hx hy
  unfold p_num_MulDivUp p_num_Product
  rw [iB_t (by omega), iB_t (by omega), Bool.and_self, cb_t, bnd_s, wdiv_eq L _ 1 hp (by omega), bnd_s, quo1, if_pos hf, mod1 L _ hp]
  rfl
theorem modc (L : Nat) (n c : Int) (hn : 0 ≤ n ∧ n ≤ 19342813113834066795298816) (hc : 1 ≤ c ∧ c ≤ 68719476736) : p_num_Wide_Mod L (wideN n).1 (wideN n).2 c = some (n % c) := by
  unfold p_num_Wide_Mod p_bits_Div64
  rw [if_neg (by omega), u64 (x := c) (by omega)]
  unfold wideN
  simp only
  have e1 := Int.emod_nonneg (n / 18446744073709551616) (show c ≠ 0 by omega)
  have e2 := Int.emod_lt_of_pos (n / 18446744073709551616) (show 0 < c by omega)
  have e3 := Int.emod_nonneg n (show c ≠ 0 by omega)
  have e4 := Int.emod_lt_of_pos n (show 0 < c by omega)
  rw [w64 (x := n / 18446744073709551616) (by omega), if_neg (by omega), rq_t (by omega), u64 (x := n / 18446744073709551616) (by omega), Int.tmod_eq_emod_of_nonneg (by omega), uB_t (x := n / 18446744073709551616 % c) (by omega), uB_t (x := n % 18446744073709551616) (by omega), uB_t (x := c) (by omega), decide_eq_true e2]
  have e5 : (n / 18446744073709551616 % c * 18446744073709551616 + n % 18446744073709551616) % c = n % c := by
    have h1 := Int.mul_ediv_add_emod (n / 18446744073709551616) c
    have h2 := Int.mul_ediv_add_emod n 18446744073709551616
    have h3 : n = (n / 18446744073709551616 % c * 18446744073709551616 + n % 18446744073709551616) + c * (n / 18446744073709551616 / c * 18446744073709551616) := by
      rw [← Int.mul_assoc]; omega
    conv => rhs; rw [h3]
    rw [Int.add_mul_emod_self_left]
  simp only [Bool.and_self, cb_t, bnd_s, e5]
  rw [w64 (by omega)]
theorem quo_bd {n c : Int} (hn : 0 ≤ n ∧ n ≤ 4722366482869645213696) (hc : 16777216 ≤ c) : 0 ≤ n / c ∧ n / c < 562949953421312 :=
  ⟨Int.ediv_nonneg hn.1 (by omega), Int.ediv_lt_of_lt_mul (by omega) (by omega)⟩
theorem quo_c {n c : Int} (hn : 0 ≤ n ∧ n ≤ 4722366482869645213696) (hc : 16777216 ≤ c) : quoR n c = (n / c, 0) := by
  have := quo_bd hn hc
  unfold quoR
  rw [if_neg (by omega), if_pos (by omega)]
theorem upc (L : Nat) (x c : Int) (hx : 0 ≤ x ∧ x ≤ 1152921504606846976) (hc : 16777216 ≤ c ∧ c ≤ 68719476736) : p_num_MulDivUp L x 4096 c = some (cdiv (x * 4096) c, 0) := by
  have hq := quo_bd (n := x * 4096) (c := c) (by omega) (by omega)
  unfold p_num_MulDivUp p_num_Product
  rw [iB_t (by omega), iB_t (by omega), Bool.and_self, cb_t, bnd_s, wdiv_eq L _ c (by omega) (by omega), bnd_s, quo_c (by omega) (by omega)]
  simp only
  rw [cb_d, if_pos trivial, modc L _ c (by omega) (by omega), bnd_s, cb_d, cb_d, cdiv_eq (by omega), if_neg (show ¬ x * 4096 / c = 9223372036854775807 by omega), w64 (by omega)]
  split <;> rfl
/-! ### the corners -/
theorem min_l0 (L : Nat) (l : List Int) (hl : l.length < 4611686018427387904) : ∀ (r p : List Int) (k : Nat) (m : Int), l = p ++ r → r.length + 1 ≤ k → p_slices_Min_Light_l0 L l k m (p.length : Int) = some (r.foldl min m)
  | [], p, k, m, e, h => by
    obtain ⟨k, rfl⟩ : ∃ j, k = j + 1 := ⟨k - 1, by omega⟩
    subst e
    rw [p_slices_Min_Light_l0, if_neg (by simp)]; rfl
  | x :: r, p, k, m, e, h => by
    obtain ⟨k, rfl⟩ : ∃ j, k = j + 1 := ⟨k - 1, by omega⟩
    rw [List.length_cons] at h
    have ih := min_l0 L l hl r (p ++ [x]) k (min m x) (by rw [e]; simp) (by omega)
    have hn : l.length = p.length + (r.length + 1) := by rw [e]; simp
    rw [p_slices_Min_Light_l0, if_pos (by omega), show idx l (p.length : Int) = some x by rw [e]; exact idx_app p x r, bnd_s, w64 (by omega), min_v, List.foldl_cons, ← ih]
    congr 1
    simp
theorem max_l0 (L : Nat) (l : List Int) (hl : l.length < 4611686018427387904) : ∀ (r p : List Int) (k : Nat) (m : Int), l = p ++ r → r.length + 1 ≤ k → p_slices_Max_Light_l0 L l k m (p.length : Int) = some (r.foldl max m)
  | [], p, k, m, e, h => by
    obtain ⟨k, rfl⟩ : ∃ j, k = j + 1 := ⟨k - 1, by omega⟩
    subst e
    rw [p_slices_Max_Light_l0, if_neg (by simp)]; rfl
  | x :: r, p, k, m, e, h => by
    obtain ⟨k, rfl⟩ : ∃ j, k = j + 1 := ⟨k - 1, by omega⟩
    rw [List.length_cons] at h
    have ih := max_l0 L l hl r (p ++ [x]) k (max m x) (by rw [e]; simp) (by omega)
    have hn : l.length = p.length + (r.length + 1) := by rw [e]; simp
    rw [p_slices_Max_Light_l0, if_pos (by omega), show idx l (p.length : Int) = some x by rw [e]; exact idx_app p x r, bnd_s, w64 (by omega), max_v, List.foldl_cons, ← ih]
    congr 1
    simp
theorem min_of (L : Nat) (hL : 100 < L) (v w : Int) (h : v ≤ w) : p_slices_Min_Light L [v, v, v, v, w, w, w, w] = some v := by
  unfold p_slices_Min_Light
  have e : p_slices_Min_Light_l0 L [v, v, v, v, w, w, w, w] L v 1 = some (([v, v, v, w, w, w, w] : List Int).foldl min v) := min_l0 L [v, v, v, v, w, w, w, w] (by simp) [v, v, v, w, w, w, w] [v] L v rfl (by simp; omega)
  rw [if_neg (by simp), idx_z, bnd_s, e, bnd_s]
  simp only [List.foldl]
  congr 1; omega
theorem max_of (L : Nat) (hL : 100 < L) (v w : Int) (h : v ≤ w) : p_slices_Max_Light L [v, v, v, v, w, w, w, w] = some w := by
  unfold p_slices_Max_Light
  have e : p_slices_Max_Light_l0 L [v, v, v, v, w, w, w, w] L v 1 = some (([v, v, v, w, w, w, w] : List Int).foldl max v) := max_l0 L [v, v, v, v, w, w, w, w] (by simp) [v, v, v, w, w, w, w] [v] L v rfl (by simp; omega)
  rw [if_neg (by simp), idx_z, bnd_s, e, bnd_s]
  simp only [List.foldl]
  congr 1; omega
theorem l1_good (L : Nat) (x n : Int) (hx : -1152921504606846976 ≤ x ∧ x ≤ 1152921504606846976) (hy : 0 ≤ n ∧ n ≤ 16777216) (hf : -9223372036854775808 ≤ x * n ∧ x * n < 9223372036854775808) (s : List Int) (hs : s.length < 1000) :
    p_bound_Mul_Light_l1 L x 1 [n, n] 2 0 s = some (.inl (s ++ [x * n, x * n, x * n, x * n])) := by
  have m1 : p_bound_Mul_Light_1 L x n 1 = some (x * n, 0) := by unfold p_bound_Mul_Light_1; rw [div_eq L x n 1 hx hy (by omega), quo1, if_pos hf]; rfl
  have m2 : p_bound_Mul_Light_2 L x n 1 = some (x * n, 0) := by unfold p_bound_Mul_Light_2; rw [up1 L x n hx hy hf]; rfl
  have step : ∀ k i (s : List Int), idx [n, n] i = some n → s.length < 2000 → p_bound_Mul_Light_l1 L x 1 [n, n] (k + 1) i s = p_bound_Mul_Light_l1 L x 1 [n, n] k (i + 1) (s ++ [x * n, x * n]) := by
    intro k i s hi hs
    rw [p_bound_Mul_Light_l1, hi, bnd_s, m1, bnd_s, m2, bnd_s, cb_d, if_pos rfl, cb_d, if_pos rfl, rq_t (by rw [maxRow_v]; omega), rq_t (by rw [maxRow_v]; omega)]
  rw [step 1 0 s rfl (by omega), step 0 (0 + 1) _ rfl (by simp; omega), p_bound_Mul_Light_l1]
  simp
theorem l1_bad (L : Nat) (x n : Int) (hx : -1152921504606846976 ≤ x ∧ x ≤ 1152921504606846976) (hy : 0 ≤ n ∧ n ≤ 16777216) (hf : ¬ (-9223372036854775808 ≤ x * n ∧ x * n < 9223372036854775808)) (s : List Int) :
    p_bound_Mul_Light_l1 L x 1 [n, n] 2 0 s = some (.inr none_) := by
  have m1 : p_bound_Mul_Light_1 L x n 1 = some (0, 2) := by unfold p_bound_Mul_Light_1; rw [div_eq L x n 1 hx hy (by omega), quo1, if_neg hf]; rfl
  obtain ⟨r, m2⟩ : ∃ r, p_bound_Mul_Light_2 L x n 1 = some r := by
    have hp := prod_bd hx hy
    unfold p_bound_Mul_Light_2 p_num_MulDivUp p_num_Product
    rw [iB_t (by omega), iB_t (by omega), Bool.and_self, cb_t, bnd_s, wdiv_eq L _ 1 hp (by omega), bnd_s, quo1, if_neg hf]
    exact ⟨_, rfl⟩
  rw [show (2 : Nat) = 1 + 1 from rfl, p_bound_Mul_Light_l1, idx_z, bnd_s, m1, bnd_s, m2, bnd_s, cb_d, if_neg (by decide)]
  rfl
/-- A bound times a number that is not negative. -/
def scl (a b : Int) (u : Bool) (n : Int) : Int × Int × Bool := if bad (a, b, u, ()) = true ∨ a * n < -1152921504606846976 ∨ b * n > 1152921504606846976 then none_ else (a * n, b * n, false)
theorem mul_eq (L : Nat) (hL : 100 < L) (a b : Int) (u : Bool) (n : Int) (hb : bad (a, b, u, ()) = false) (hn : 0 ≤ n ∧ n ≤ 16777216) : p_bound_Mul_Light L a b u n n false 1 = some (scl a b u n) := by
  have hq := bad_0 hb
  have hab : a * n ≤ b * n := Int.mul_le_mul_of_nonneg_right hq.2.2.1 hn.1
  have l0 : ∀ k i x s, idx [a, b] i = some x → p_bound_Mul_Light_l0 L n n 1 [a, b] (k + 1) i s = bnd (p_bound_Mul_Light_l1 L x 1 ([n, n]) 2 0 s) fun o90 => match o90 with | (.inl o90_0) => (p_bound_Mul_Light_l0 L n n 1 [a, b] k (i + 1) o90_0) | (.inr o90_1) => (some (.inr (o90_1.1, o90_1.2.1, o90_1.2.2))) := by
    intro k i x s hi
    rw [p_bound_Mul_Light_l0, hi, bnd_s, rq_t (by omega)]
    rfl
  unfold p_bound_Mul_Light
  rw [light_vague, bnd_s, hb, bad_f (by omega), Bool.or_self, cb_f, if_neg (by decide), rq_t (by omega), l0 1 0 a [] rfl]
  unfold scl
  rw [hb]
  by_cases fa : -9223372036854775808 ≤ a * n ∧ a * n < 9223372036854775808
  · rw [l1_good L a n (by omega) hn fa [] (by decide), bnd_s]
    simp only
    rw [l0 0 (0 + 1) b _ rfl]
    by_cases fb : -9223372036854775808 ≤ b * n ∧ b * n < 9223372036854775808
    · rw [l1_good L b n (by omega) hn fb _ (by simp), bnd_s]
      simp only [p_bound_Mul_Light_l0, bnd_s, List.nil_append, List.cons_append]
      rw [min_of L hL _ _ hab, bnd_s, max_of L hL _ _ hab, bnd_s, light_of, bnd_s]
      by_cases c : a * n < -1152921504606846976 ∨ b * n > 1152921504606846976
      · rw [if_pos (.inr c), norm_bad]
        unfold bad; simp only [Bool.false_or, Bool.or_eq_true, decide_eq_true_eq]; omega
      · rw [if_neg (by simp only [Bool.false_eq_true, false_or]; exact c), norm_good (bad_f (by omega))]
    · rw [l1_bad L b n (by omega) hn fb, bnd_s]
      simp only [bnd_s]
      rw [if_pos (.inr (by omega))]
  · rw [l1_bad L a n (by omega) hn fa, bnd_s]
    simp only [bnd_s]
    rw [if_pos (.inr (by omega))]
theorem scale_eq (L : Nat) (hL : 100 < L) (a b : Int) (u : Bool) (n : Int) (hn : 0 ≤ n ∧ n ≤ 16777216) : p_bound_Scale_Light L a b u n 1 = some (scl a b u n) := by
  unfold p_bound_Scale_Light p_bound_Exact_Light
  rw [light_of, bnd_s, bnd_s, norm_good (bad_f (by omega))]
  simp only
  cases hb : bad (a, b, u, ())
  · rw [mul_eq L hL a b u n hb hn, bnd_s]
  · unfold p_bound_Mul_Light scl
    rw [light_vague, bnd_s, hb, Bool.true_or, cb_t, if_pos (.inl rfl)]; rfl
theorem scl_norm (a b : Int) (u : Bool) (n : Int) : scl (norm a b u).1 (norm a b u).2.1 (norm a b u).2.2 n = scl a b u n := by
  cases hb : bad (a, b, u, ())
  · rw [norm_good hb]
  · rw [norm_bad hb]
    unfold scl
    rw [if_pos (.inl rfl), if_pos (.inl hb)]
theorem scl_ok (a b : Int) (u : Bool) (n : Int) (hn : 0 ≤ n) : scl a b u n = none_ ∨ ((scl a b u n).2.2 = false ∧ -1152921504606846976 ≤ (scl a b u n).1 ∧ (scl a b u n).1 ≤ (scl a b u n).2.1 ∧ (scl a b u n).2.1 ≤ 1152921504606846976) := by
  unfold scl
  split
  · exact .inl rfl
  · rename_i h
    have hq := bad_0 (a := a) (b := b) (u := u) (by cases q : bad (a, b, u, ()) with | false => rfl | true => exact absurd (.inl q) h)
    have hab : a * n ≤ b * n := Int.mul_le_mul_of_nonneg_right hq.2.2.1 hn
    exact .inr ⟨rfl, by simp only; omega, hab, by simp only; omega⟩
/-- What is left when one is taken from the other. -/
def lft (x y : Int × Int × Bool) : Int × Int × Bool := if x.2.2 = true ∨ y.2.2 = true then none_ else norm (x.1 - y.2.1) (x.2.1 - y.1) false
def Ok (x : Int × Int × Bool) : Prop := x = none_ ∨ (x.2.2 = false ∧ -1152921504606846976 ≤ x.1 ∧ x.1 ≤ x.2.1 ∧ x.2.1 ≤ 1152921504606846976)
theorem lft_eq (L : Nat) (x y : Int × Int × Bool) (hx : Ok x) (hy : Ok y) : p_bound_Sub_Light L x.1 x.2.1 x.2.2 y.1 y.2.1 y.2.2 = some (lft x y) := by
  unfold p_bound_Sub_Light p_bound_Neg_Light p_bound_Add_Light lft
  rw [light_norm, bnd_s]
  simp only [light_vague, bnd_s, light_none, light_of]
  rcases hy with rfl | ⟨y1, y2, y3, y4⟩
  · rw [show norm none_.1 none_.2.1 none_.2.2 = none_ from rfl, show bad (i64.wrap (0 - none_.2.1), i64.wrap (0 - none_.1), none_.2.2, ()) = true from rfl, Bool.or_true, cb_t, bnd_s, if_pos (.inr rfl)]
  · obtain ⟨c, d, v⟩ := y
    simp only at y1 y2 y3 y4 ⊢
    subst y1
    rw [norm_good (bad_f (by omega))]
    simp only
    rw [w64 (x := 0 - d) (by omega), w64 (x := 0 - c) (by omega)]
    rcases hx with rfl | ⟨x1, x2, x3, x4⟩
    · rw [show bad (none_.1, none_.2.1, none_.2.2, ()) = true from rfl, Bool.true_or, cb_t, bnd_s, if_pos (.inl rfl)]
    · obtain ⟨a, b, u⟩ := x
      simp only at x1 x2 x3 x4 ⊢
      subst x1
      rw [bad_f (by omega), bad_f (by omega), Bool.or_self, cb_f, bnd_s, w64 (x := a + (0 - d)) (by omega), w64 (x := b + (0 - c)) (by omega), if_neg (by simp), show a + (0 - d) = a - d by omega, show b + (0 - c) = b - c by omega]
/-! ### the document's -/
theorem within_eq (L : Nat) (a n : Int) (hn : 0 ≤ n ∧ n ≤ 16) (ha : -1152921504606846976 ≤ a ∧ a ≤ 1152921504606846976) : p_spyref3_within L a n = some (if -1152921504606846976 ≤ a * n ∧ a * n ≤ 1152921504606846976 then (a * n, true) else (0, false)) := by
  unfold p_spyref3_within
  rw [cb_d]
  by_cases c : n = 0
  · subst c
    rw [if_pos rfl, Int.mul_zero, if_pos (by omega)]
  have hp : 0 < n := by omega
  have hd0 : 0 ≤ (1152921504606846976 : Int) / n := Int.ediv_nonneg (by decide) hn.1
  have hd1 : (1152921504606846976 : Int) / n ≤ 1152921504606846976 := Int.ediv_le_self _ (by decide)
  rw [if_neg c, rq_t c, Int.neg_tdiv, Int.tdiv_eq_ediv_of_nonneg (by decide), w64 (by omega), w64 (by omega)]
  have k1 : 1152921504606846976 / n < a ↔ 1152921504606846976 < a * n := Int.ediv_lt_iff_lt_mul hp
  have k2 : 1152921504606846976 / n < -a ↔ 1152921504606846976 < -a * n := Int.ediv_lt_iff_lt_mul hp
  rw [Int.neg_mul] at k2
  by_cases c1 : a > 1152921504606846976 / n
  · rw [if_pos c1, if_neg (by omega)]
  · rw [if_neg c1]
    by_cases c2 : a < -(1152921504606846976 / n)
    · rw [if_pos c2, if_neg (by omega)]
    · rw [if_neg c2, if_pos (by omega), w64 (by omega)]
theorem shl24 (x : Int) : shlI .i64 x 24 = i64.wrap (x * 16777216) := rfl
def Mn (r : Int × Int × Bool) : Prop := r = none_ ∨ (r.2.2 = false ∧ 0 ≤ r.1 ∧ r.1 ≤ 34359738368 ∧ 1 ≤ r.2.1 ∧ r.2.1 ≤ 34360738369)
def rst (q : Int × Int × Bool) : Int × Int × Bool := if q.2.2 = true ∨ q.2.1 < 0 then (0, 0, false) else (max 0 q.1, q.2.1, true)
theorem rest_eq (L : Nat) (r : Int × Int × Bool) (hr : Mn r) (d0 d1 : Int) (du : Bool) (n : Int) (hn : 0 ≤ n ∧ n ≤ 16) : p_spyref3_rest L r.1 r.2.1 r.2.2 d0 d1 du n = some (rst (lft (scl r.1 r.2.1 r.2.2 16777216) (scl d0 d1 du n))) := by
  unfold p_spyref3_rest
  rw [rbad_eq, bnd_s]
  cases hb : bad (r.1, r.2.1, r.2.2, ())
  · rcases hr with rfl | ⟨r1, r2, r3, r4, r5⟩
    · cases hb
    obtain ⟨a, b, u⟩ := r
    simp only at r1 r2 r3 r4 r5 hb ⊢
    subst r1
    have hq := bad_0 hb
    rw [cb_f, light_bad, bnd_s]
    have s1 : scl a b false 16777216 = (a * 16777216, b * 16777216, false) := by unfold scl; rw [if_neg]; simp only [hb, Bool.false_eq_true, false_or]; omega
    rw [s1]
    cases hd : bad (d0, d1, du, ())
    · have hv := bad_0 hd
      have hab : d0 * n ≤ d1 * n := Int.mul_le_mul_of_nonneg_right hv.2.2.1 hn.1
      have w0 := within_eq L d0 n hn (by omega)
      have w1 := within_eq L d1 n hn (by omega)
      rw [cb_f]
      by_cases c : d0 * n < -1152921504606846976 ∨ d1 * n > 1152921504606846976
      · have s2 : scl d0 d1 du n = none_ := by unfold scl; rw [if_pos (.inr c)]
        rw [s2]
        have e : lft (a * 16777216, b * 16777216, false) none_ = none_ := by unfold lft; rw [if_pos (.inr rfl)]
        rw [e]
        by_cases c1 : -1152921504606846976 ≤ d0 * n ∧ d0 * n ≤ 1152921504606846976
        · rw [if_pos c1] at w0
          rw [if_neg (by omega)] at w1
          rw [w0, bnd_s, w1]; rfl
        · rw [if_neg c1] at w0
          rw [w0, bnd_s, w1]; rfl
      · have s2 : scl d0 d1 du n = (d0 * n, d1 * n, false) := by unfold scl; rw [if_neg]; simp only [hd, Bool.false_eq_true, false_or]; exact c
        rw [if_pos (by omega)] at w0 w1
        rw [s2, w0, bnd_s, w1, bnd_s]
        simp only [cb_t]
        have e : lft (a * 16777216, b * 16777216, false) (d0 * n, d1 * n, false) = norm (a * 16777216 - d1 * n) (b * 16777216 - d0 * n) false := by unfold lft; rw [if_neg (by simp)]
        rw [e]
        rw [shl24, shl24, w64 (x := b * 16777216) (by omega), w64 (x := a * 16777216) (by omega), w64 (x := b * 16777216 - d0 * n) (by omega), w64 (x := a * 16777216 - d1 * n) (by omega), max_v]
        by_cases c1 : b * 16777216 - d0 * n < 0
        · rw [if_pos c1]
          unfold rst
          rw [if_pos]
          cases hg : bad (a * 16777216 - d1 * n, b * 16777216 - d0 * n, false, ())
          · rw [norm_good hg]; exact .inr c1
          · rw [norm_bad hg]; exact .inl rfl
        · rw [if_neg c1]
          by_cases c2 : a * 16777216 - d1 * n < -1152921504606846976
          · rw [if_pos c2, norm_bad]
            · rfl
            · unfold bad; simp only [Bool.false_or, Bool.or_eq_true, decide_eq_true_eq]; omega
          · rw [if_neg c2]
            by_cases c3 : b * 16777216 - d0 * n > 1152921504606846976
            · rw [if_pos c3, norm_bad]
              · rfl
              · unfold bad; simp only [Bool.false_or, Bool.or_eq_true, decide_eq_true_eq]; omega
            · rw [if_neg c3, norm_good (bad_f (by omega))]
              unfold rst
              rw [if_neg (by simp only [Bool.false_eq_true, false_or]; exact c1)]
    · have s2 : scl d0 d1 du n = none_ := by unfold scl; rw [if_pos (.inl hd)]
      rw [s2, cb_t]; rfl
  · have s1 : scl r.1 r.2.1 r.2.2 16777216 = none_ := by unfold scl; rw [if_pos (.inl hb)]
    rw [cb_t, s1]
    have e : lft none_ (scl d0 d1 du n) = none_ := by unfold lft; rw [if_pos (.inl rfl)]
    rw [e]; rfl
/-! ### the answer -/
def ans (r : Int × Int × Bool) (d0 d1 : Int) (du : Bool) (f0 f1 : Int) (fu : Bool) (n : Int) : Int × Int × Bool :=
  if n < 0 ∨ n > 16 ∨ bad (f0, f1, fu, ()) = true ∨ f0 < 1 ∨ f1 > 4096 then none_ else
    let q := lft (scl r.1 r.2.1 r.2.2 16777216) (scl d0 d1 du n)
    if q.2.2 = true ∨ q.2.1 < 0 then none_ else norm (max 0 q.1 * 4096 / (f1 * 16777216)) (cdiv (q.2.1 * 4096) (f0 * 16777216)) false
theorem ans_none (d0 d1 : Int) (du : Bool) (f0 f1 : Int) (fu : Bool) (n : Int) : ans none_ d0 d1 du f0 f1 fu n = none_ := by
  unfold ans
  split
  · rfl
  · have e : lft (scl none_.1 none_.2.1 none_.2.2 16777216) (scl d0 d1 du n) = none_ := by unfold lft; rw [if_pos (.inl rfl)]
    rw [e]; rfl
theorem means_some (L : Nat) (hL : 300000 < L) (lo hi : Int) (u : Bool) : ∃ r, p_quanta_Means L lo hi u = some r ∧ p_spyref3_Meant L lo hi u = some r ∧ Mn r ∧ (bad (lo, hi, u, ()) = true → r = none_) := by
  by_cases h : bad (lo, hi, u, ()) = true ∨ hi < 0 ∨ hi > 34359738368
  · obtain ⟨e1, e2⟩ := means_out L lo hi u h
    exact ⟨none_, e1, e2, .inl rfl, fun _ => rfl⟩
  · have hb : bad (lo, hi, u, ()) = false := by cases q : bad (lo, hi, u, ()) with | false => rfl | true => exact absurd (.inl q) h
    have hm := mo_bd hi (by omega) (by omega)
    obtain ⟨l, e1, e2, e3, e4⟩ := means_in L hL lo hi u hb (by omega) (by omega)
    exact ⟨_, e1, e2, .inr ⟨rfl, e3.1, e4, by simp only; omega, by simp only; omega⟩, fun q => by rw [hb] at q; cases q⟩
theorem lft_ok (x y : Int × Int × Bool) (h : ¬ ((lft x y).2.2 = true ∨ (lft x y).2.1 < 0)) : -1152921504606846976 ≤ (lft x y).1 ∧ (lft x y).1 ≤ (lft x y).2.1 ∧ (lft x y).2.1 ≤ 1152921504606846976 := by
  unfold lft at h ⊢
  split
  · rename_i c
    rw [if_pos c] at h; exact absurd (.inl rfl) h
  · rename_i c
    rw [if_neg c] at h
    cases hg : bad (x.1 - y.2.1, x.2.1 - y.1, false, ())
    · rw [norm_good hg]
      have := bad_0 hg
      exact ⟨this.2.1, this.2.2.1, this.2.2.2⟩
    · rw [norm_bad hg] at h; exact absurd (.inl rfl) h
theorem light_eq (L : Nat) (hL : 300000 < L) (h0 h1 : Int) (hu : Bool) (d0 d1 : Int) (du : Bool) (f0 f1 : Int) (fu : Bool) (n : Int) (r : Int × Int × Bool) (hr : p_quanta_Means L h0 h1 hu = some r) (hm : Mn r) :
    p_calib_Light L h0 h1 hu d0 d1 du f0 f1 fu n = some (ans r d0 d1 du f0 f1 fu n) := by
  unfold p_calib_Light p_bound_As_Light_Quanta
  rw [norm_eq, bnd_s, means_norm, hr, bnd_s, norm_eq, bnd_s, bnd_s, scale_eq L (by omega) _ _ _ _ (by omega), bnd_s, scl_norm, part_norm, bnd_s, norm_vague]
  simp only [none_eq, bnd_s]
  unfold ans
  by_cases c1 : n < 0
  · rw [if_pos c1, if_pos (.inl c1)]
  rw [if_neg c1]
  by_cases c2 : n > 16
  · rw [if_pos c2, if_pos (.inr (.inl c2))]
  rw [if_neg c2]
  cases hb : bad (f0, f1, fu, ())
  case true => rw [cb_t, if_pos (.inr (.inr (.inl rfl)))]
  have hf := bad_0 hb
  rw [cb_f, norm_good hb]
  simp only
  by_cases c3 : f0 < 1
  · rw [if_pos c3, if_pos (.inr (.inr (.inr (.inl c3))))]
  rw [if_neg c3]
  by_cases c4 : f1 > 4096
  · rw [if_pos c4, if_pos (.inr (.inr (.inr (.inr c4))))]
  rw [if_neg c4, if_neg (by simp only [Bool.false_eq_true, false_or]; omega), scale_eq L (by omega) d0 d1 du n (by omega), bnd_s, lft_eq L _ _ (scl_ok _ _ _ _ (by omega)) (scl_ok _ _ _ _ (by omega)), bnd_s]
  have hk := lft_ok (scl r.1 r.2.1 r.2.2 16777216) (scl d0 d1 du n)
  generalize lft (scl r.1 r.2.1 r.2.2 16777216) (scl d0 d1 du n) = q at hk ⊢
  obtain ⟨a, b, u⟩ := q
  simp only at hk ⊢
  cases u
  case true => rw [cb_t, if_pos (.inl rfl)]
  rw [cb_f]
  by_cases c5 : b < 0
  · rw [if_pos c5, if_pos (.inr c5)]
  have hk := hk (by simp only [Bool.false_eq_true, false_or]; exact c5)
  rw [if_neg c5, if_neg (by simp only [Bool.false_eq_true, false_or]; exact c5), w64 (x := f1 * 16777216) (by omega), w64 (x := f0 * 16777216) (by omega), max_v, div_eq L (max 0 a) 4096 _ (by omega) (by omega) (by omega), quo_c (by omega) (by omega), bnd_s, upc L b _ (by omega) (by omega), bnd_s, of_eq, bnd_s]
theorem fit_t {a c : Int} (ha : 0 ≤ a ∧ a ≤ 1152921504606846976) (hc : 16777216 ≤ c ∧ c ≤ 68719476736) : fitB a 4096 c = true := by
  have := quo_bd (n := a * 4096) (c := c) (by omega) (by omega)
  unfold fitB
  simp only [Bool.and_eq_true, decide_eq_true_eq]
  omega
theorem cell_eq (L : Nat) (hL : 300000 < L) (h0 h1 : Int) (hu : Bool) (d0 d1 : Int) (du : Bool) (f0 f1 : Int) (fu : Bool) (n : Int) (r : Int × Int × Bool) (hr : p_spyref3_Meant L h0 h1 hu = some r) (hm : Mn r) (hn : bad (h0, h1, hu, ()) = true → r = none_) :
    p_spyref3_CellLight L h0 h1 hu d0 d1 du f0 f1 fu n = some (ans r d0 d1 du f0 f1 fu n) := by
  unfold p_spyref3_CellLight
  rw [rbad_eq, bnd_s, part_bad, bnd_s]
  cases hh : bad (h0, h1, hu, ())
  case true => rw [cb_t, hn hh, ans_none]; rfl
  rw [cb_f]
  unfold ans
  cases hb : bad (f0, f1, fu, ())
  case true => rw [cb_t, if_pos (.inr (.inr (.inl rfl)))]; rfl
  have hf := bad_0 hb
  rw [cb_f]
  by_cases c3 : f0 < 1
  · rw [if_pos c3, if_pos (.inr (.inr (.inr (.inl c3))))]; rfl
  rw [if_neg c3]
  by_cases c4 : f1 > 4096
  · rw [if_pos c4, if_pos (.inr (.inr (.inr (.inr c4))))]; rfl
  rw [if_neg c4]
  by_cases c1 : n < 0
  · rw [if_pos c1, if_pos (.inl c1)]; rfl
  rw [if_neg c1]
  by_cases c2 : n > 16
  · rw [if_pos c2, if_pos (.inr (.inl c2))]; rfl
  rw [if_neg c2, if_neg (by simp only [Bool.false_eq_true, false_or]; omega), hr, bnd_s, rest_eq L r hm d0 d1 du n (by omega), bnd_s]
  have hk := lft_ok (scl r.1 r.2.1 r.2.2 16777216) (scl d0 d1 du n)
  generalize lft (scl r.1 r.2.1 r.2.2 16777216) (scl d0 d1 du n) = q at hk ⊢
  obtain ⟨a, b, u⟩ := q
  simp only at hk ⊢
  unfold rst
  simp only
  by_cases c5 : u = true ∨ b < 0
  · rw [if_pos c5, if_pos c5]; rfl
  have hk := hk c5
  have hb0 : ¬ b < 0 := fun z => c5 (.inr z)
  rw [if_neg c5, if_neg c5]
  simp only [cb_t]
  unfold p_spyref3_Down p_spyref3_Up p_spyref3_Span_Quanta
  rw [shl24, shl24, w64 (x := f1 * 16777216) (by omega), w64 (x := f0 * 16777216) (by omega), fit_t (by omega) (by omega), fit_t (by omega) (by omega)]
  simp only [cb_t, bnd_s, rbad_eq]
  cases hg : bad (max 0 a * 4096 / (f1 * 16777216), cdiv (b * 4096) (f0 * 16777216), false, ())
  · rw [norm_good hg]; rfl
  · rw [norm_bad hg]; rfl
theorem least100 : IsLeast 100 75 := by
  have e : isqrt 75 = 8 := isqrt_eq ⟨by decide, by decide, by decide⟩
  refine ⟨by decide, fun w h0 h1 => ?_, by rw [e]; decide⟩
  have := rt_mono (rt h0) (rt (n := 75) (by decide)) (by omega)
  rw [e] at this
  omega
theorem mo100 : mo 100 = 133 := by
  have e : isqrt (9 + 4 * 100) = 20 := isqrt_eq ⟨by decide, by decide, by decide⟩
  unfold mo rr
  rw [e]; decide
theorem guard (L : Nat) (hL : 300000 < L) : p_spylaw3_calibs L = some true := by
  obtain ⟨l, e1, e2, e3, e4⟩ := means_in L hL 100 100 false rfl (by decide) (by decide)
  have := least_uniq e3 least100
  subst this
  rw [mo100] at e1
  unfold p_spylaw3_calibs
  rw [light_eq L hL 100 100 false 0 0 false 4096 4096 false 1 _ e1 (.inr ⟨rfl, by decide, by decide, by decide, by decide⟩), bnd_s]
  decide
theorem top (a0_0 : Int) (a0_1 : Int) (a0_2 : Bool) (a1_0 : Int) (a1_1 : Int) (a1_2 : Bool) (a2_0 : Int) (a2_1 : Int) (a2_2 : Bool) (a3 : Int) (h0 : ((Lit.int .i64 a0_0).wf = true) ∧ ((Lit.int .i64 a0_1).wf = true) ∧ (True) ∧ True) (h1 : ((Lit.int .i64 a1_0).wf = true) ∧ ((Lit.int .i64 a1_1).wf = true) ∧ (True) ∧ True) (h2 : ((Lit.int .i64 a2_0).wf = true) ∧ ((Lit.int .i64 a2_1).wf = true) ∧ (True) ∧ True) (h3 : (Lit.int .i64 a3).wf = true) : ∃ L, L ≤ 4611686018427387904 ∧ p_spylaw3_CalibLights L a0_0 a0_1 a0_2 a1_0 a1_1 a1_2 a2_0 a2_1 a2_2 a3 = some true := by
  obtain ⟨L, hL⟩ : ∃ L, L = 4611686018427387904 := ⟨_, rfl⟩
  refine ⟨L, by omega, ?_⟩
  obtain ⟨r, e1, e2, e3, e4⟩ := means_some L (by omega) a0_0 a0_1 a0_2
  unfold p_spylaw3_CalibLights
  rw [guard L (by omega), bnd_s, cb_t, light_eq L (by omega) _ _ _ _ _ _ _ _ _ _ r e1 e3, bnd_s, cell_eq L (by omega) _ _ _ _ _ _ _ _ _ _ r e2 e3 e4, bnd_s]
  simp
end Go.Proofs.Ytnojehmbiceceaa.PlCalibLights
end
section
set_option linter.unusedVariables false
set_option linter.unusedSimpArgs false
namespace Go.Proofs.Ytnojehmbiceceaa.calibLights
open Go.ChangeShapes Go.WideShapes Go.ChangeAt Go.RowKit
open Go.ChangeMaps (open_string shut_string)
open Go.Ev (Opens OpensF arg_agg arg_one weight_at law_calls call_of_ev ArgsOk D Fl)
theorem own : ownKnob Try.prog.godebug = none := by kernel_rfl
theorem laidOut : laidOutB Try.prog = true := by kernel_rfl
set_option maxRecDepth 100000 in
set_option maxHeartbeats 4000000 in
theorem lifted (os : Os) (started : os.Started) (H : Type) (enc : TypeId × Value → H) :
    ReturnsInHanded {} Try.checked os 4 .any (Rows.calibLightsSpec.pre6 enc Try.prog Try.f4 Rows.calibLightsRow.domain false) (Rows.calibLightsSpec.post enc Try.prog Try.f4 false true false false) := by
  refine returnsInHanded_of_change_sized (C := Try.checked) own started (by kernel_rfl) Try.func4
    (ChangeSpec.witness6 (enc := enc) (C := Try.checked) false ⟨#[], #[.agg #[.int .i64 0, .int .i64 0, .bool false], .agg #[.int .i64 0, .int .i64 0, .bool false], .agg #[.int .i64 0, .int .i64 0, .bool false], .int .i64 0], []⟩ 8 (by kernel_rfl) (by kernel_rfl) (by kernel_rfl) (by kernel_rfl)) ?_
  intro W base args ds gs before hval0 hW hcnd hsz0 _
  have hsz : (DataW.weightsEach Try.prog (Try.f4.params.toList ++ Rows.calibLightsSpec.plain.varTypes Try.prog) (ds ++ gs)).all (· ≤ reachBytes) = true := hsz0
  have hval : ∀ (j : Nat) t v, Try.f4.params[j]? = some t → args[j]? = some v → Value.okWide Try.prog W .any base t v := hval0
  have hW' := hW
  obtain ⟨p, q, hA0, hV, rfl, hfz, hnd⟩ := hW
  have hA : DataW.TrodAll enc Try.prog W 0 (fun _ => true) true Try.f4.params.toList args.toList ds p := hA0
  rw [Try.params4] at hA hval hsz
  obtain ⟨v0, vs0, d0, ds0, p0, q0, hargs, rfl, rfl, h0, r0⟩ := trodAll_cons hA
  obtain ⟨v1, vs1, d1, ds1, p1, q1, rfl, rfl, rfl, h1, r1⟩ := trodAll_cons r0
  obtain ⟨v2, vs2, d2, ds2, p2, q2, rfl, rfl, rfl, h2, r2⟩ := trodAll_cons r1
  obtain ⟨v3, vs3, d3, ds3, p3, q3, rfl, rfl, rfl, h3, r3⟩ := trodAll_cons r2
  obtain ⟨rfl, rfl, rfl⟩ := trodAll_nil r3
  obtain rfl : args = #[v0, v1, v2, v3] := by cases args; simp_all
  obtain ⟨rfl, rfl⟩ := trodVars_none hV
  obtain ⟨cs0, rfl, hcs0⟩ := okWide_struct Try.underlying35 (hval 0 35 v0 rfl rfl)
  have k0_ := h0
  have lt0 : ∀ x ∈ p0, x.block < W.heap.size := by obtain ⟨m, hm⟩ := k0_; exact DataW.trod_lt m _ _ _ hm
  obtain ⟨fuel0, hf0⟩ := h0
  obtain ⟨x0, hK0, hw0⟩ := (Opens.struct Try.underlying35 (by kernel_rfl) (OpensF.cons rfl (Opens.int Try.underlying24) (OpensF.cons rfl (Opens.int Try.underlying24) (OpensF.cons rfl (Opens.bool Try.underlying4) OpensF.nil)))) enc W fuel0 _ _ hf0 (weight_at hsz (j := 0) rfl rfl)
  obtain ⟨a0_0, a0_1, a0_2, ⟨⟩⟩ := x0
  obtain ⟨cs1, rfl, hcs1⟩ := okWide_struct Try.underlying37 (hval 1 37 v1 rfl rfl)
  have k1_ := h1
  have lt1 : ∀ x ∈ p1, x.block < W.heap.size := by obtain ⟨m, hm⟩ := k1_; exact DataW.trod_lt m _ _ _ hm
  obtain ⟨fuel1, hf1⟩ := h1
  obtain ⟨x1, hK1, hw1⟩ := (Opens.struct Try.underlying37 (by kernel_rfl) (OpensF.cons rfl (Opens.int Try.underlying32) (OpensF.cons rfl (Opens.int Try.underlying32) (OpensF.cons rfl (Opens.bool Try.underlying4) OpensF.nil)))) enc W fuel1 _ _ hf1 (weight_at hsz (j := 1) rfl rfl)
  obtain ⟨a1_0, a1_1, a1_2, ⟨⟩⟩ := x1
  obtain ⟨cs2, rfl, hcs2⟩ := okWide_struct Try.underlying40 (hval 2 40 v2 rfl rfl)
  have k2_ := h2
  have lt2 : ∀ x ∈ p2, x.block < W.heap.size := by obtain ⟨m, hm⟩ := k2_; exact DataW.trod_lt m _ _ _ hm
  obtain ⟨fuel2, hf2⟩ := h2
  obtain ⟨x2, hK2, hw2⟩ := (Opens.struct Try.underlying40 (by kernel_rfl) (OpensF.cons rfl (Opens.int Try.underlying38) (OpensF.cons rfl (Opens.int Try.underlying38) (OpensF.cons rfl (Opens.bool Try.underlying4) OpensF.nil)))) enc W fuel2 _ _ hf2 (weight_at hsz (j := 2) rfl rfl)
  obtain ⟨a2_0, a2_1, a2_2, ⟨⟩⟩ := x2
  obtain ⟨a3, rfl, rfl, rfl, hw3⟩ := open_int Try.underlying3 (hval 3 3 v3 rfl rfl) h3
  clear hA0 hval0 hsz0 hsz
  obtain ⟨L, hL, hp⟩ := PlCalibLights.top a0_0 a0_1 a0_2 a1_0 a1_1 a1_2 a2_0 a2_1 a2_2 a3 hw0 hw1 hw2 hw3
  have ht := P.e_spylaw3_CalibLights L hL a0_0 a0_1 a0_2 a1_0 a1_1 a1_2 a2_0 a2_1 a2_2 a3 true hp
  have hok : ArgsOk Try.prog (Go.Ev.Old W) W [D.agg 35 [.int .i64 a0_0, .int .i64 a0_1, .bool a0_2], D.agg 37 [.int .i64 a1_0, .int .i64 a1_1, .bool a1_2], D.agg 40 [.int .i64 a2_0, .int .i64 a2_1, .bool a2_2], .int .i64 a3] [(.agg cs0 : Value), (.agg cs1 : Value), (.agg cs2 : Value), (.int .i64 a3 : Value)] := fun σ st => ⟨_, _, rfl, arg_agg rfl hK0, ⟨_, _, rfl, arg_agg rfl hK1, ⟨_, _, rfl, arg_agg rfl hK2, ⟨_, _, rfl, arg_one rfl rfl, rfl⟩⟩⟩⟩
  refine (law_calls Try.func4 (by kernel_rfl) (by kernel_rfl) (call_of_ev Ty.mixed (P.Go_spylaw3_CalibLights L hL) (P.To_spylaw3_CalibLights L) ht (fun _ h => h) hok)).mono fun e W' ⟨he, bel⟩ => ?_
  subst he
  exact ⟨_, rfl, _, _, _, [], _, [], hW', trodAll_mk1 (shut_bool Try.underlying4 _), (trodAll_cons_mk (Below.trod laidOut (by kernel_rfl) (of_decide_eq_true (by kernel_rfl)) k0_ bel lt0) (trodAll_cons_mk (Below.trod laidOut (by kernel_rfl) (of_decide_eq_true (by kernel_rfl)) k1_ bel lt1) (trodAll_cons_mk (Below.trod laidOut (by kernel_rfl) (of_decide_eq_true (by kernel_rfl)) k2_ bel lt2) (trodAll_cons_mk (shut_int Try.underlying3 hw3) trodAll_mk0)))), rfl, bel.frame _, fun h => by cases h⟩
theorem over : Rows.calibLightsRow.holds Try.pinned (OpenSpec.ofChange Rows.calibLightsSpec) :=
  OpenClaim.holds_of_wide 4 Try.f4 rfl rfl rfl rfl rfl rfl rfl ⟨rfl, rfl, rfl, rfl, rfl⟩ rfl rfl rfl rfl rfl (by kernel_rfl) Try.func4 (by kernel_rfl)
    (of_decide_eq_true (by kernel_rfl)) (by unfold Func.isWrapper; first | (rw [if_pos (by decide +kernel)]; kernel_rfl) | (rw [if_neg (by decide +kernel)]; exact ⟨rfl, rfl⟩))
    (fun os started H enc _ => lifted os started H enc)
theorem proved : Rows.CalibLightsSaid := over
#print axioms proved
end Go.Proofs.Ytnojehmbiceceaa.calibLights
namespace Go.Proofs.Ytnojehmbiceceaa
/-- The row, under a short name, for the claim. -/
theorem calibLights_holds : Rows.CalibLightsSaid := calibLights.proved
end Go.Proofs.Ytnojehmbiceceaa
end
