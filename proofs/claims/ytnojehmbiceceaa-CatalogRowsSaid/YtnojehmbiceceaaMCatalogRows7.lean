/- Parts of one proof, joined: G226, E80, G80, E104, G104, PlBndAQuanta, E10, E40, E25, E44, E45, E47, E55, E56, E60, E94, E124, E125, E138, E139, E146, E193, E197, E200, E100, G100, E122, G122, E126, G126, E127, E194, G194, G127, E132, E195. -/
import Derived.Test.YtnojehmbiceceaaMCatalogRows6
import Derived.Test.YtnojehmbiceceaaProg
section
set_option linter.unusedVariables false
set_option linter.unusedSimpArgs false
set_option maxRecDepth 100000
namespace Go.Proofs.Ytnojehmbiceceaa.P
open Go.Ev Go.IntKind Go.Proofs.Ytnojehmbiceceaa Go.Proofs.Ytnojehmbiceceaa.Ty Go.Proofs.Ytnojehmbiceceaa.E
def p_bound_vague_Quanta (L : Nat) (a0_0 : Int) (a0_1 : Int) (a0_2 : Bool) (a1_0 : Int) (a1_1 : Int) (a1_2 : Bool) : Option Bool := bnd (p_bound_Norm_Quanta L a0_0 a0_1 a0_2) fun r1 => cb r1.2.2 (some true) (bnd (p_bound_Norm_Quanta L a1_0 a1_1 a1_2) fun r2 => some r2.2.2)
attribute [local go_sem] Ev.putR_s Ev.putR_0 Ev.thenO_s Ev.thenO_0 Ev.seqR_n Ev.seqR_e Ev.seqR_r Ev.seqR_0 Ev.blkR_e Ev.blkR_n Ev.blkR_r Ev.blkR_0 Ev.normR_s Ev.normR_0 Ev.outR_r Ev.outR_n Ev.outR_0 Ev.retS_s Ev.retS_0 Ev.pureO_s Ev.pureO_0 Ev.topR_0 Ev.topR_t Ev.topR_t0 Ev.oneL_0 Ev.oneL_s Ev.topR_d Ev.topR_nils Ev.topR_agg Ev.topR_rs Ev.evOp_move Ev.evOp_assign Ev.evOp_pick Ev.evOp_alloc Ev.evOp_box Ev.evOp_build Ev.evOp_buildSlice Ev.evOp_load Ev.evOp_store Ev.evOp_makeMap Ev.evOp_lookup Ev.evOp_mapUpdate Ev.evOp_insert Ev.evOp_nilCheck Ev.evOp_binOp Ev.evOp_unOp Ev.evOp_convert Ev.evOp_makeFunc Ev.evOp_makeSlice Ev.evOp_slice Ev.evOp_fieldAddr Ev.evOp_field Ev.evOp_indexAddr Ev.evOp_index Ev.evOp_extract Ev.evOp_call Ev.evOp_append Ev.evOp_clear Ev.evOp_len Ev.evLen_d Ev.evLen_rs Ev.evLen_nils Ev.evLen_nila Ev.evLen_mp Ev.evOp_min Ev.evOp_max Ev.condR_b Ev.condR_t Ev.evOps_nil Ev.evOps_plain Ev.evOps_guard Ev.runG_eq Ev.skipG_eq Ev.condL_tt Ev.condL_ff Ev.condL_tf Ev.condL_ft Ev.condL_u Ev.condC_t Ev.condC_f Ev.evC_skip Ev.evC_ret Ev.evC_exit Ev.evC_label Ev.evC_region Ev.evC_draw Ev.evC_seq Ev.evC_cond Ev.evC_block Ev.evC_loop Ev.fin_d Ev.fin_nila Ev.fin_nils Ev.fin_agg_ Ev.fin_rs Ev.finS_s Ev.mapO_fin Ev.upd_upd Ev.argv_d Ev.argv_nila Ev.argv_nils Ev.argv_agg Ev.argv_rs Ev.argv_p Ev.fk_low Ev.appendTo_nils Ev.appendTo_nila Ev.appendTo_rs Ev.consV_d Ev.consV_agg Ev.consV_p Ev.consV_rs Ev.consV_nila Ev.consV_nils Ev.consV_fn Ev.consV_und Ev.consV_jk Ev.consV_grown Ev.topR_grown Ev.len_grown Ev.consV_nilm Ev.consV_mp Ev.sameK_i Ev.sameK_s Ev.mget_0 Ev.mget_hit Ev.mget_miss Ev.mput_0 Ev.mput_hit Ev.mput_miss Ev.apartAll Ev.apartL Ev.apartV Ev.freeAll Ev.sel Ev.keyOfV Ev.evLookup Ev.evPut Ev.hintOk Ev.keyOk Ev.consP Ev.lookV Ev.guardV Ev.dstAt Ev.evPure Ev.evStore Ev.evBin Ev.evBinO Ev.evNil Ev.isNilC Ev.evUn Ev.evConv Ev.evSlice Ev.optI Ev.foldI Ev.capsOk Ev.noTup Ev.nth Ev.setN Ev.killAt Ev.pad Ev.V.get Ev.V.put Ev.putD Ev.newBlk Ev.upd Ev.keq Ev.empty Ev.evCall Ev.V.args Ev.argP Ev.callOf Ev.evNilP Ev.isNilP Ev.look Ev.V.view.views Ev.V.view Ev.V.toD Ev.V.toD.V.toDs Ev.V.pure.pures Ev.V.pure Ev.D.flat.flats Ev.D.flat Ev.mkAgg Ev.allD Ev.aggParts Ev.setParts Ev.setElems Ev.getPath Ev.setPath Ev.subL Ev.eqD Ev.eqD.eqDs Ev.and2 Ev.strCut Ev.evalT Ev.constT Ev.evArgs Ev.mask Ev.maskOf Ev.tableOf Ev.compT Ev.resV Ev.retV Ev.mapO Ev.eT_nils Ev.ag_t Ev.ag_f Ev.ag_0 Ev.ag_n Ev.mx_u64 Ev.mx_u32 Ev.mx_u16 Ev.mx_u8 Ev.sg_i64 Ev.sg_i32 Ev.sg_i16 Ev.sg_i8 Ev.sg_u64 Ev.sg_u32 Ev.sg_u16 Ev.sg_u8 Ev.mapE_i Ev.mapV_nil Ev.hT_nilm Ev.mget_map Ev.mput_map Ev.mapV_put Ev.mapV_half Ev.hT_nila Ev.eO_nila Ev.pL_nila Ev.evLen_gl Ev.r_nila Ev.frzO_n Ev.frzO_e Ev.frzO_r Ev.frzO_0 Ev.mb_z Ev.mb_0 Ev.mb_s Ev.frzL_t Ev.frzL_f Ev.frzL_0 Ev.frzT_nils Ev.frzT_rs Ev.frzT_p Ev.frzK_i Ev.keyIn_i Ev.rI_nil Ev.rI_cons Ev.rI_row Ev.rI_app Ev.r_d Ev.r_nils Ev.r_agg Ev.r_rs Ev.r_gl Ev.vw_row Ev.vw_app Ev.appO_s Ev.frzT_gl Ev.allD_gl Ev.killAt_i Ev.tkOne_i Ev.hT_agg Ev.hT_vagg Ev.hT_int Ev.hT_bool Ev.hT_str Ev.hT_sl Ev.hT_ptr Ev.hT_np Ev.hT_p Ev.hT_rs Ev.hT_mp Ev.hT_nils Ev.hT_fn Ev.hT_jk Ev.hT_gl Ev.eO_sl Ev.eO_nils Ev.eO_rs Ev.eT_sl Ev.eT_rs Ev.pL_str Ev.pL_sl Ev.pL_rs Ev.pL_nils Ev.pL_min Ev.pL_max Ev.len_glB Ev.noTup_gl Ev.rowV_len Ev.rowV_nil Ev.rowV_cons Ev.rowV_append Ev.rowV_set Ev.rowV_replicate Ev.nth_row Ev.row_take Ev.row_drop Ev.toDs_row Ev.fin_row Ev.map_row Ev.map_take_ Ev.map_drop_ Ev.Bk_i Ev.GlB_0 Ev.GlB_mk Ev.gl_nil Ev.gl_cons Ev.gl_snoc Ev.gl_setN Ev.appendTo_gl Ev.consV_gl Ev.elems_gl Ev.fin_gl Ev.view_gl Ev.argv_gl Ev.topR_gl Ev.sp_z Ev.sp_0 Ev.sp_s Ev.km_z Ev.km_0 Ev.km_s Ev.beq_toList Ev.nc0 Ev.bq_t Ev.bq_f Ev.bodyN Ev.le_maxRow Int.cast_ofNat_Int IntWalk.i64_in IntWalk.u64_in IntWalk.u8_in beq_self_eq_true Bool.true_beq Bool.false_beq Bool.and_true Bool.true_and Bool.false_and Bool.and_false Bool.and_self Bool.not_true Bool.not_false Bool.not_eq_true cond_true cond_false if_true if_false and_true true_and and_self decide_true decide_false Bool.or_true Bool.true_or Bool.or_false Bool.false_or List.isEmpty List.isEmpty_nil List.size_toArray List.map List.length_map List.length_cons List.length_nil Option.map Option.bind Option.getD Option.isSome List.replicate Bool.false_eq_true implies_true false_implies forall_const Array.toList Array.isEmpty List.append List.nil_append List.cons_append List.drop_zero List.take_length List.take_succ_cons List.take_zero List.take_nil List.getElem?_map List.getElem?_cons_zero List.getElem?_cons_succ List.getElem?_nil List.append_nil eq_self Int.toNat_natCast List.length_append List.length_set Nat.zero_add Nat.add_zero List.length_replicate Nat.sub_zero Option.map_some Option.map_none Int.le_refl Nat.le_refl Int.natCast_nonneg List.map_append
attribute [local go_sem_proc] Nat.reduceAdd Nat.reduceSub Nat.reduceMul Nat.reduceEqDiff Nat.reduceBEq Nat.reduceLT Nat.reduceLeDiff Nat.reducePow Int.reduceToNat Int.reduceLT Int.reduceLE Int.reduceGT Int.reduceGE Int.reduceEq Int.reduceNeg Int.reduceAdd Int.reduceSub Int.reduceMul reduceCtorEq
attribute [local go_sem_proc ↓] reduceIte
noncomputable def G_bound_vague_Quanta (L : Nat) : Specs := [(75, s_bound_Norm_Quanta L)]
noncomputable def T_bound_vague_Quanta : Table := tableOf [(226, en226)]
theorem Go_bound_vague_Quanta (L : Nat) (hL : L ≤ 4611686018427387904) : ∀ g s, Ev.look (G_bound_vague_Quanta L) g = some s → SpecOk Try.prog g s := (specs_cons (ok_bound_Norm_Quanta L hL) specs_nil)
theorem To_bound_vague_Quanta (L : Nat) : TableOk Try.prog ((G_bound_vague_Quanta L).map (·.1)) T_bound_vague_Quanta := (table_cons Try.func226 (by kernel_rfl) (by kernel_rfl) table_nil)
theorem lk_bound_vague_Quanta_75 (L : Nat) : Ev.look (G_bound_vague_Quanta L) 75 = some (s_bound_Norm_Quanta L) := nr rfl
attribute [local go_sem] Ty.tk4 Ty.ub4 Ty.ek4 Ty.zv4 Ty.by4 Ty.so4 Ty.tk24 Ty.ik24 Ty.ek24 Ty.zv24 Ty.by24 Ty.so24 Ty.tk35 Ty.ct35 Ty.ek35 Ty.zv35 Ty.by35 Ty.so35 Ty.k35_e E.mk226_1000000 lk_bound_vague_Quanta_75 s_bound_Norm_Quanta_run loopN loops Try.f226
theorem e_bound_vague_Quanta (L : Nat) (hL : L ≤ 4611686018427387904) (a0_0 : Int) (a0_1 : Int) (a0_2 : Bool) (a1_0 : Int) (a1_1 : Int) (a1_2 : Bool) (res : Bool) (h : p_bound_vague_Quanta L a0_0 a0_1 a0_2 a1_0 a1_1 a1_2 = some res) : evTop Try.prog (G_bound_vague_Quanta L) T_bound_vague_Quanta L 1 226 [.agg 35 [.int .i64 a0_0, .int .i64 a0_1, .bool a0_2], .agg 35 [.int .i64 a1_0, .int .i64 a1_1, .bool a1_2]] = some [.bool res] := by
  revert h
  unfold p_bound_vague_Quanta evTop
  simp only [List.map]
  rw [evF_s (fn := Try.f226) (msk := en226.ms) (hT := by rfl) (hb := by rfl)]
  refine bnd_i fun r1 c1 => ?_
  refine cb_i (fun c2 => ?_) (fun c2 => ?_)
  · rintro ⟨⟩
    simp only [go_sem, *]
  · refine bnd_i fun r2 c3 => ?_
    rintro ⟨⟩
    simp only [go_sem, *]
noncomputable def s_bound_vague_Quanta (L : Nat) : Ev.Spec := specP (cCons k35 (cCons k35 cNil)) (fun x => p_bound_vague_Quanta L x.1.1 x.1.2.1 x.1.2.2.1 x.2.1.1 x.2.1.2.1 x.2.1.2.2.1) (fun r => [.bool r])
theorem s_bound_vague_Quanta_run (L : Nat) (a0_0 : Int) (a0_1 : Int) (a0_2 : Bool) (a1_0 : Int) (a1_1 : Int) (a1_2 : Bool) : (s_bound_vague_Quanta L).run [.agg 35 [.int .i64 a0_0, .int .i64 a0_1, .bool a0_2], .agg 35 [.int .i64 a1_0, .int .i64 a1_1, .bool a1_2]] = (p_bound_vague_Quanta L a0_0 a0_1 a0_2 a1_0 a1_1 a1_2).map fun r => [.bool r] := specP_run (cCons k35 (cCons k35 cNil)) (fun x => p_bound_vague_Quanta L x.1.1 x.1.2.1 x.1.2.2.1 x.2.1.1 x.2.1.2.1 x.2.1.2.2.1) (fun r => [.bool r]) ((a0_0, a0_1, a0_2, ()), (a1_0, a1_1, a1_2, ()), ())
theorem ok_bound_vague_Quanta (L : Nat) (hL : L ≤ 4611686018427387904) : SpecOk Try.prog 226 (s_bound_vague_Quanta L) := specP_ok mixed (Go_bound_vague_Quanta L hL) (To_bound_vague_Quanta L) fun x r h => ⟨L, 1, e_bound_vague_Quanta L hL x.1.1 x.1.2.1 x.1.2.2.1 x.2.1.1 x.2.1.2.1 x.2.1.2.2.1 r h⟩
end Go.Proofs.Ytnojehmbiceceaa.P
end
section
set_option linter.unusedVariables false
set_option linter.unusedSimpArgs false
set_option maxRecDepth 100000
namespace Go.Proofs.Ytnojehmbiceceaa.E
open Go.Ev
noncomputable def en80 : Entry := ⟨Try.f80, [(1000000, mb 9 0 [4])]⟩
theorem mk80_1000000 (vs : List V) : mask (maskOf en80.ms 1000000) vs = km 9 0 [4] vs := mask_mb _ _ _ _
end Go.Proofs.Ytnojehmbiceceaa.E
end
section
set_option linter.unusedVariables false
set_option linter.unusedSimpArgs false
set_option maxRecDepth 100000
namespace Go.Proofs.Ytnojehmbiceceaa.P
open Go.Ev Go.IntKind Go.Proofs.Ytnojehmbiceceaa Go.Proofs.Ytnojehmbiceceaa.Ty Go.Proofs.Ytnojehmbiceceaa.E
def p_bound_Of_Quanta (L : Nat) (a0 : Int) (a1 : Int) : Option (Int × Int × Bool) := bnd (p_bound_Norm_Quanta L a0 a1 false) fun r1 => some (r1.1, r1.2.1, r1.2.2)
attribute [local go_sem] Ev.putR_s Ev.putR_0 Ev.thenO_s Ev.thenO_0 Ev.seqR_n Ev.seqR_e Ev.seqR_r Ev.seqR_0 Ev.blkR_e Ev.blkR_n Ev.blkR_r Ev.blkR_0 Ev.normR_s Ev.normR_0 Ev.outR_r Ev.outR_n Ev.outR_0 Ev.retS_s Ev.retS_0 Ev.pureO_s Ev.pureO_0 Ev.topR_0 Ev.topR_t Ev.topR_t0 Ev.oneL_0 Ev.oneL_s Ev.topR_d Ev.topR_nils Ev.topR_agg Ev.topR_rs Ev.evOp_move Ev.evOp_assign Ev.evOp_pick Ev.evOp_alloc Ev.evOp_box Ev.evOp_build Ev.evOp_buildSlice Ev.evOp_load Ev.evOp_store Ev.evOp_makeMap Ev.evOp_lookup Ev.evOp_mapUpdate Ev.evOp_insert Ev.evOp_nilCheck Ev.evOp_binOp Ev.evOp_unOp Ev.evOp_convert Ev.evOp_makeFunc Ev.evOp_makeSlice Ev.evOp_slice Ev.evOp_fieldAddr Ev.evOp_field Ev.evOp_indexAddr Ev.evOp_index Ev.evOp_extract Ev.evOp_call Ev.evOp_append Ev.evOp_clear Ev.evOp_len Ev.evLen_d Ev.evLen_rs Ev.evLen_nils Ev.evLen_nila Ev.evLen_mp Ev.evOp_min Ev.evOp_max Ev.condR_b Ev.condR_t Ev.evOps_nil Ev.evOps_plain Ev.evOps_guard Ev.runG_eq Ev.skipG_eq Ev.condL_tt Ev.condL_ff Ev.condL_tf Ev.condL_ft Ev.condL_u Ev.condC_t Ev.condC_f Ev.evC_skip Ev.evC_ret Ev.evC_exit Ev.evC_label Ev.evC_region Ev.evC_draw Ev.evC_seq Ev.evC_cond Ev.evC_block Ev.evC_loop Ev.fin_d Ev.fin_nila Ev.fin_nils Ev.fin_agg_ Ev.fin_rs Ev.finS_s Ev.mapO_fin Ev.upd_upd Ev.argv_d Ev.argv_nila Ev.argv_nils Ev.argv_agg Ev.argv_rs Ev.argv_p Ev.fk_low Ev.appendTo_nils Ev.appendTo_nila Ev.appendTo_rs Ev.consV_d Ev.consV_agg Ev.consV_p Ev.consV_rs Ev.consV_nila Ev.consV_nils Ev.consV_fn Ev.consV_und Ev.consV_jk Ev.consV_grown Ev.topR_grown Ev.len_grown Ev.consV_nilm Ev.consV_mp Ev.sameK_i Ev.sameK_s Ev.mget_0 Ev.mget_hit Ev.mget_miss Ev.mput_0 Ev.mput_hit Ev.mput_miss Ev.apartAll Ev.apartL Ev.apartV Ev.freeAll Ev.sel Ev.keyOfV Ev.evLookup Ev.evPut Ev.hintOk Ev.keyOk Ev.consP Ev.lookV Ev.guardV Ev.dstAt Ev.evPure Ev.evStore Ev.evBin Ev.evBinO Ev.evNil Ev.isNilC Ev.evUn Ev.evConv Ev.evSlice Ev.optI Ev.foldI Ev.capsOk Ev.noTup Ev.nth Ev.setN Ev.killAt Ev.pad Ev.V.get Ev.V.put Ev.putD Ev.newBlk Ev.upd Ev.keq Ev.empty Ev.evCall Ev.V.args Ev.argP Ev.callOf Ev.evNilP Ev.isNilP Ev.look Ev.V.view.views Ev.V.view Ev.V.toD Ev.V.toD.V.toDs Ev.V.pure.pures Ev.V.pure Ev.D.flat.flats Ev.D.flat Ev.mkAgg Ev.allD Ev.aggParts Ev.setParts Ev.setElems Ev.getPath Ev.setPath Ev.subL Ev.eqD Ev.eqD.eqDs Ev.and2 Ev.strCut Ev.evalT Ev.constT Ev.evArgs Ev.mask Ev.maskOf Ev.tableOf Ev.compT Ev.resV Ev.retV Ev.mapO Ev.eT_nils Ev.ag_t Ev.ag_f Ev.ag_0 Ev.ag_n Ev.mx_u64 Ev.mx_u32 Ev.mx_u16 Ev.mx_u8 Ev.sg_i64 Ev.sg_i32 Ev.sg_i16 Ev.sg_i8 Ev.sg_u64 Ev.sg_u32 Ev.sg_u16 Ev.sg_u8 Ev.mapE_i Ev.mapV_nil Ev.hT_nilm Ev.mget_map Ev.mput_map Ev.mapV_put Ev.mapV_half Ev.hT_nila Ev.eO_nila Ev.pL_nila Ev.evLen_gl Ev.r_nila Ev.frzO_n Ev.frzO_e Ev.frzO_r Ev.frzO_0 Ev.mb_z Ev.mb_0 Ev.mb_s Ev.frzL_t Ev.frzL_f Ev.frzL_0 Ev.frzT_nils Ev.frzT_rs Ev.frzT_p Ev.frzK_i Ev.keyIn_i Ev.rI_nil Ev.rI_cons Ev.rI_row Ev.rI_app Ev.r_d Ev.r_nils Ev.r_agg Ev.r_rs Ev.r_gl Ev.vw_row Ev.vw_app Ev.appO_s Ev.frzT_gl Ev.allD_gl Ev.killAt_i Ev.tkOne_i Ev.hT_agg Ev.hT_vagg Ev.hT_int Ev.hT_bool Ev.hT_str Ev.hT_sl Ev.hT_ptr Ev.hT_np Ev.hT_p Ev.hT_rs Ev.hT_mp Ev.hT_nils Ev.hT_fn Ev.hT_jk Ev.hT_gl Ev.eO_sl Ev.eO_nils Ev.eO_rs Ev.eT_sl Ev.eT_rs Ev.pL_str Ev.pL_sl Ev.pL_rs Ev.pL_nils Ev.pL_min Ev.pL_max Ev.len_glB Ev.noTup_gl Ev.rowV_len Ev.rowV_nil Ev.rowV_cons Ev.rowV_append Ev.rowV_set Ev.rowV_replicate Ev.nth_row Ev.row_take Ev.row_drop Ev.toDs_row Ev.fin_row Ev.map_row Ev.map_take_ Ev.map_drop_ Ev.Bk_i Ev.GlB_0 Ev.GlB_mk Ev.gl_nil Ev.gl_cons Ev.gl_snoc Ev.gl_setN Ev.appendTo_gl Ev.consV_gl Ev.elems_gl Ev.fin_gl Ev.view_gl Ev.argv_gl Ev.topR_gl Ev.sp_z Ev.sp_0 Ev.sp_s Ev.km_z Ev.km_0 Ev.km_s Ev.beq_toList Ev.nc0 Ev.bq_t Ev.bq_f Ev.bodyN Ev.le_maxRow Int.cast_ofNat_Int IntWalk.i64_in IntWalk.u64_in IntWalk.u8_in beq_self_eq_true Bool.true_beq Bool.false_beq Bool.and_true Bool.true_and Bool.false_and Bool.and_false Bool.and_self Bool.not_true Bool.not_false Bool.not_eq_true cond_true cond_false if_true if_false and_true true_and and_self decide_true decide_false Bool.or_true Bool.true_or Bool.or_false Bool.false_or List.isEmpty List.isEmpty_nil List.size_toArray List.map List.length_map List.length_cons List.length_nil Option.map Option.bind Option.getD Option.isSome List.replicate Bool.false_eq_true implies_true false_implies forall_const Array.toList Array.isEmpty List.append List.nil_append List.cons_append List.drop_zero List.take_length List.take_succ_cons List.take_zero List.take_nil List.getElem?_map List.getElem?_cons_zero List.getElem?_cons_succ List.getElem?_nil List.append_nil eq_self Int.toNat_natCast List.length_append List.length_set Nat.zero_add Nat.add_zero List.length_replicate Nat.sub_zero Option.map_some Option.map_none Int.le_refl Nat.le_refl Int.natCast_nonneg List.map_append
attribute [local go_sem_proc] Nat.reduceAdd Nat.reduceSub Nat.reduceMul Nat.reduceEqDiff Nat.reduceBEq Nat.reduceLT Nat.reduceLeDiff Nat.reducePow Int.reduceToNat Int.reduceLT Int.reduceLE Int.reduceGT Int.reduceGE Int.reduceEq Int.reduceNeg Int.reduceAdd Int.reduceSub Int.reduceMul reduceCtorEq
attribute [local go_sem_proc ↓] reduceIte
noncomputable def G_bound_Of_Quanta (L : Nat) : Specs := [(75, s_bound_Norm_Quanta L)]
noncomputable def T_bound_Of_Quanta : Table := tableOf [(80, en80)]
theorem Go_bound_Of_Quanta (L : Nat) (hL : L ≤ 4611686018427387904) : ∀ g s, Ev.look (G_bound_Of_Quanta L) g = some s → SpecOk Try.prog g s := (specs_cons (ok_bound_Norm_Quanta L hL) specs_nil)
theorem To_bound_Of_Quanta (L : Nat) : TableOk Try.prog ((G_bound_Of_Quanta L).map (·.1)) T_bound_Of_Quanta := (table_cons Try.func80 (by kernel_rfl) (by kernel_rfl) table_nil)
theorem lk_bound_Of_Quanta_75 (L : Nat) : Ev.look (G_bound_Of_Quanta L) 75 = some (s_bound_Norm_Quanta L) := nr rfl
attribute [local go_sem] Ty.tk4 Ty.ub4 Ty.ek4 Ty.zv4 Ty.by4 Ty.so4 Ty.tk24 Ty.ik24 Ty.ek24 Ty.zv24 Ty.by24 Ty.so24 Ty.tk35 Ty.ct35 Ty.ek35 Ty.zv35 Ty.by35 Ty.so35 Ty.k35_e E.mk80_1000000 lk_bound_Of_Quanta_75 s_bound_Norm_Quanta_run loopN loops Try.f80
theorem e_bound_Of_Quanta (L : Nat) (hL : L ≤ 4611686018427387904) (a0 : Int) (a1 : Int) (res : Int × Int × Bool) (h : p_bound_Of_Quanta L a0 a1 = some res) : evTop Try.prog (G_bound_Of_Quanta L) T_bound_Of_Quanta L 1 80 [.int .i64 a0, .int .i64 a1] = some [.agg 35 [.int .i64 res.1, .int .i64 res.2.1, .bool res.2.2]] := by
  revert h
  unfold p_bound_Of_Quanta evTop
  simp only [List.map]
  rw [evF_s (fn := Try.f80) (msk := en80.ms) (hT := by rfl) (hb := by rfl)]
  refine bnd_i fun r1 c1 => ?_
  rintro ⟨⟩
  simp only [go_sem, *]
noncomputable def s_bound_Of_Quanta (L : Nat) : Ev.Spec := specP (cCons (cI .i64) (cCons (cI .i64) cNil)) (fun x => p_bound_Of_Quanta L x.1 x.2.1) (fun r => [.agg 35 [.int .i64 r.1, .int .i64 r.2.1, .bool r.2.2]])
theorem s_bound_Of_Quanta_run (L : Nat) (a0 : Int) (a1 : Int) : (s_bound_Of_Quanta L).run [.int .i64 a0, .int .i64 a1] = (p_bound_Of_Quanta L a0 a1).map fun r => [.agg 35 [.int .i64 r.1, .int .i64 r.2.1, .bool r.2.2]] := specP_run (cCons (cI .i64) (cCons (cI .i64) cNil)) (fun x => p_bound_Of_Quanta L x.1 x.2.1) (fun r => [.agg 35 [.int .i64 r.1, .int .i64 r.2.1, .bool r.2.2]]) (a0, a1, ())
theorem ok_bound_Of_Quanta (L : Nat) (hL : L ≤ 4611686018427387904) : SpecOk Try.prog 80 (s_bound_Of_Quanta L) := specP_ok mixed (Go_bound_Of_Quanta L hL) (To_bound_Of_Quanta L) fun x r h => ⟨L, 1, e_bound_Of_Quanta L hL x.1 x.2.1 r h⟩
end Go.Proofs.Ytnojehmbiceceaa.P
end
section
set_option linter.unusedVariables false
set_option linter.unusedSimpArgs false
set_option maxRecDepth 100000
namespace Go.Proofs.Ytnojehmbiceceaa.E
open Go.Ev
noncomputable def en104 : Entry := ⟨Try.f104, [(1000001, mb 56 0 []), (1000000, mb 56 0 [6])]⟩
theorem mk104_1000001 (vs : List V) : mask (maskOf en104.ms 1000001) vs = km 56 0 [] vs := mask_mb _ _ _ _
theorem mk104_1000000 (vs : List V) : mask (maskOf en104.ms 1000000) vs = km 56 0 [6] vs := mask_mb _ _ _ _
end Go.Proofs.Ytnojehmbiceceaa.E
end
section
set_option linter.unusedVariables false
set_option linter.unusedSimpArgs false
set_option maxRecDepth 100000
namespace Go.Proofs.Ytnojehmbiceceaa.P
open Go.Ev Go.IntKind Go.Proofs.Ytnojehmbiceceaa Go.Proofs.Ytnojehmbiceceaa.Ty Go.Proofs.Ytnojehmbiceceaa.E
def p_spyref3_BoundFault_Quanta (L : Nat) (a0_0 : Int) (a0_1 : Int) (a0_2 : Bool) (a1 : Int) (a2 : Int) : Option Int := cb a0_2 (cb (decide (a0_0 = 0)) (cb (decide (a0_1 = 0)) (if a0_0 < (-1152921504606846976) then (some 4) else (if a0_0 > 1152921504606846976 then (some 4) else (if a0_1 < (-1152921504606846976) then (some 4) else (if a0_1 > 1152921504606846976 then (some 4) else (if a0_0 > a0_1 then (some 11) else (if a0_0 < a1 then (some 4) else (if a0_1 > a2 then (some 4) else (some 0)))))))) (some 3)) (some 3)) (if a0_0 < (-1152921504606846976) then (some 4) else (if a0_0 > 1152921504606846976 then (some 4) else (if a0_1 < (-1152921504606846976) then (some 4) else (if a0_1 > 1152921504606846976 then (some 4) else (if a0_0 > a0_1 then (some 11) else (if a0_0 < a1 then (some 4) else (if a0_1 > a2 then (some 4) else (some 0))))))))
attribute [local go_sem] Ev.putR_s Ev.putR_0 Ev.thenO_s Ev.thenO_0 Ev.seqR_n Ev.seqR_e Ev.seqR_r Ev.seqR_0 Ev.blkR_e Ev.blkR_n Ev.blkR_r Ev.blkR_0 Ev.normR_s Ev.normR_0 Ev.outR_r Ev.outR_n Ev.outR_0 Ev.retS_s Ev.retS_0 Ev.pureO_s Ev.pureO_0 Ev.topR_0 Ev.topR_t Ev.topR_t0 Ev.oneL_0 Ev.oneL_s Ev.topR_d Ev.topR_nils Ev.topR_agg Ev.topR_rs Ev.evOp_move Ev.evOp_assign Ev.evOp_pick Ev.evOp_alloc Ev.evOp_box Ev.evOp_build Ev.evOp_buildSlice Ev.evOp_load Ev.evOp_store Ev.evOp_makeMap Ev.evOp_lookup Ev.evOp_mapUpdate Ev.evOp_insert Ev.evOp_nilCheck Ev.evOp_binOp Ev.evOp_unOp Ev.evOp_convert Ev.evOp_makeFunc Ev.evOp_makeSlice Ev.evOp_slice Ev.evOp_fieldAddr Ev.evOp_field Ev.evOp_indexAddr Ev.evOp_index Ev.evOp_extract Ev.evOp_call Ev.evOp_append Ev.evOp_clear Ev.evOp_len Ev.evLen_d Ev.evLen_rs Ev.evLen_nils Ev.evLen_nila Ev.evLen_mp Ev.evOp_min Ev.evOp_max Ev.condR_b Ev.condR_t Ev.evOps_nil Ev.evOps_plain Ev.evOps_guard Ev.runG_eq Ev.skipG_eq Ev.condL_tt Ev.condL_ff Ev.condL_tf Ev.condL_ft Ev.condL_u Ev.condC_t Ev.condC_f Ev.evC_skip Ev.evC_ret Ev.evC_exit Ev.evC_label Ev.evC_region Ev.evC_draw Ev.evC_seq Ev.evC_cond Ev.evC_block Ev.evC_loop Ev.fin_d Ev.fin_nila Ev.fin_nils Ev.fin_agg_ Ev.fin_rs Ev.finS_s Ev.mapO_fin Ev.upd_upd Ev.argv_d Ev.argv_nila Ev.argv_nils Ev.argv_agg Ev.argv_rs Ev.argv_p Ev.fk_low Ev.appendTo_nils Ev.appendTo_nila Ev.appendTo_rs Ev.consV_d Ev.consV_agg Ev.consV_p Ev.consV_rs Ev.consV_nila Ev.consV_nils Ev.consV_fn Ev.consV_und Ev.consV_jk Ev.consV_grown Ev.topR_grown Ev.len_grown Ev.consV_nilm Ev.consV_mp Ev.sameK_i Ev.sameK_s Ev.mget_0 Ev.mget_hit Ev.mget_miss Ev.mput_0 Ev.mput_hit Ev.mput_miss Ev.apartAll Ev.apartL Ev.apartV Ev.freeAll Ev.sel Ev.keyOfV Ev.evLookup Ev.evPut Ev.hintOk Ev.keyOk Ev.consP Ev.lookV Ev.guardV Ev.dstAt Ev.evPure Ev.evStore Ev.evBin Ev.evBinO Ev.evNil Ev.isNilC Ev.evUn Ev.evConv Ev.evSlice Ev.optI Ev.foldI Ev.capsOk Ev.noTup Ev.nth Ev.setN Ev.killAt Ev.pad Ev.V.get Ev.V.put Ev.putD Ev.newBlk Ev.upd Ev.keq Ev.empty Ev.evCall Ev.V.args Ev.argP Ev.callOf Ev.evNilP Ev.isNilP Ev.look Ev.V.view.views Ev.V.view Ev.V.toD Ev.V.toD.V.toDs Ev.V.pure.pures Ev.V.pure Ev.D.flat.flats Ev.D.flat Ev.mkAgg Ev.allD Ev.aggParts Ev.setParts Ev.setElems Ev.getPath Ev.setPath Ev.subL Ev.eqD Ev.eqD.eqDs Ev.and2 Ev.strCut Ev.evalT Ev.constT Ev.evArgs Ev.mask Ev.maskOf Ev.tableOf Ev.compT Ev.resV Ev.retV Ev.mapO Ev.eT_nils Ev.ag_t Ev.ag_f Ev.ag_0 Ev.ag_n Ev.mx_u64 Ev.mx_u32 Ev.mx_u16 Ev.mx_u8 Ev.sg_i64 Ev.sg_i32 Ev.sg_i16 Ev.sg_i8 Ev.sg_u64 Ev.sg_u32 Ev.sg_u16 Ev.sg_u8 Ev.mapE_i Ev.mapV_nil Ev.hT_nilm Ev.mget_map Ev.mput_map Ev.mapV_put Ev.mapV_half Ev.hT_nila Ev.eO_nila Ev.pL_nila Ev.evLen_gl Ev.r_nila Ev.frzO_n Ev.frzO_e Ev.frzO_r Ev.frzO_0 Ev.mb_z Ev.mb_0 Ev.mb_s Ev.frzL_t Ev.frzL_f Ev.frzL_0 Ev.frzT_nils Ev.frzT_rs Ev.frzT_p Ev.frzK_i Ev.keyIn_i Ev.rI_nil Ev.rI_cons Ev.rI_row Ev.rI_app Ev.r_d Ev.r_nils Ev.r_agg Ev.r_rs Ev.r_gl Ev.vw_row Ev.vw_app Ev.appO_s Ev.frzT_gl Ev.allD_gl Ev.killAt_i Ev.tkOne_i Ev.hT_agg Ev.hT_vagg Ev.hT_int Ev.hT_bool Ev.hT_str Ev.hT_sl Ev.hT_ptr Ev.hT_np Ev.hT_p Ev.hT_rs Ev.hT_mp Ev.hT_nils Ev.hT_fn Ev.hT_jk Ev.hT_gl Ev.eO_sl Ev.eO_nils Ev.eO_rs Ev.eT_sl Ev.eT_rs Ev.pL_str Ev.pL_sl Ev.pL_rs Ev.pL_nils Ev.pL_min Ev.pL_max Ev.len_glB Ev.noTup_gl Ev.rowV_len Ev.rowV_nil Ev.rowV_cons Ev.rowV_append Ev.rowV_set Ev.rowV_replicate Ev.nth_row Ev.row_take Ev.row_drop Ev.toDs_row Ev.fin_row Ev.map_row Ev.map_take_ Ev.map_drop_ Ev.Bk_i Ev.GlB_0 Ev.GlB_mk Ev.gl_nil Ev.gl_cons Ev.gl_snoc Ev.gl_setN Ev.appendTo_gl Ev.consV_gl Ev.elems_gl Ev.fin_gl Ev.view_gl Ev.argv_gl Ev.topR_gl Ev.sp_z Ev.sp_0 Ev.sp_s Ev.km_z Ev.km_0 Ev.km_s Ev.beq_toList Ev.nc0 Ev.bq_t Ev.bq_f Ev.bodyN Ev.le_maxRow Int.cast_ofNat_Int IntWalk.i64_in IntWalk.u64_in IntWalk.u8_in beq_self_eq_true Bool.true_beq Bool.false_beq Bool.and_true Bool.true_and Bool.false_and Bool.and_false Bool.and_self Bool.not_true Bool.not_false Bool.not_eq_true cond_true cond_false if_true if_false and_true true_and and_self decide_true decide_false Bool.or_true Bool.true_or Bool.or_false Bool.false_or List.isEmpty List.isEmpty_nil List.size_toArray List.map List.length_map List.length_cons List.length_nil Option.map Option.bind Option.getD Option.isSome List.replicate Bool.false_eq_true implies_true false_implies forall_const Array.toList Array.isEmpty List.append List.nil_append List.cons_append List.drop_zero List.take_length List.take_succ_cons List.take_zero List.take_nil List.getElem?_map List.getElem?_cons_zero List.getElem?_cons_succ List.getElem?_nil List.append_nil eq_self Int.toNat_natCast List.length_append List.length_set Nat.zero_add Nat.add_zero List.length_replicate Nat.sub_zero Option.map_some Option.map_none Int.le_refl Nat.le_refl Int.natCast_nonneg List.map_append
attribute [local go_sem_proc] Nat.reduceAdd Nat.reduceSub Nat.reduceMul Nat.reduceEqDiff Nat.reduceBEq Nat.reduceLT Nat.reduceLeDiff Nat.reducePow Int.reduceToNat Int.reduceLT Int.reduceLE Int.reduceGT Int.reduceGE Int.reduceEq Int.reduceNeg Int.reduceAdd Int.reduceSub Int.reduceMul reduceCtorEq
attribute [local go_sem_proc ↓] reduceIte
noncomputable def G_spyref3_BoundFault_Quanta (L : Nat) : Specs := []
noncomputable def T_spyref3_BoundFault_Quanta : Table := tableOf [(104, en104)]
theorem Go_spyref3_BoundFault_Quanta (L : Nat) (hL : L ≤ 4611686018427387904) : ∀ g s, Ev.look (G_spyref3_BoundFault_Quanta L) g = some s → SpecOk Try.prog g s := specs_nil
theorem To_spyref3_BoundFault_Quanta (L : Nat) : TableOk Try.prog ((G_spyref3_BoundFault_Quanta L).map (·.1)) T_spyref3_BoundFault_Quanta := (table_cons Try.func104 (by kernel_rfl) (by kernel_rfl) table_nil)
attribute [local go_sem] Ty.tk4 Ty.ub4 Ty.ek4 Ty.zv4 Ty.by4 Ty.so4 Ty.tk24 Ty.ik24 Ty.ek24 Ty.zv24 Ty.by24 Ty.so24 Ty.tk27 Ty.ik27 Ty.ek27 Ty.zv27 Ty.by27 Ty.so27 Ty.tk35 Ty.ct35 Ty.ek35 Ty.zv35 Ty.by35 Ty.so35 Ty.k35_e E.mk104_1000001 E.mk104_1000000 loopN loops Try.f104
theorem e_spyref3_BoundFault_Quanta (L : Nat) (hL : L ≤ 4611686018427387904) (a0_0 : Int) (a0_1 : Int) (a0_2 : Bool) (a1 : Int) (a2 : Int) (res : Int) (h : p_spyref3_BoundFault_Quanta L a0_0 a0_1 a0_2 a1 a2 = some res) : evTop Try.prog (G_spyref3_BoundFault_Quanta L) T_spyref3_BoundFault_Quanta L 1 104 [.agg 35 [.int .i64 a0_0, .int .i64 a0_1, .bool a0_2], .int .i64 a1, .int .i64 a2] = some [.int .i64 res] := by
  revert h
  unfold p_spyref3_BoundFault_Quanta evTop
  simp only [List.map]
  rw [evF_s (fn := Try.f104) (msk := en104.ms) (hT := by rfl) (hb := by rfl)]
  refine cb_i (fun c1 => ?_) (fun c1 => ?_)
  · refine cb_i (fun c2 => ?_) (fun c2 => ?_)
    · refine cb_i (fun c3 => ?_) (fun c3 => ?_)
      · refine ite_i (fun c4 => ?_) (fun c4 => ?_)
        · rintro ⟨⟩
          simp only [go_sem, *]
        · refine ite_i (fun c5 => ?_) (fun c5 => ?_)
          · rintro ⟨⟩
            simp only [go_sem, *]
          · refine ite_i (fun c6 => ?_) (fun c6 => ?_)
            · rintro ⟨⟩
              simp only [go_sem, *]
            · refine ite_i (fun c7 => ?_) (fun c7 => ?_)
              · rintro ⟨⟩
                simp only [go_sem, *]
              · refine ite_i (fun c8 => ?_) (fun c8 => ?_)
                · rintro ⟨⟩
                  simp only [go_sem, *]
                · refine ite_i (fun c9 => ?_) (fun c9 => ?_)
                  · rintro ⟨⟩
                    simp only [go_sem, *]
                  · refine ite_i (fun c10 => ?_) (fun c10 => ?_)
                    · rintro ⟨⟩
                      simp only [go_sem, *]
                    · rintro ⟨⟩
                      simp only [go_sem, *]
      · rintro ⟨⟩
        simp only [go_sem, *]
    · rintro ⟨⟩
      simp only [go_sem, *]
  · refine ite_i (fun c11 => ?_) (fun c11 => ?_)
    · rintro ⟨⟩
      simp only [go_sem, *]
    · refine ite_i (fun c12 => ?_) (fun c12 => ?_)
      · rintro ⟨⟩
        simp only [go_sem, *]
      · refine ite_i (fun c13 => ?_) (fun c13 => ?_)
        · rintro ⟨⟩
          simp only [go_sem, *]
        · refine ite_i (fun c14 => ?_) (fun c14 => ?_)
          · rintro ⟨⟩
            simp only [go_sem, *]
          · refine ite_i (fun c15 => ?_) (fun c15 => ?_)
            · rintro ⟨⟩
              simp only [go_sem, *]
            · refine ite_i (fun c16 => ?_) (fun c16 => ?_)
              · rintro ⟨⟩
                simp only [go_sem, *]
              · refine ite_i (fun c17 => ?_) (fun c17 => ?_)
                · rintro ⟨⟩
                  simp only [go_sem, *]
                · rintro ⟨⟩
                  simp only [go_sem, *]
noncomputable def s_spyref3_BoundFault_Quanta (L : Nat) : Ev.Spec := specP (cCons k35 (cCons (cI .i64) (cCons (cI .i64) cNil))) (fun x => p_spyref3_BoundFault_Quanta L x.1.1 x.1.2.1 x.1.2.2.1 x.2.1 x.2.2.1) (fun r => [.int .i64 r])
theorem s_spyref3_BoundFault_Quanta_run (L : Nat) (a0_0 : Int) (a0_1 : Int) (a0_2 : Bool) (a1 : Int) (a2 : Int) : (s_spyref3_BoundFault_Quanta L).run [.agg 35 [.int .i64 a0_0, .int .i64 a0_1, .bool a0_2], .int .i64 a1, .int .i64 a2] = (p_spyref3_BoundFault_Quanta L a0_0 a0_1 a0_2 a1 a2).map fun r => [.int .i64 r] := specP_run (cCons k35 (cCons (cI .i64) (cCons (cI .i64) cNil))) (fun x => p_spyref3_BoundFault_Quanta L x.1.1 x.1.2.1 x.1.2.2.1 x.2.1 x.2.2.1) (fun r => [.int .i64 r]) ((a0_0, a0_1, a0_2, ()), a1, a2, ())
theorem ok_spyref3_BoundFault_Quanta (L : Nat) (hL : L ≤ 4611686018427387904) : SpecOk Try.prog 104 (s_spyref3_BoundFault_Quanta L) := specP_ok mixed (Go_spyref3_BoundFault_Quanta L hL) (To_spyref3_BoundFault_Quanta L) fun x r h => ⟨L, 1, e_spyref3_BoundFault_Quanta L hL x.1.1 x.1.2.1 x.1.2.2.1 x.2.1 x.2.2.1 r h⟩
end Go.Proofs.Ytnojehmbiceceaa.P
end
section
set_option linter.unusedVariables false
set_option linter.unusedSimpArgs false
namespace Go.Proofs.Ytnojehmbiceceaa.PlBndAQuanta
open Go.Ev Go.IntKind Go.Pl Go.Proofs.Ytnojehmbiceceaa.P
abbrev Bd := Int × Int × Bool × Unit
def chk (a b : Int) (u : Bool) : Int := if u = true ∧ (a ≠ 0 ∨ b ≠ 0) then 3 else if a < -1152921504606846976 ∨ a > 1152921504606846976 ∨ b < -1152921504606846976 ∨ b > 1152921504606846976 then 4 else if a > b then 11 else 0
def bad (b : Bd) : Bool := b.2.2.1 || decide (b.1 > b.2.1) || decide (b.1 < -1152921504606846976) || decide (b.2.1 > 1152921504606846976)
def fault (a b : Int) (u : Bool) (lo hi : Int) : Int := if chk a b u ≠ 0 then chk a b u else if a < lo ∨ b > hi then 4 else 0
theorem check_eq (L : Nat) (a b : Int) (u : Bool) : p_bound_Check_Quanta L a b u = some (chk a b u) := by
  unfold p_bound_Check_Quanta chk
  unfold minI maxI
  cases u
  · simp only [cb_f, Bool.false_eq_true, false_and, if_false]
    repeat' split
    all_goals first | rfl | (exfalso; omega)
  · rw [cb_t, cb_d, cb_d]
    by_cases h1 : a = 0
    · by_cases h2 : b = 0
      · subst h1 h2; decide
      · rw [if_pos h1, if_neg h2, if_pos ⟨rfl, .inr h2⟩]
    · rw [if_neg h1, if_pos ⟨rfl, .inl h1⟩]
theorem fault_eq (L : Nat) (a b : Int) (u : Bool) (lo hi : Int) : p_spyref3_BoundFault_Quanta L a b u lo hi = some (fault a b u lo hi) := by
  unfold p_spyref3_BoundFault_Quanta fault chk
  cases u
  · simp only [cb_f, Bool.false_eq_true, false_and, if_false]
    repeat' split
    all_goals first | rfl | (exfalso; omega)
  · simp only [cb_t, cb_d, true_and]
    repeat' split
    all_goals first | rfl | (exfalso; omega)
theorem chk_known (a b : Int) : chk a b false = 0 ↔ bad (a, b, false, ()) = false := by
  unfold chk bad
  simp only [Bool.false_eq_true, false_and, if_false, Bool.false_or, Bool.or_eq_false_iff, decide_eq_false_iff_not]
  split
  · omega
  · split <;> omega
def none_ : Int × Int × Bool := (0, 0, true)
def norm (a b : Int) (u : Bool) : Int × Int × Bool := if chk a b u = 0 then (a, b, u) else none_
theorem norm_eq (L : Nat) (a b : Int) (u : Bool) : p_bound_Norm_Quanta L a b u = some (norm a b u) := by
  unfold p_bound_Norm_Quanta norm
  rw [check_eq, bnd_s, cb_d]
  split <;> rfl
theorem norm_vague (a b : Int) (u : Bool) : (norm a b u).2.2 = bad (a, b, u, ()) := by
  unfold norm
  cases u with
  | true => split <;> simp [bad, none_]
  | false =>
    by_cases h : chk a b false = 0
    · rw [if_pos h, (chk_known a b).1 h]
    · rw [if_neg h]
      have : ¬ bad (a, b, false, ()) = false := fun e => h ((chk_known a b).2 e)
      simp only [none_]
      exact (Bool.not_eq_false _ ▸ this : bad (a, b, false, ()) = true).symm
theorem norm_good {a b : Int} {u : Bool} (h : bad (a, b, u, ()) = false) : norm a b u = (a, b, u) := by
  have := norm_vague a b u
  rw [h] at this
  unfold norm at this ⊢
  split
  · rfl
  · rename_i hc
    rw [if_neg hc] at this
    cases this
theorem none_eq (L : Nat) : p_bound_None_Quanta L = some none_ := rfl
theorem of_eq (L : Nat) (a b : Int) : p_bound_Of_Quanta L a b = some (norm a b false) := by unfold p_bound_Of_Quanta; rw [norm_eq, bnd_s]
theorem vague_eq (L : Nat) (a b : Int) (u : Bool) (c d : Int) (v : Bool) : p_bound_vague_Quanta L a b u c d v = some (bad (a, b, u, ()) || bad (c, d, v, ())) := by
  unfold p_bound_vague_Quanta
  rw [norm_eq, bnd_s, norm_vague, norm_eq, bnd_s, norm_vague]
  cases bad (a, b, u, ()) <;> rfl
end Go.Proofs.Ytnojehmbiceceaa.PlBndAQuanta
end
section
set_option linter.unusedVariables false
set_option linter.unusedSimpArgs false
set_option maxRecDepth 100000
namespace Go.Proofs.Ytnojehmbiceceaa.E
open Go.Ev
noncomputable def en10 : Entry := ⟨Try.f10, [(0, mb 56 0 [0, 21, 22, 23]), (1000001, mb 56 0 []), (1000002, mb 56 0 [0, 21, 22, 23]), (1000000, mb 56 0 [2])]⟩
theorem dw10_6 (lv : Nat) (env : List V) (st : Store) (o : Option (List V × Store)) : drawR en10.ms 6 lv env st o = if lv < 1000000000000000000000000000000 then (o) else none := nr rfl
theorem kl10_6 (lv : Nat) (st : Store) : killR en10.ms 6 lv st = st := nr rfl
theorem nc10_6 : ncOf en10.ms 6 = false := nr rfl
theorem mk10_0 (vs : List V) : mask (maskOf en10.ms 0) vs = km 56 0 [0, 21, 22, 23] vs := mask_mb _ _ _ _
theorem mk10_1000001 (vs : List V) : mask (maskOf en10.ms 1000001) vs = km 56 0 [] vs := mask_mb _ _ _ _
theorem mk10_1000002 (vs : List V) : mask (maskOf en10.ms 1000002) vs = km 56 0 [0, 21, 22, 23] vs := mask_mb _ _ _ _
theorem mk10_1000000 (vs : List V) : mask (maskOf en10.ms 1000000) vs = km 56 0 [2] vs := mask_mb _ _ _ _
theorem fz10_0 (lv : Nat) (f : Run) : frzF en10.ms lv 0 f = f := nr rfl
theorem fi10_0 (lv : Nat) (env : List V) (st : Store) (q : Store → Out) : frzI en10.ms lv 0 env st q = q st := nr rfl
noncomputable def lb10_0 : Code := loopN Try.f10 0
end Go.Proofs.Ytnojehmbiceceaa.E
end
section
set_option linter.unusedVariables false
set_option linter.unusedSimpArgs false
set_option maxRecDepth 100000
namespace Go.Proofs.Ytnojehmbiceceaa.E
open Go.Ev
noncomputable def en40 : Entry := ⟨Try.f40, [(1000000, mb 61 0 [0])]⟩
theorem mk40_1000000 (vs : List V) : mask (maskOf en40.ms 1000000) vs = km 61 0 [0] vs := mask_mb _ _ _ _
end Go.Proofs.Ytnojehmbiceceaa.E
end
section
set_option linter.unusedVariables false
set_option linter.unusedSimpArgs false
set_option maxRecDepth 100000
namespace Go.Proofs.Ytnojehmbiceceaa.E
open Go.Ev
noncomputable def en25 : Entry := ⟨Try.f25, [(0, mb 26 0 [0, 1, 12, 13]), (1000001, mb 26 0 []), (1000002, mb 26 0 [0, 1, 12, 13]), (1000000, mb 26 0 [4])]⟩
theorem dw25_6 (lv : Nat) (env : List V) (st : Store) (o : Option (List V × Store)) : drawR en25.ms 6 lv env st o = if lv < 1000000000000000000000000000000 then (o) else none := nr rfl
theorem kl25_6 (lv : Nat) (st : Store) : killR en25.ms 6 lv st = st := nr rfl
theorem nc25_6 : ncOf en25.ms 6 = false := nr rfl
theorem mk25_0 (vs : List V) : mask (maskOf en25.ms 0) vs = km 26 0 [0, 1, 12, 13] vs := mask_mb _ _ _ _
theorem mk25_1000001 (vs : List V) : mask (maskOf en25.ms 1000001) vs = km 26 0 [] vs := mask_mb _ _ _ _
theorem mk25_1000002 (vs : List V) : mask (maskOf en25.ms 1000002) vs = km 26 0 [0, 1, 12, 13] vs := mask_mb _ _ _ _
theorem mk25_1000000 (vs : List V) : mask (maskOf en25.ms 1000000) vs = km 26 0 [4] vs := mask_mb _ _ _ _
theorem fz25_0 (lv : Nat) (f : Run) : frzF en25.ms lv 0 f = f := nr rfl
theorem fi25_0 (lv : Nat) (env : List V) (st : Store) (q : Store → Out) : frzI en25.ms lv 0 env st q = q st := nr rfl
noncomputable def lb25_0 : Code := loopN Try.f25 0
end Go.Proofs.Ytnojehmbiceceaa.E
end
section
set_option linter.unusedVariables false
set_option linter.unusedSimpArgs false
set_option maxRecDepth 100000
namespace Go.Proofs.Ytnojehmbiceceaa.E
open Go.Ev
noncomputable def en44 : Entry := ⟨Try.f44, [(0, mb 24 0 [3, 8, 9]), (1000001, mb 24 0 [3]), (1000002, mb 24 0 [3, 8, 9]), (1000000, mb 24 0 [2])]⟩
theorem mk44_0 (vs : List V) : mask (maskOf en44.ms 0) vs = km 24 0 [3, 8, 9] vs := mask_mb _ _ _ _
theorem mk44_1000001 (vs : List V) : mask (maskOf en44.ms 1000001) vs = km 24 0 [3] vs := mask_mb _ _ _ _
theorem mk44_1000002 (vs : List V) : mask (maskOf en44.ms 1000002) vs = km 24 0 [3, 8, 9] vs := mask_mb _ _ _ _
theorem mk44_1000000 (vs : List V) : mask (maskOf en44.ms 1000000) vs = km 24 0 [2] vs := mask_mb _ _ _ _
theorem fz44_0 (lv : Nat) (f : Run) : frzF en44.ms lv 0 f = f := nr rfl
theorem fi44_0 (lv : Nat) (env : List V) (st : Store) (q : Store → Out) : frzI en44.ms lv 0 env st q = q st := nr rfl
noncomputable def lb44_0 : Code := loopN Try.f44 0
end Go.Proofs.Ytnojehmbiceceaa.E
end
section
set_option linter.unusedVariables false
set_option linter.unusedSimpArgs false
set_option maxRecDepth 100000
namespace Go.Proofs.Ytnojehmbiceceaa.E
open Go.Ev
noncomputable def en45 : Entry := ⟨Try.f45, [(0, mb 94 0 [1, 26, 27]), (3, mb 94 0 [1, 58, 59, 60]), (1000001, mb 94 0 [1]), (1000002, mb 94 0 [1, 26, 27]), (1000003, mb 94 0 [1]), (1000004, mb 94 0 [1]), (1000005, mb 94 0 [1, 58, 59, 60]), (1000006, mb 94 0 [1, 58, 59, 60]), (1000000, mb 94 0 [2])]⟩
theorem dw45_10 (lv : Nat) (env : List V) (st : Store) (o : Option (List V × Store)) : drawR en45.ms 10 lv env st o = if lv < 1000000000000000000000000000000 then (o) else none := nr rfl
theorem kl45_10 (lv : Nat) (st : Store) : killR en45.ms 10 lv st = st := nr rfl
theorem nc45_10 : ncOf en45.ms 10 = false := nr rfl
theorem mk45_0 (vs : List V) : mask (maskOf en45.ms 0) vs = km 94 0 [1, 26, 27] vs := mask_mb _ _ _ _
theorem mk45_3 (vs : List V) : mask (maskOf en45.ms 3) vs = km 94 0 [1, 58, 59, 60] vs := mask_mb _ _ _ _
theorem mk45_1000001 (vs : List V) : mask (maskOf en45.ms 1000001) vs = km 94 0 [1] vs := mask_mb _ _ _ _
theorem mk45_1000002 (vs : List V) : mask (maskOf en45.ms 1000002) vs = km 94 0 [1, 26, 27] vs := mask_mb _ _ _ _
theorem mk45_1000003 (vs : List V) : mask (maskOf en45.ms 1000003) vs = km 94 0 [1] vs := mask_mb _ _ _ _
theorem mk45_1000004 (vs : List V) : mask (maskOf en45.ms 1000004) vs = km 94 0 [1] vs := mask_mb _ _ _ _
theorem mk45_1000005 (vs : List V) : mask (maskOf en45.ms 1000005) vs = km 94 0 [1, 58, 59, 60] vs := mask_mb _ _ _ _
theorem mk45_1000006 (vs : List V) : mask (maskOf en45.ms 1000006) vs = km 94 0 [1, 58, 59, 60] vs := mask_mb _ _ _ _
theorem mk45_1000000 (vs : List V) : mask (maskOf en45.ms 1000000) vs = km 94 0 [2] vs := mask_mb _ _ _ _
theorem fz45_0 (lv : Nat) (f : Run) : frzF en45.ms lv 0 f = f := nr rfl
theorem fi45_0 (lv : Nat) (env : List V) (st : Store) (q : Store → Out) : frzI en45.ms lv 0 env st q = q st := nr rfl
theorem fz45_3 (lv : Nat) (f : Run) : frzF en45.ms lv 3 f = f := nr rfl
theorem fi45_3 (lv : Nat) (env : List V) (st : Store) (q : Store → Out) : frzI en45.ms lv 3 env st q = q st := nr rfl
noncomputable def lb45_0 : Code := loopN Try.f45 0
noncomputable def lb45_3 : Code := loopN Try.f45 1
end Go.Proofs.Ytnojehmbiceceaa.E
end
section
set_option linter.unusedVariables false
set_option linter.unusedSimpArgs false
set_option maxRecDepth 100000
namespace Go.Proofs.Ytnojehmbiceceaa.E
open Go.Ev
noncomputable def en47 : Entry := ⟨Try.f47, [(1000000, mb 45 0 [4])]⟩
theorem mk47_1000000 (vs : List V) : mask (maskOf en47.ms 1000000) vs = km 45 0 [4] vs := mask_mb _ _ _ _
end Go.Proofs.Ytnojehmbiceceaa.E
end
section
set_option linter.unusedVariables false
set_option linter.unusedSimpArgs false
set_option maxRecDepth 100000
namespace Go.Proofs.Ytnojehmbiceceaa.E
open Go.Ev
noncomputable def en55 : Entry := ⟨Try.f55, [(1000000, mb 14 0 [2])]⟩
theorem mk55_1000000 (vs : List V) : mask (maskOf en55.ms 1000000) vs = km 14 0 [2] vs := mask_mb _ _ _ _
end Go.Proofs.Ytnojehmbiceceaa.E
end
section
set_option linter.unusedVariables false
set_option linter.unusedSimpArgs false
set_option maxRecDepth 100000
namespace Go.Proofs.Ytnojehmbiceceaa.E
open Go.Ev
noncomputable def en56 : Entry := ⟨Try.f56, [(1, mb 65 0 [1, 4, 10, 40, 41, 42]), (1000001, mb 65 0 [1, 2, 4, 7]), (1000002, mb 65 0 [1, 4, 10]), (1000003, mb 65 0 [1, 4, 10, 40, 41, 42]), (1000000, mb 65 0 [4, 5, 6]), (3000016, mb 65 0 [4, 10]), (4000016, mb 65 0 [62]), (5000013, mb 65 0 [50]), (5000015, mb 65 0 [58])]⟩
theorem dw56_13 (lv : Nat) (env : List V) (st : Store) (o : Option (List V × Store)) : drawR en56.ms 13 lv env st o = if lv < 1000000000000000000000000000000 then (if (!(st (lv, 50)).live && true) = true then (o) else none) else none := nr rfl
theorem kl56_13 (lv : Nat) (st : Store) : killR en56.ms 13 lv st = killAt (st) (lv, 50) := nr rfl
theorem nc56_13 : ncOf en56.ms 13 = false := nr rfl
theorem dw56_15 (lv : Nat) (env : List V) (st : Store) (o : Option (List V × Store)) : drawR en56.ms 15 lv env st o = if lv < 1000000000000000000000000000000 then (if (!(st (lv, 58)).live && true) = true then (o) else none) else none := nr rfl
theorem kl56_15 (lv : Nat) (st : Store) : killR en56.ms 15 lv st = killAt (st) (lv, 58) := nr rfl
theorem nc56_15 : ncOf en56.ms 15 = false := nr rfl
theorem dw56_16 (lv : Nat) (env : List V) (st : Store) (o : Option (List V × Store)) : drawR en56.ms 16 lv env st o = if lv < 1000000000000000000000000000000 then (if apartAll (sel (mb 65 0 [4, 10]) env) = true ∧ freeAll (sel (mb 65 0 [62]) env) = true then o else none) else none := nr rfl
theorem kl56_16 (lv : Nat) (st : Store) : killR en56.ms 16 lv st = st := nr rfl
theorem nc56_16 : ncOf en56.ms 16 = false := nr rfl
theorem mk56_1 (vs : List V) : mask (maskOf en56.ms 1) vs = km 65 0 [1, 4, 10, 40, 41, 42] vs := mask_mb _ _ _ _
theorem mk56_1000001 (vs : List V) : mask (maskOf en56.ms 1000001) vs = km 65 0 [1, 2, 4, 7] vs := mask_mb _ _ _ _
theorem mk56_1000002 (vs : List V) : mask (maskOf en56.ms 1000002) vs = km 65 0 [1, 4, 10] vs := mask_mb _ _ _ _
theorem mk56_1000003 (vs : List V) : mask (maskOf en56.ms 1000003) vs = km 65 0 [1, 4, 10, 40, 41, 42] vs := mask_mb _ _ _ _
theorem mk56_1000000 (vs : List V) : mask (maskOf en56.ms 1000000) vs = km 65 0 [4, 5, 6] vs := mask_mb _ _ _ _
theorem fz56_1 (lv : Nat) (f : Run) : frzF en56.ms lv 1 f = f := nr rfl
theorem fi56_1 (lv : Nat) (env : List V) (st : Store) (q : Store → Out) : frzI en56.ms lv 1 env st q = q st := nr rfl
noncomputable def lb56_1 : Code := loopN Try.f56 0
end Go.Proofs.Ytnojehmbiceceaa.E
end
section
set_option linter.unusedVariables false
set_option linter.unusedSimpArgs false
set_option maxRecDepth 100000
namespace Go.Proofs.Ytnojehmbiceceaa.E
open Go.Ev
noncomputable def en60 : Entry := ⟨Try.f60, [(0, mb 49 0 [7, 9, 34, 35, 36]), (1000001, mb 49 0 [9]), (1000002, mb 49 0 [7, 9, 34, 35, 36]), (1000000, mb 49 0 [4, 5])]⟩
theorem mk60_0 (vs : List V) : mask (maskOf en60.ms 0) vs = km 49 0 [7, 9, 34, 35, 36] vs := mask_mb _ _ _ _
theorem mk60_1000001 (vs : List V) : mask (maskOf en60.ms 1000001) vs = km 49 0 [9] vs := mask_mb _ _ _ _
theorem mk60_1000002 (vs : List V) : mask (maskOf en60.ms 1000002) vs = km 49 0 [7, 9, 34, 35, 36] vs := mask_mb _ _ _ _
theorem mk60_1000000 (vs : List V) : mask (maskOf en60.ms 1000000) vs = km 49 0 [4, 5] vs := mask_mb _ _ _ _
theorem fz60_0 (lv : Nat) (f : Run) : frzF en60.ms lv 0 f = f := nr rfl
theorem fi60_0 (lv : Nat) (env : List V) (st : Store) (q : Store → Out) : frzI en60.ms lv 0 env st q = q st := nr rfl
noncomputable def lb60_0 : Code := loopN Try.f60 0
end Go.Proofs.Ytnojehmbiceceaa.E
end
section
set_option linter.unusedVariables false
set_option linter.unusedSimpArgs false
set_option maxRecDepth 100000
namespace Go.Proofs.Ytnojehmbiceceaa.E
open Go.Ev
noncomputable def en94 : Entry := ⟨Try.f94, [(1000000, mb 8 0 [2])]⟩
theorem mk94_1000000 (vs : List V) : mask (maskOf en94.ms 1000000) vs = km 8 0 [2] vs := mask_mb _ _ _ _
end Go.Proofs.Ytnojehmbiceceaa.E
end
section
set_option linter.unusedVariables false
set_option linter.unusedSimpArgs false
set_option maxRecDepth 100000
namespace Go.Proofs.Ytnojehmbiceceaa.E
open Go.Ev
noncomputable def en124 : Entry := ⟨Try.f124, [(1000000, mb 8 0 [2])]⟩
theorem mk124_1000000 (vs : List V) : mask (maskOf en124.ms 1000000) vs = km 8 0 [2] vs := mask_mb _ _ _ _
end Go.Proofs.Ytnojehmbiceceaa.E
end
section
set_option linter.unusedVariables false
set_option linter.unusedSimpArgs false
set_option maxRecDepth 100000
namespace Go.Proofs.Ytnojehmbiceceaa.E
open Go.Ev
noncomputable def en125 : Entry := ⟨Try.f125, [(1000000, mb 22 0 [4])]⟩
theorem mk125_1000000 (vs : List V) : mask (maskOf en125.ms 1000000) vs = km 22 0 [4] vs := mask_mb _ _ _ _
end Go.Proofs.Ytnojehmbiceceaa.E
end
section
set_option linter.unusedVariables false
set_option linter.unusedSimpArgs false
set_option maxRecDepth 100000
namespace Go.Proofs.Ytnojehmbiceceaa.E
open Go.Ev
noncomputable def en138 : Entry := ⟨Try.f138, [(0, mb 34 0 [6, 19, 20, 21]), (1000001, mb 34 0 [6]), (1000002, mb 34 0 [6, 19, 20, 21]), (1000000, mb 34 0 [4, 5])]⟩
theorem mk138_0 (vs : List V) : mask (maskOf en138.ms 0) vs = km 34 0 [6, 19, 20, 21] vs := mask_mb _ _ _ _
theorem mk138_1000001 (vs : List V) : mask (maskOf en138.ms 1000001) vs = km 34 0 [6] vs := mask_mb _ _ _ _
theorem mk138_1000002 (vs : List V) : mask (maskOf en138.ms 1000002) vs = km 34 0 [6, 19, 20, 21] vs := mask_mb _ _ _ _
theorem mk138_1000000 (vs : List V) : mask (maskOf en138.ms 1000000) vs = km 34 0 [4, 5] vs := mask_mb _ _ _ _
theorem fz138_0 (lv : Nat) (f : Run) : frzF en138.ms lv 0 f = f := nr rfl
theorem fi138_0 (lv : Nat) (env : List V) (st : Store) (q : Store → Out) : frzI en138.ms lv 0 env st q = q st := nr rfl
noncomputable def lb138_0 : Code := loopN Try.f138 0
end Go.Proofs.Ytnojehmbiceceaa.E
end
section
set_option linter.unusedVariables false
set_option linter.unusedSimpArgs false
set_option maxRecDepth 100000
namespace Go.Proofs.Ytnojehmbiceceaa.E
open Go.Ev
noncomputable def en139 : Entry := ⟨Try.f139, [(0, mb 90 0 [0, 1, 16, 17, 18]), (3, mb 90 0 [0, 67, 68, 69]), (1000001, mb 90 0 [0, 1]), (1000002, mb 90 0 [0, 1, 16, 17, 18]), (1000003, mb 90 0 [0, 1, 16, 17, 18]), (1000004, mb 90 0 [0]), (1000005, mb 90 0 [0, 67, 68, 69]), (1000000, mb 90 0 [4])]⟩
theorem mk139_0 (vs : List V) : mask (maskOf en139.ms 0) vs = km 90 0 [0, 1, 16, 17, 18] vs := mask_mb _ _ _ _
theorem mk139_3 (vs : List V) : mask (maskOf en139.ms 3) vs = km 90 0 [0, 67, 68, 69] vs := mask_mb _ _ _ _
theorem mk139_1000001 (vs : List V) : mask (maskOf en139.ms 1000001) vs = km 90 0 [0, 1] vs := mask_mb _ _ _ _
theorem mk139_1000002 (vs : List V) : mask (maskOf en139.ms 1000002) vs = km 90 0 [0, 1, 16, 17, 18] vs := mask_mb _ _ _ _
theorem mk139_1000003 (vs : List V) : mask (maskOf en139.ms 1000003) vs = km 90 0 [0, 1, 16, 17, 18] vs := mask_mb _ _ _ _
theorem mk139_1000004 (vs : List V) : mask (maskOf en139.ms 1000004) vs = km 90 0 [0] vs := mask_mb _ _ _ _
theorem mk139_1000005 (vs : List V) : mask (maskOf en139.ms 1000005) vs = km 90 0 [0, 67, 68, 69] vs := mask_mb _ _ _ _
theorem mk139_1000000 (vs : List V) : mask (maskOf en139.ms 1000000) vs = km 90 0 [4] vs := mask_mb _ _ _ _
theorem fz139_0 (lv : Nat) (f : Run) : frzF en139.ms lv 0 f = f := nr rfl
theorem fi139_0 (lv : Nat) (env : List V) (st : Store) (q : Store → Out) : frzI en139.ms lv 0 env st q = q st := nr rfl
theorem fz139_3 (lv : Nat) (f : Run) : frzF en139.ms lv 3 f = f := nr rfl
theorem fi139_3 (lv : Nat) (env : List V) (st : Store) (q : Store → Out) : frzI en139.ms lv 3 env st q = q st := nr rfl
noncomputable def lb139_0 : Code := loopN Try.f139 0
noncomputable def lb139_3 : Code := loopN Try.f139 1
end Go.Proofs.Ytnojehmbiceceaa.E
end
section
set_option linter.unusedVariables false
set_option linter.unusedSimpArgs false
set_option maxRecDepth 100000
namespace Go.Proofs.Ytnojehmbiceceaa.E
open Go.Ev
noncomputable def en146 : Entry := ⟨Try.f146, [(1000000, mb 4 0 [2])]⟩
theorem mk146_1000000 (vs : List V) : mask (maskOf en146.ms 1000000) vs = km 4 0 [2] vs := mask_mb _ _ _ _
end Go.Proofs.Ytnojehmbiceceaa.E
end
section
set_option linter.unusedVariables false
set_option linter.unusedSimpArgs false
set_option maxRecDepth 100000
namespace Go.Proofs.Ytnojehmbiceceaa.E
open Go.Ev
noncomputable def en193 : Entry := ⟨Try.f193, [(1000001, mb 37 0 []), (1000000, mb 37 0 [2])]⟩
theorem mk193_1000001 (vs : List V) : mask (maskOf en193.ms 1000001) vs = km 37 0 [] vs := mask_mb _ _ _ _
theorem mk193_1000000 (vs : List V) : mask (maskOf en193.ms 1000000) vs = km 37 0 [2] vs := mask_mb _ _ _ _
end Go.Proofs.Ytnojehmbiceceaa.E
end
section
set_option linter.unusedVariables false
set_option linter.unusedSimpArgs false
set_option maxRecDepth 100000
namespace Go.Proofs.Ytnojehmbiceceaa.E
open Go.Ev
noncomputable def en197 : Entry := ⟨Try.f197, [(1000001, mb 31 0 []), (1000000, mb 31 0 [2])]⟩
theorem mk197_1000001 (vs : List V) : mask (maskOf en197.ms 1000001) vs = km 31 0 [] vs := mask_mb _ _ _ _
theorem mk197_1000000 (vs : List V) : mask (maskOf en197.ms 1000000) vs = km 31 0 [2] vs := mask_mb _ _ _ _
end Go.Proofs.Ytnojehmbiceceaa.E
end
section
set_option linter.unusedVariables false
set_option linter.unusedSimpArgs false
set_option maxRecDepth 100000
namespace Go.Proofs.Ytnojehmbiceceaa.E
open Go.Ev
noncomputable def en200 : Entry := ⟨Try.f200, [(0, mb 14 0 [0, 5]), (1000001, mb 14 0 []), (1000002, mb 14 0 [0, 5]), (1000000, mb 14 0 [])]⟩
theorem mk200_0 (vs : List V) : mask (maskOf en200.ms 0) vs = km 14 0 [0, 5] vs := mask_mb _ _ _ _
theorem mk200_1000001 (vs : List V) : mask (maskOf en200.ms 1000001) vs = km 14 0 [] vs := mask_mb _ _ _ _
theorem mk200_1000002 (vs : List V) : mask (maskOf en200.ms 1000002) vs = km 14 0 [0, 5] vs := mask_mb _ _ _ _
theorem mk200_1000000 (vs : List V) : mask (maskOf en200.ms 1000000) vs = km 14 0 [] vs := mask_mb _ _ _ _
theorem fz200_0 (lv : Nat) (f : Run) : frzF en200.ms lv 0 f = f := nr rfl
theorem fi200_0 (lv : Nat) (env : List V) (st : Store) (q : Store → Out) : frzI en200.ms lv 0 env st q = q st := nr rfl
noncomputable def lb200_0 : Code := loopN Try.f200 0
end Go.Proofs.Ytnojehmbiceceaa.E
end
section
set_option linter.unusedVariables false
set_option linter.unusedSimpArgs false
set_option maxRecDepth 100000
namespace Go.Proofs.Ytnojehmbiceceaa.E
open Go.Ev
noncomputable def en100 : Entry := ⟨Try.f100, [(0, mb 18 0 [3, 6, 7, 8]), (1000001, mb 18 0 [3]), (1000002, mb 18 0 [3, 6, 7, 8]), (1000000, mb 18 0 [2])]⟩
theorem mk100_0 (vs : List V) : mask (maskOf en100.ms 0) vs = km 18 0 [3, 6, 7, 8] vs := mask_mb _ _ _ _
theorem mk100_1000001 (vs : List V) : mask (maskOf en100.ms 1000001) vs = km 18 0 [3] vs := mask_mb _ _ _ _
theorem mk100_1000002 (vs : List V) : mask (maskOf en100.ms 1000002) vs = km 18 0 [3, 6, 7, 8] vs := mask_mb _ _ _ _
theorem mk100_1000000 (vs : List V) : mask (maskOf en100.ms 1000000) vs = km 18 0 [2] vs := mask_mb _ _ _ _
theorem fz100_0 (lv : Nat) (f : Run) : frzF en100.ms lv 0 f = f := nr rfl
theorem fi100_0 (lv : Nat) (env : List V) (st : Store) (q : Store → Out) : frzI en100.ms lv 0 env st q = q st := nr rfl
noncomputable def lb100_0 : Code := loopN Try.f100 0
end Go.Proofs.Ytnojehmbiceceaa.E
end
section
set_option linter.unusedVariables false
set_option linter.unusedSimpArgs false
set_option maxRecDepth 100000
namespace Go.Proofs.Ytnojehmbiceceaa.P
open Go.Ev Go.IntKind Go.Proofs.Ytnojehmbiceceaa Go.Proofs.Ytnojehmbiceceaa.Ty Go.Proofs.Ytnojehmbiceceaa.E
def p_cmp_Or_Errno_l0 (L : Nat)  : List Int → Option (Sum Unit Int)
  | [] => some (.inl ())
  | x1 :: tl => cb (decide (x1 = 0)) (p_cmp_Or_Errno_l0 L  tl) (some (.inr x1))
def p_cmp_Or_Errno (L : Nat) (a0 : List Int) : Option Int := rq (a0.length < L) <| bnd (p_cmp_Or_Errno_l0 L a0) fun o3 => match o3 with | (.inl o3_0) => (some 0) | (.inr o3_1) => (some o3_1)
attribute [local go_sem] Ev.putR_s Ev.putR_0 Ev.thenO_s Ev.thenO_0 Ev.seqR_n Ev.seqR_e Ev.seqR_r Ev.seqR_0 Ev.blkR_e Ev.blkR_n Ev.blkR_r Ev.blkR_0 Ev.normR_s Ev.normR_0 Ev.outR_r Ev.outR_n Ev.outR_0 Ev.retS_s Ev.retS_0 Ev.pureO_s Ev.pureO_0 Ev.topR_0 Ev.topR_t Ev.topR_t0 Ev.oneL_0 Ev.oneL_s Ev.topR_d Ev.topR_nils Ev.topR_agg Ev.topR_rs Ev.evOp_move Ev.evOp_assign Ev.evOp_pick Ev.evOp_alloc Ev.evOp_box Ev.evOp_build Ev.evOp_buildSlice Ev.evOp_load Ev.evOp_store Ev.evOp_makeMap Ev.evOp_lookup Ev.evOp_mapUpdate Ev.evOp_insert Ev.evOp_nilCheck Ev.evOp_binOp Ev.evOp_unOp Ev.evOp_convert Ev.evOp_makeFunc Ev.evOp_makeSlice Ev.evOp_slice Ev.evOp_fieldAddr Ev.evOp_field Ev.evOp_indexAddr Ev.evOp_index Ev.evOp_extract Ev.evOp_call Ev.evOp_append Ev.evOp_clear Ev.evOp_len Ev.evLen_d Ev.evLen_rs Ev.evLen_nils Ev.evLen_nila Ev.evLen_mp Ev.evOp_min Ev.evOp_max Ev.condR_b Ev.condR_t Ev.evOps_nil Ev.evOps_plain Ev.evOps_guard Ev.runG_eq Ev.skipG_eq Ev.condL_tt Ev.condL_ff Ev.condL_tf Ev.condL_ft Ev.condL_u Ev.condC_t Ev.condC_f Ev.evC_skip Ev.evC_ret Ev.evC_exit Ev.evC_label Ev.evC_region Ev.evC_draw Ev.evC_seq Ev.evC_cond Ev.evC_block Ev.evC_loop Ev.fin_d Ev.fin_nila Ev.fin_nils Ev.fin_agg_ Ev.fin_rs Ev.finS_s Ev.mapO_fin Ev.upd_upd Ev.argv_d Ev.argv_nila Ev.argv_nils Ev.argv_agg Ev.argv_rs Ev.argv_p Ev.fk_low Ev.appendTo_nils Ev.appendTo_nila Ev.appendTo_rs Ev.consV_d Ev.consV_agg Ev.consV_p Ev.consV_rs Ev.consV_nila Ev.consV_nils Ev.consV_fn Ev.consV_und Ev.consV_jk Ev.consV_grown Ev.topR_grown Ev.len_grown Ev.consV_nilm Ev.consV_mp Ev.sameK_i Ev.sameK_s Ev.mget_0 Ev.mget_hit Ev.mget_miss Ev.mput_0 Ev.mput_hit Ev.mput_miss Ev.apartAll Ev.apartL Ev.apartV Ev.freeAll Ev.sel Ev.keyOfV Ev.evLookup Ev.evPut Ev.hintOk Ev.keyOk Ev.consP Ev.lookV Ev.guardV Ev.dstAt Ev.evPure Ev.evStore Ev.evBin Ev.evBinO Ev.evNil Ev.isNilC Ev.evUn Ev.evConv Ev.evSlice Ev.optI Ev.foldI Ev.capsOk Ev.noTup Ev.nth Ev.setN Ev.killAt Ev.pad Ev.V.get Ev.V.put Ev.putD Ev.newBlk Ev.upd Ev.keq Ev.empty Ev.evCall Ev.V.args Ev.argP Ev.callOf Ev.evNilP Ev.isNilP Ev.look Ev.V.view.views Ev.V.view Ev.V.toD Ev.V.toD.V.toDs Ev.V.pure.pures Ev.V.pure Ev.D.flat.flats Ev.D.flat Ev.mkAgg Ev.allD Ev.aggParts Ev.setParts Ev.setElems Ev.getPath Ev.setPath Ev.subL Ev.eqD Ev.eqD.eqDs Ev.and2 Ev.strCut Ev.evalT Ev.constT Ev.evArgs Ev.mask Ev.maskOf Ev.tableOf Ev.compT Ev.resV Ev.retV Ev.mapO Ev.eT_nils Ev.ag_t Ev.ag_f Ev.ag_0 Ev.ag_n Ev.mx_u64 Ev.mx_u32 Ev.mx_u16 Ev.mx_u8 Ev.sg_i64 Ev.sg_i32 Ev.sg_i16 Ev.sg_i8 Ev.sg_u64 Ev.sg_u32 Ev.sg_u16 Ev.sg_u8 Ev.mapE_i Ev.mapV_nil Ev.hT_nilm Ev.mget_map Ev.mput_map Ev.mapV_put Ev.mapV_half Ev.hT_nila Ev.eO_nila Ev.pL_nila Ev.evLen_gl Ev.r_nila Ev.frzO_n Ev.frzO_e Ev.frzO_r Ev.frzO_0 Ev.mb_z Ev.mb_0 Ev.mb_s Ev.frzL_t Ev.frzL_f Ev.frzL_0 Ev.frzT_nils Ev.frzT_rs Ev.frzT_p Ev.frzK_i Ev.keyIn_i Ev.rI_nil Ev.rI_cons Ev.rI_row Ev.rI_app Ev.r_d Ev.r_nils Ev.r_agg Ev.r_rs Ev.r_gl Ev.vw_row Ev.vw_app Ev.appO_s Ev.frzT_gl Ev.allD_gl Ev.killAt_i Ev.tkOne_i Ev.hT_agg Ev.hT_vagg Ev.hT_int Ev.hT_bool Ev.hT_str Ev.hT_sl Ev.hT_ptr Ev.hT_np Ev.hT_p Ev.hT_rs Ev.hT_mp Ev.hT_nils Ev.hT_fn Ev.hT_jk Ev.hT_gl Ev.eO_sl Ev.eO_nils Ev.eO_rs Ev.eT_sl Ev.eT_rs Ev.pL_str Ev.pL_sl Ev.pL_rs Ev.pL_nils Ev.pL_min Ev.pL_max Ev.len_glB Ev.noTup_gl Ev.rowV_len Ev.rowV_nil Ev.rowV_cons Ev.rowV_append Ev.rowV_set Ev.rowV_replicate Ev.nth_row Ev.row_take Ev.row_drop Ev.toDs_row Ev.fin_row Ev.map_row Ev.map_take_ Ev.map_drop_ Ev.Bk_i Ev.GlB_0 Ev.GlB_mk Ev.gl_nil Ev.gl_cons Ev.gl_snoc Ev.gl_setN Ev.appendTo_gl Ev.consV_gl Ev.elems_gl Ev.fin_gl Ev.view_gl Ev.argv_gl Ev.topR_gl Ev.sp_z Ev.sp_0 Ev.sp_s Ev.km_z Ev.km_0 Ev.km_s Ev.beq_toList Ev.nc0 Ev.bq_t Ev.bq_f Ev.bodyN Ev.le_maxRow Int.cast_ofNat_Int IntWalk.i64_in IntWalk.u64_in IntWalk.u8_in beq_self_eq_true Bool.true_beq Bool.false_beq Bool.and_true Bool.true_and Bool.false_and Bool.and_false Bool.and_self Bool.not_true Bool.not_false Bool.not_eq_true cond_true cond_false if_true if_false and_true true_and and_self decide_true decide_false Bool.or_true Bool.true_or Bool.or_false Bool.false_or List.isEmpty List.isEmpty_nil List.size_toArray List.map List.length_map List.length_cons List.length_nil Option.map Option.bind Option.getD Option.isSome List.replicate Bool.false_eq_true implies_true false_implies forall_const Array.toList Array.isEmpty List.append List.nil_append List.cons_append List.drop_zero List.take_length List.take_succ_cons List.take_zero List.take_nil List.getElem?_map List.getElem?_cons_zero List.getElem?_cons_succ List.getElem?_nil List.append_nil eq_self Int.toNat_natCast List.length_append List.length_set Nat.zero_add Nat.add_zero List.length_replicate Nat.sub_zero Option.map_some Option.map_none Int.le_refl Nat.le_refl Int.natCast_nonneg List.map_append
attribute [local go_sem_proc] Nat.reduceAdd Nat.reduceSub Nat.reduceMul Nat.reduceEqDiff Nat.reduceBEq Nat.reduceLT Nat.reduceLeDiff Nat.reducePow Int.reduceToNat Int.reduceLT Int.reduceLE Int.reduceGT Int.reduceGE Int.reduceEq Int.reduceNeg Int.reduceAdd Int.reduceSub Int.reduceMul reduceCtorEq
attribute [local go_sem_proc ↓] reduceIte
noncomputable def G_cmp_Or_Errno (L : Nat) : Specs := []
noncomputable def T_cmp_Or_Errno : Table := tableOf [(100, en100)]
theorem Go_cmp_Or_Errno (L : Nat) (hL : L ≤ 4611686018427387904) : ∀ g s, Ev.look (G_cmp_Or_Errno L) g = some s → SpecOk Try.prog g s := specs_nil
theorem To_cmp_Or_Errno (L : Nat) : TableOk Try.prog ((G_cmp_Or_Errno L).map (·.1)) T_cmp_Or_Errno := (table_cons Try.func100 (by kernel_rfl) (by kernel_rfl) table_nil)
attribute [local go_sem] Ty.tk3 Ty.ik3 Ty.ek3 Ty.zv3 Ty.by3 Ty.so3 Ty.tk4 Ty.ub4 Ty.ek4 Ty.zv4 Ty.by4 Ty.so4 Ty.tk27 Ty.ik27 Ty.ek27 Ty.zv27 Ty.by27 Ty.so27 Ty.tk195 Ty.zv195 Ty.by195 Ty.so195 Ty.k195_e E.mk100_0 E.mk100_1000001 E.mk100_1000002 E.mk100_1000000 E.fz100_0 E.fi100_0 E.lb100_0 loopN loops Try.f100
def Q0_p_cmp_Or_Errno_l0 (a0 : List Int) (u : Unit) (z : Out) : Prop := ∃ env st, z = some (.exit 0, env, st) ∧ env = sp 18 0 [(3, .d (.int .i64 0))]
def Q1_p_cmp_Or_Errno_l0 (a0 : List Int) (u : Int) (z : Out) : Prop := ∃ env st, z = some (.ret, env, st) ∧ env = sp 18 0 [(2, .d (.int .i64 u))]
def Q_p_cmp_Or_Errno_l0 (a0 : List Int) (o : Sum Unit Int) (z : Out) : Prop := match o with | (.inl u) => Q0_p_cmp_Or_Errno_l0 a0 u z | (.inr u) => Q1_p_cmp_Or_Errno_l0 a0 u z
theorem l_p_cmp_Or_Errno_l0 (L : Nat) (hL : L ≤ 4611686018427387904) (a0 : List Int) : ∀ (tl : List Int) (n : Nat) (s2 : Int) (env : List V) (st : Store) (o : Sum Unit Int), tl.length < n → Rng a0 s2 tl → mask (maskOf en100.ms 0) env = sp 18 0 [(3, .d (.int .i64 0)), (6, .d (.sl 27 (a0.map (D.int .i64)))), (7, .d (.int .i64 (a0.length : Int))), (8, .d (.int .i64 s2))] → p_cmp_Or_Errno_l0 L  tl  = some o →
    Q_p_cmp_Or_Errno_l0 a0 o (iter (evC Try.prog (G_cmp_Or_Errno L) (evF Try.prog (G_cmp_Or_Errno L) T_cmp_Or_Errno L 0) L en100.ms 0 0 lb100_0) (maskOf en100.ms 0) n env st) := by
  intro tl
  induction tl with
  | nil =>
    intro n s2  env st o hn hR he  h
    obtain ⟨n, rfl⟩ : ∃ m, n = m + 1 := ⟨n - 1, by omega⟩
    have g0 := rng_nil hR
    rw [iter, he]
    clear he
    generalize hK : iter _ _ n = K
    rw [p_cmp_Or_Errno_l0] at h
    revert h
    rintro ⟨⟩
    simp only [go_sem, *]
    refine (⟨_, _, rfl, ?_⟩ : Q0_p_cmp_Or_Errno_l0 _ _ _)
    all_goals simp only [go_sem, *]
  | cons x1 tl ih =>
    intro n s2  env st o hn hR he  h
    obtain ⟨n, rfl⟩ : ∃ m, n = m + 1 := ⟨n - 1, by omega⟩
    replace ih : Hold _ := ih
    replace hR := rng_s hR
    obtain ⟨g0, g1, g2, g3, hR⟩ := hR
    rw [iter, he]
    clear he
    generalize hK : iter _ _ n = K
    rw [p_cmp_Or_Errno_l0] at h
    revert h
    refine cb_i (fun c1 => ?_) (fun c1 => ?_)
    · intro h
      simp only [go_sem, *]
      subst hK
      refine ih n (s2 + 1)  _ _ _ (by simp only [List.length_cons] at hn; omega) hR ?_ h
      all_goals simp only [go_sem, *]
    · rintro ⟨⟩
      simp only [go_sem, *]
      refine (⟨_, _, rfl, ?_⟩ : Q1_p_cmp_Or_Errno_l0 _ _ _)
      all_goals simp only [go_sem, *]
theorem e_cmp_Or_Errno (L : Nat) (hL : L ≤ 4611686018427387904) (a0 : List Int) (res : Int) (h : p_cmp_Or_Errno L a0 = some res) : evTop Try.prog (G_cmp_Or_Errno L) T_cmp_Or_Errno L 1 100 [.sl 27 (a0.map (D.int .i64))] = some [.int .i64 res] := by
  revert h
  unfold p_cmp_Or_Errno evTop
  simp only [List.map]
  rw [evF_s (fn := Try.f100) (msk := en100.ms) (hT := by rfl) (hb := by rfl)]
  refine rq_i fun c1 => ?_
  refine bnd_i fun o3 ho2 => ?_
  intro h
  simp only [go_sem, *]
  generalize hz4 : iter _ _ _ _ _ = z3
  have hq5 : Q_p_cmp_Or_Errno_l0 a0 o3 z3 := by
    rw [← hz4]
    refine l_p_cmp_Or_Errno_l0 L hL a0 a0 L 0  _ _ _ c1 (rng_0 c1 hL) ?_ ho2
    all_goals simp only [go_sem, *]
  clear hz4 ho2
  rcases o3 with o3_0 | o3_1
  · obtain ⟨_, st4, rfl, rfl⟩ := hq5
    dsimp only at h
    revert h
    rintro ⟨⟩
    simp only [go_sem, *]
  · obtain ⟨_, st5, rfl, rfl⟩ := hq5
    dsimp only at h
    revert h
    rintro ⟨⟩
    simp only [go_sem, *]
noncomputable def s_cmp_Or_Errno (L : Nat) : Ev.Spec := specP (cCons k195 cNil) (fun x => p_cmp_Or_Errno L x.1) (fun r => [.int .i64 r])
theorem s_cmp_Or_Errno_run (L : Nat) (a0 : List Int) : (s_cmp_Or_Errno L).run [.sl 27 (a0.map (D.int .i64))] = (p_cmp_Or_Errno L a0).map fun r => [.int .i64 r] := specP_run (cCons k195 cNil) (fun x => p_cmp_Or_Errno L x.1) (fun r => [.int .i64 r]) (a0, ())
theorem ok_cmp_Or_Errno (L : Nat) (hL : L ≤ 4611686018427387904) : SpecOk Try.prog 100 (s_cmp_Or_Errno L) := specP_ok mixed (Go_cmp_Or_Errno L hL) (To_cmp_Or_Errno L) fun x r h => ⟨L, 1, e_cmp_Or_Errno L hL x.1 r h⟩
def sk_cmp_Or_Errno : Ev.Spec := specK (c := (cCons k195 cNil)) (dCons (dL 27 (dI .i64)) dNil) (fun x => p_cmp_Or_Errno 1000 x.1) (fun r => [.int .i64 r])
theorem okk_cmp_Or_Errno : SpecOk Try.prog 100 sk_cmp_Or_Errno := specK_ok (dCons (dL 27 (dI .i64)) dNil) mixed (Go_cmp_Or_Errno 1000 (by decide)) (To_cmp_Or_Errno 1000) fun x r h => ⟨1000, 1, e_cmp_Or_Errno 1000 (by decide) x.1 r h⟩
end Go.Proofs.Ytnojehmbiceceaa.P
end
section
set_option linter.unusedVariables false
set_option linter.unusedSimpArgs false
set_option maxRecDepth 100000
namespace Go.Proofs.Ytnojehmbiceceaa.E
open Go.Ev
noncomputable def en122 : Entry := ⟨Try.f122, [(1000000, mb 5 0 [0])]⟩
theorem mk122_1000000 (vs : List V) : mask (maskOf en122.ms 1000000) vs = km 5 0 [0] vs := mask_mb _ _ _ _
end Go.Proofs.Ytnojehmbiceceaa.E
end
section
set_option linter.unusedVariables false
set_option linter.unusedSimpArgs false
set_option maxRecDepth 100000
namespace Go.Proofs.Ytnojehmbiceceaa.P
open Go.Ev Go.IntKind Go.Proofs.Ytnojehmbiceceaa Go.Proofs.Ytnojehmbiceceaa.Ty Go.Proofs.Ytnojehmbiceceaa.E
def p_spylaw3_one (L : Nat)  : Option (List (Int × (Int × ((Int × Int × Bool × Unit) × (Int × Int × Bool × Unit) × (Int × Int × Bool × Unit) × Unit) × (Int × Int × Bool × Unit) × (Int × Int × Bool × Unit) × (List Int) × Int × Unit) × Unit)) := some ([(1, (1, ((0, 0, false, ()), (0, 0, false, ()), (0, 0, false, ()), ()), (0, 0, false, ()), (0, 0, false, ()), [1], 0, ()), ())])
attribute [local go_sem] Ev.putR_s Ev.putR_0 Ev.thenO_s Ev.thenO_0 Ev.seqR_n Ev.seqR_e Ev.seqR_r Ev.seqR_0 Ev.blkR_e Ev.blkR_n Ev.blkR_r Ev.blkR_0 Ev.normR_s Ev.normR_0 Ev.outR_r Ev.outR_n Ev.outR_0 Ev.retS_s Ev.retS_0 Ev.pureO_s Ev.pureO_0 Ev.topR_0 Ev.topR_t Ev.topR_t0 Ev.oneL_0 Ev.oneL_s Ev.topR_d Ev.topR_nils Ev.topR_agg Ev.topR_rs Ev.evOp_move Ev.evOp_assign Ev.evOp_pick Ev.evOp_alloc Ev.evOp_box Ev.evOp_build Ev.evOp_buildSlice Ev.evOp_load Ev.evOp_store Ev.evOp_makeMap Ev.evOp_lookup Ev.evOp_mapUpdate Ev.evOp_insert Ev.evOp_nilCheck Ev.evOp_binOp Ev.evOp_unOp Ev.evOp_convert Ev.evOp_makeFunc Ev.evOp_makeSlice Ev.evOp_slice Ev.evOp_fieldAddr Ev.evOp_field Ev.evOp_indexAddr Ev.evOp_index Ev.evOp_extract Ev.evOp_call Ev.evOp_append Ev.evOp_clear Ev.evOp_len Ev.evLen_d Ev.evLen_rs Ev.evLen_nils Ev.evLen_nila Ev.evLen_mp Ev.evOp_min Ev.evOp_max Ev.condR_b Ev.condR_t Ev.evOps_nil Ev.evOps_plain Ev.evOps_guard Ev.runG_eq Ev.skipG_eq Ev.condL_tt Ev.condL_ff Ev.condL_tf Ev.condL_ft Ev.condL_u Ev.condC_t Ev.condC_f Ev.evC_skip Ev.evC_ret Ev.evC_exit Ev.evC_label Ev.evC_region Ev.evC_draw Ev.evC_seq Ev.evC_cond Ev.evC_block Ev.evC_loop Ev.fin_d Ev.fin_nila Ev.fin_nils Ev.fin_agg_ Ev.fin_rs Ev.finS_s Ev.mapO_fin Ev.upd_upd Ev.argv_d Ev.argv_nila Ev.argv_nils Ev.argv_agg Ev.argv_rs Ev.argv_p Ev.fk_low Ev.appendTo_nils Ev.appendTo_nila Ev.appendTo_rs Ev.consV_d Ev.consV_agg Ev.consV_p Ev.consV_rs Ev.consV_nila Ev.consV_nils Ev.consV_fn Ev.consV_und Ev.consV_jk Ev.consV_grown Ev.topR_grown Ev.len_grown Ev.consV_nilm Ev.consV_mp Ev.sameK_i Ev.sameK_s Ev.mget_0 Ev.mget_hit Ev.mget_miss Ev.mput_0 Ev.mput_hit Ev.mput_miss Ev.apartAll Ev.apartL Ev.apartV Ev.freeAll Ev.sel Ev.keyOfV Ev.evLookup Ev.evPut Ev.hintOk Ev.keyOk Ev.consP Ev.lookV Ev.guardV Ev.dstAt Ev.evPure Ev.evStore Ev.evBin Ev.evBinO Ev.evNil Ev.isNilC Ev.evUn Ev.evConv Ev.evSlice Ev.optI Ev.foldI Ev.capsOk Ev.noTup Ev.nth Ev.setN Ev.killAt Ev.pad Ev.V.get Ev.V.put Ev.putD Ev.newBlk Ev.upd Ev.keq Ev.empty Ev.evCall Ev.V.args Ev.argP Ev.callOf Ev.evNilP Ev.isNilP Ev.look Ev.V.view.views Ev.V.view Ev.V.toD Ev.V.toD.V.toDs Ev.V.pure.pures Ev.V.pure Ev.D.flat.flats Ev.D.flat Ev.mkAgg Ev.allD Ev.aggParts Ev.setParts Ev.setElems Ev.getPath Ev.setPath Ev.subL Ev.eqD Ev.eqD.eqDs Ev.and2 Ev.strCut Ev.evalT Ev.constT Ev.evArgs Ev.mask Ev.maskOf Ev.tableOf Ev.compT Ev.resV Ev.retV Ev.mapO Ev.eT_nils Ev.ag_t Ev.ag_f Ev.ag_0 Ev.ag_n Ev.mx_u64 Ev.mx_u32 Ev.mx_u16 Ev.mx_u8 Ev.sg_i64 Ev.sg_i32 Ev.sg_i16 Ev.sg_i8 Ev.sg_u64 Ev.sg_u32 Ev.sg_u16 Ev.sg_u8 Ev.mapE_i Ev.mapV_nil Ev.hT_nilm Ev.mget_map Ev.mput_map Ev.mapV_put Ev.mapV_half Ev.hT_nila Ev.eO_nila Ev.pL_nila Ev.evLen_gl Ev.r_nila Ev.frzO_n Ev.frzO_e Ev.frzO_r Ev.frzO_0 Ev.mb_z Ev.mb_0 Ev.mb_s Ev.frzL_t Ev.frzL_f Ev.frzL_0 Ev.frzT_nils Ev.frzT_rs Ev.frzT_p Ev.frzK_i Ev.keyIn_i Ev.rI_nil Ev.rI_cons Ev.rI_row Ev.rI_app Ev.r_d Ev.r_nils Ev.r_agg Ev.r_rs Ev.r_gl Ev.vw_row Ev.vw_app Ev.appO_s Ev.frzT_gl Ev.allD_gl Ev.killAt_i Ev.tkOne_i Ev.hT_agg Ev.hT_vagg Ev.hT_int Ev.hT_bool Ev.hT_str Ev.hT_sl Ev.hT_ptr Ev.hT_np Ev.hT_p Ev.hT_rs Ev.hT_mp Ev.hT_nils Ev.hT_fn Ev.hT_jk Ev.hT_gl Ev.eO_sl Ev.eO_nils Ev.eO_rs Ev.eT_sl Ev.eT_rs Ev.pL_str Ev.pL_sl Ev.pL_rs Ev.pL_nils Ev.pL_min Ev.pL_max Ev.len_glB Ev.noTup_gl Ev.rowV_len Ev.rowV_nil Ev.rowV_cons Ev.rowV_append Ev.rowV_set Ev.rowV_replicate Ev.nth_row Ev.row_take Ev.row_drop Ev.toDs_row Ev.fin_row Ev.map_row Ev.map_take_ Ev.map_drop_ Ev.Bk_i Ev.GlB_0 Ev.GlB_mk Ev.gl_nil Ev.gl_cons Ev.gl_snoc Ev.gl_setN Ev.appendTo_gl Ev.consV_gl Ev.elems_gl Ev.fin_gl Ev.view_gl Ev.argv_gl Ev.topR_gl Ev.sp_z Ev.sp_0 Ev.sp_s Ev.km_z Ev.km_0 Ev.km_s Ev.beq_toList Ev.nc0 Ev.bq_t Ev.bq_f Ev.bodyN Ev.le_maxRow Int.cast_ofNat_Int IntWalk.i64_in IntWalk.u64_in IntWalk.u8_in beq_self_eq_true Bool.true_beq Bool.false_beq Bool.and_true Bool.true_and Bool.false_and Bool.and_false Bool.and_self Bool.not_true Bool.not_false Bool.not_eq_true cond_true cond_false if_true if_false and_true true_and and_self decide_true decide_false Bool.or_true Bool.true_or Bool.or_false Bool.false_or List.isEmpty List.isEmpty_nil List.size_toArray List.map List.length_map List.length_cons List.length_nil Option.map Option.bind Option.getD Option.isSome List.replicate Bool.false_eq_true implies_true false_implies forall_const Array.toList Array.isEmpty List.append List.nil_append List.cons_append List.drop_zero List.take_length List.take_succ_cons List.take_zero List.take_nil List.getElem?_map List.getElem?_cons_zero List.getElem?_cons_succ List.getElem?_nil List.append_nil eq_self Int.toNat_natCast List.length_append List.length_set Nat.zero_add Nat.add_zero List.length_replicate Nat.sub_zero Option.map_some Option.map_none Int.le_refl Nat.le_refl Int.natCast_nonneg List.map_append
attribute [local go_sem_proc] Nat.reduceAdd Nat.reduceSub Nat.reduceMul Nat.reduceEqDiff Nat.reduceBEq Nat.reduceLT Nat.reduceLeDiff Nat.reducePow Int.reduceToNat Int.reduceLT Int.reduceLE Int.reduceGT Int.reduceGE Int.reduceEq Int.reduceNeg Int.reduceAdd Int.reduceSub Int.reduceMul reduceCtorEq
attribute [local go_sem_proc ↓] reduceIte
noncomputable def G_spylaw3_one (L : Nat) : Specs := []
noncomputable def T_spylaw3_one : Table := tableOf [(122, en122)]
theorem Go_spylaw3_one (L : Nat) (hL : L ≤ 4611686018427387904) : ∀ g s, Ev.look (G_spylaw3_one L) g = some s → SpecOk Try.prog g s := specs_nil
theorem To_spylaw3_one (L : Nat) : TableOk Try.prog ((G_spylaw3_one L).map (·.1)) T_spylaw3_one := (table_cons Try.func122 (by kernel_rfl) (by kernel_rfl) table_nil)
attribute [local go_sem] Ty.tk3 Ty.ik3 Ty.ek3 Ty.zv3 Ty.by3 Ty.so3 Ty.tk4 Ty.ub4 Ty.ek4 Ty.zv4 Ty.by4 Ty.so4 Ty.tk22 Ty.zv22 Ty.by22 Ty.so22 Ty.tk24 Ty.ik24 Ty.ek24 Ty.zv24 Ty.by24 Ty.so24 Ty.tk35 Ty.ct35 Ty.ek35 Ty.zv35 Ty.by35 Ty.so35 Ty.tk62 Ty.ik62 Ty.ek62 Ty.zv62 Ty.by62 Ty.so62 Ty.tk64 Ty.ct64 Ty.ek64 Ty.zv64 Ty.by64 Ty.so64 Ty.tk66 Ty.ct66 Ty.ek66 Ty.zv66 Ty.by66 Ty.so66 Ty.tk72 Ty.ik72 Ty.ek72 Ty.zv72 Ty.by72 Ty.so72 Ty.tk87 Ty.ct87 Ty.ek87 Ty.zv87 Ty.by87 Ty.so87 Ty.tk89 Ty.ct89 Ty.zv89 Ty.by89 Ty.so89 Ty.tk93 Ty.zv93 Ty.by93 Ty.so93 Ty.tk118 Ty.ct118 Ty.zv118 Ty.by118 Ty.so118 Ty.k22_e Ty.k35_e Ty.k64_e Ty.k66_e Ty.k87_e Ty.k89_e Ty.k93_e Ty.k118_e E.mk122_1000000 loopN loops Try.f122
theorem e_spylaw3_one (L : Nat) (hL : L ≤ 4611686018427387904)  (res : List (Int × (Int × ((Int × Int × Bool × Unit) × (Int × Int × Bool × Unit) × (Int × Int × Bool × Unit) × Unit) × (Int × Int × Bool × Unit) × (Int × Int × Bool × Unit) × (List Int) × Int × Unit) × Unit)) (h : p_spylaw3_one L  = some res) : evTop Try.prog (G_spylaw3_one L) T_spylaw3_one L 1 122 [] = some [.sl 118 (res.map k118.e)] := by
  revert h
  unfold p_spylaw3_one evTop
  simp only [List.map]
  rw [evF_s (fn := Try.f122) (msk := en122.ms) (hT := by rfl) (hb := by rfl)]
  rintro ⟨⟩
  simp only [go_sem, *]
noncomputable def s_spylaw3_one (L : Nat) : Ev.Spec := specP cNil (fun x => p_spylaw3_one L ) (fun r => [.sl 118 (r.map k118.e)])
theorem s_spylaw3_one_run (L : Nat)  : (s_spylaw3_one L).run [] = (p_spylaw3_one L ).map fun r => [.sl 118 (r.map k118.e)] := specP_run cNil (fun x => p_spylaw3_one L ) (fun r => [.sl 118 (r.map k118.e)]) (())
theorem ok_spylaw3_one (L : Nat) (hL : L ≤ 4611686018427387904) : SpecOk Try.prog 122 (s_spylaw3_one L) := specP_ok mixed (Go_spylaw3_one L hL) (To_spylaw3_one L) fun x r h => ⟨L, 1, e_spylaw3_one L hL  r h⟩
def sk_spylaw3_one : Ev.Spec := specK (c := cNil) dNil (fun x => p_spylaw3_one 1000 ) (fun r => [.sl 118 (r.map k118.e)])
theorem okk_spylaw3_one : SpecOk Try.prog 122 sk_spylaw3_one := specK_ok dNil mixed (Go_spylaw3_one 1000 (by decide)) (To_spylaw3_one 1000) fun x r h => ⟨1000, 1, e_spylaw3_one 1000 (by decide)  r h⟩
end Go.Proofs.Ytnojehmbiceceaa.P
end
section
set_option linter.unusedVariables false
set_option linter.unusedSimpArgs false
set_option maxRecDepth 100000
namespace Go.Proofs.Ytnojehmbiceceaa.E
open Go.Ev
noncomputable def en126 : Entry := ⟨Try.f126, [(1000000, mb 22 0 [4])]⟩
theorem mk126_1000000 (vs : List V) : mask (maskOf en126.ms 1000000) vs = km 22 0 [4] vs := mask_mb _ _ _ _
end Go.Proofs.Ytnojehmbiceceaa.E
end
section
set_option linter.unusedVariables false
set_option linter.unusedSimpArgs false
set_option maxRecDepth 100000
namespace Go.Proofs.Ytnojehmbiceceaa.P
open Go.Ev Go.IntKind Go.Proofs.Ytnojehmbiceceaa Go.Proofs.Ytnojehmbiceceaa.Ty Go.Proofs.Ytnojehmbiceceaa.E
def p_catalog_ends_Quanta (L : Nat) (a0_0 : Int) (a0_1 : Int) (a0_2 : Bool) (a1 : Int) : Option Int := bnd (p_bound_Check_Quanta L a0_0 a0_1 a0_2) fun r1 => cb (decide (r1 = 0)) (if a0_0 < (i64.wrap (0 - a1)) then (some 4) else (if a0_1 > a1 then (some 4) else (some 0))) (some r1)
attribute [local go_sem] Ev.putR_s Ev.putR_0 Ev.thenO_s Ev.thenO_0 Ev.seqR_n Ev.seqR_e Ev.seqR_r Ev.seqR_0 Ev.blkR_e Ev.blkR_n Ev.blkR_r Ev.blkR_0 Ev.normR_s Ev.normR_0 Ev.outR_r Ev.outR_n Ev.outR_0 Ev.retS_s Ev.retS_0 Ev.pureO_s Ev.pureO_0 Ev.topR_0 Ev.topR_t Ev.topR_t0 Ev.oneL_0 Ev.oneL_s Ev.topR_d Ev.topR_nils Ev.topR_agg Ev.topR_rs Ev.evOp_move Ev.evOp_assign Ev.evOp_pick Ev.evOp_alloc Ev.evOp_box Ev.evOp_build Ev.evOp_buildSlice Ev.evOp_load Ev.evOp_store Ev.evOp_makeMap Ev.evOp_lookup Ev.evOp_mapUpdate Ev.evOp_insert Ev.evOp_nilCheck Ev.evOp_binOp Ev.evOp_unOp Ev.evOp_convert Ev.evOp_makeFunc Ev.evOp_makeSlice Ev.evOp_slice Ev.evOp_fieldAddr Ev.evOp_field Ev.evOp_indexAddr Ev.evOp_index Ev.evOp_extract Ev.evOp_call Ev.evOp_append Ev.evOp_clear Ev.evOp_len Ev.evLen_d Ev.evLen_rs Ev.evLen_nils Ev.evLen_nila Ev.evLen_mp Ev.evOp_min Ev.evOp_max Ev.condR_b Ev.condR_t Ev.evOps_nil Ev.evOps_plain Ev.evOps_guard Ev.runG_eq Ev.skipG_eq Ev.condL_tt Ev.condL_ff Ev.condL_tf Ev.condL_ft Ev.condL_u Ev.condC_t Ev.condC_f Ev.evC_skip Ev.evC_ret Ev.evC_exit Ev.evC_label Ev.evC_region Ev.evC_draw Ev.evC_seq Ev.evC_cond Ev.evC_block Ev.evC_loop Ev.fin_d Ev.fin_nila Ev.fin_nils Ev.fin_agg_ Ev.fin_rs Ev.finS_s Ev.mapO_fin Ev.upd_upd Ev.argv_d Ev.argv_nila Ev.argv_nils Ev.argv_agg Ev.argv_rs Ev.argv_p Ev.fk_low Ev.appendTo_nils Ev.appendTo_nila Ev.appendTo_rs Ev.consV_d Ev.consV_agg Ev.consV_p Ev.consV_rs Ev.consV_nila Ev.consV_nils Ev.consV_fn Ev.consV_und Ev.consV_jk Ev.consV_grown Ev.topR_grown Ev.len_grown Ev.consV_nilm Ev.consV_mp Ev.sameK_i Ev.sameK_s Ev.mget_0 Ev.mget_hit Ev.mget_miss Ev.mput_0 Ev.mput_hit Ev.mput_miss Ev.apartAll Ev.apartL Ev.apartV Ev.freeAll Ev.sel Ev.keyOfV Ev.evLookup Ev.evPut Ev.hintOk Ev.keyOk Ev.consP Ev.lookV Ev.guardV Ev.dstAt Ev.evPure Ev.evStore Ev.evBin Ev.evBinO Ev.evNil Ev.isNilC Ev.evUn Ev.evConv Ev.evSlice Ev.optI Ev.foldI Ev.capsOk Ev.noTup Ev.nth Ev.setN Ev.killAt Ev.pad Ev.V.get Ev.V.put Ev.putD Ev.newBlk Ev.upd Ev.keq Ev.empty Ev.evCall Ev.V.args Ev.argP Ev.callOf Ev.evNilP Ev.isNilP Ev.look Ev.V.view.views Ev.V.view Ev.V.toD Ev.V.toD.V.toDs Ev.V.pure.pures Ev.V.pure Ev.D.flat.flats Ev.D.flat Ev.mkAgg Ev.allD Ev.aggParts Ev.setParts Ev.setElems Ev.getPath Ev.setPath Ev.subL Ev.eqD Ev.eqD.eqDs Ev.and2 Ev.strCut Ev.evalT Ev.constT Ev.evArgs Ev.mask Ev.maskOf Ev.tableOf Ev.compT Ev.resV Ev.retV Ev.mapO Ev.eT_nils Ev.ag_t Ev.ag_f Ev.ag_0 Ev.ag_n Ev.mx_u64 Ev.mx_u32 Ev.mx_u16 Ev.mx_u8 Ev.sg_i64 Ev.sg_i32 Ev.sg_i16 Ev.sg_i8 Ev.sg_u64 Ev.sg_u32 Ev.sg_u16 Ev.sg_u8 Ev.mapE_i Ev.mapV_nil Ev.hT_nilm Ev.mget_map Ev.mput_map Ev.mapV_put Ev.mapV_half Ev.hT_nila Ev.eO_nila Ev.pL_nila Ev.evLen_gl Ev.r_nila Ev.frzO_n Ev.frzO_e Ev.frzO_r Ev.frzO_0 Ev.mb_z Ev.mb_0 Ev.mb_s Ev.frzL_t Ev.frzL_f Ev.frzL_0 Ev.frzT_nils Ev.frzT_rs Ev.frzT_p Ev.frzK_i Ev.keyIn_i Ev.rI_nil Ev.rI_cons Ev.rI_row Ev.rI_app Ev.r_d Ev.r_nils Ev.r_agg Ev.r_rs Ev.r_gl Ev.vw_row Ev.vw_app Ev.appO_s Ev.frzT_gl Ev.allD_gl Ev.killAt_i Ev.tkOne_i Ev.hT_agg Ev.hT_vagg Ev.hT_int Ev.hT_bool Ev.hT_str Ev.hT_sl Ev.hT_ptr Ev.hT_np Ev.hT_p Ev.hT_rs Ev.hT_mp Ev.hT_nils Ev.hT_fn Ev.hT_jk Ev.hT_gl Ev.eO_sl Ev.eO_nils Ev.eO_rs Ev.eT_sl Ev.eT_rs Ev.pL_str Ev.pL_sl Ev.pL_rs Ev.pL_nils Ev.pL_min Ev.pL_max Ev.len_glB Ev.noTup_gl Ev.rowV_len Ev.rowV_nil Ev.rowV_cons Ev.rowV_append Ev.rowV_set Ev.rowV_replicate Ev.nth_row Ev.row_take Ev.row_drop Ev.toDs_row Ev.fin_row Ev.map_row Ev.map_take_ Ev.map_drop_ Ev.Bk_i Ev.GlB_0 Ev.GlB_mk Ev.gl_nil Ev.gl_cons Ev.gl_snoc Ev.gl_setN Ev.appendTo_gl Ev.consV_gl Ev.elems_gl Ev.fin_gl Ev.view_gl Ev.argv_gl Ev.topR_gl Ev.sp_z Ev.sp_0 Ev.sp_s Ev.km_z Ev.km_0 Ev.km_s Ev.beq_toList Ev.nc0 Ev.bq_t Ev.bq_f Ev.bodyN Ev.le_maxRow Int.cast_ofNat_Int IntWalk.i64_in IntWalk.u64_in IntWalk.u8_in beq_self_eq_true Bool.true_beq Bool.false_beq Bool.and_true Bool.true_and Bool.false_and Bool.and_false Bool.and_self Bool.not_true Bool.not_false Bool.not_eq_true cond_true cond_false if_true if_false and_true true_and and_self decide_true decide_false Bool.or_true Bool.true_or Bool.or_false Bool.false_or List.isEmpty List.isEmpty_nil List.size_toArray List.map List.length_map List.length_cons List.length_nil Option.map Option.bind Option.getD Option.isSome List.replicate Bool.false_eq_true implies_true false_implies forall_const Array.toList Array.isEmpty List.append List.nil_append List.cons_append List.drop_zero List.take_length List.take_succ_cons List.take_zero List.take_nil List.getElem?_map List.getElem?_cons_zero List.getElem?_cons_succ List.getElem?_nil List.append_nil eq_self Int.toNat_natCast List.length_append List.length_set Nat.zero_add Nat.add_zero List.length_replicate Nat.sub_zero Option.map_some Option.map_none Int.le_refl Nat.le_refl Int.natCast_nonneg List.map_append
attribute [local go_sem_proc] Nat.reduceAdd Nat.reduceSub Nat.reduceMul Nat.reduceEqDiff Nat.reduceBEq Nat.reduceLT Nat.reduceLeDiff Nat.reducePow Int.reduceToNat Int.reduceLT Int.reduceLE Int.reduceGT Int.reduceGE Int.reduceEq Int.reduceNeg Int.reduceAdd Int.reduceSub Int.reduceMul reduceCtorEq
attribute [local go_sem_proc ↓] reduceIte
noncomputable def G_catalog_ends_Quanta (L : Nat) : Specs := [(99, s_bound_Check_Quanta L)]
noncomputable def T_catalog_ends_Quanta : Table := tableOf [(126, en126)]
theorem Go_catalog_ends_Quanta (L : Nat) (hL : L ≤ 4611686018427387904) : ∀ g s, Ev.look (G_catalog_ends_Quanta L) g = some s → SpecOk Try.prog g s := (specs_cons (ok_bound_Check_Quanta L hL) specs_nil)
theorem To_catalog_ends_Quanta (L : Nat) : TableOk Try.prog ((G_catalog_ends_Quanta L).map (·.1)) T_catalog_ends_Quanta := (table_cons Try.func126 (by kernel_rfl) (by kernel_rfl) table_nil)
theorem lk_catalog_ends_Quanta_99 (L : Nat) : Ev.look (G_catalog_ends_Quanta L) 99 = some (s_bound_Check_Quanta L) := nr rfl
attribute [local go_sem] Ty.tk4 Ty.ub4 Ty.ek4 Ty.zv4 Ty.by4 Ty.so4 Ty.tk24 Ty.ik24 Ty.ek24 Ty.zv24 Ty.by24 Ty.so24 Ty.tk27 Ty.ik27 Ty.ek27 Ty.zv27 Ty.by27 Ty.so27 Ty.tk35 Ty.ct35 Ty.ek35 Ty.zv35 Ty.by35 Ty.so35 Ty.k35_e E.mk126_1000000 lk_catalog_ends_Quanta_99 s_bound_Check_Quanta_run loopN loops Try.f126
theorem e_catalog_ends_Quanta (L : Nat) (hL : L ≤ 4611686018427387904) (a0_0 : Int) (a0_1 : Int) (a0_2 : Bool) (a1 : Int) (res : Int) (h : p_catalog_ends_Quanta L a0_0 a0_1 a0_2 a1 = some res) : evTop Try.prog (G_catalog_ends_Quanta L) T_catalog_ends_Quanta L 1 126 [.agg 35 [.int .i64 a0_0, .int .i64 a0_1, .bool a0_2], .int .i64 a1] = some [.int .i64 res] := by
  revert h
  unfold p_catalog_ends_Quanta evTop
  simp only [List.map]
  rw [evF_s (fn := Try.f126) (msk := en126.ms) (hT := by rfl) (hb := by rfl)]
  refine bnd_i fun r1 c1 => ?_
  refine cb_i (fun c2 => ?_) (fun c2 => ?_)
  · refine ite_i (fun c3 => ?_) (fun c3 => ?_)
    · rintro ⟨⟩
      simp only [go_sem, *]
    · refine ite_i (fun c4 => ?_) (fun c4 => ?_)
      · rintro ⟨⟩
        simp only [go_sem, *]
      · rintro ⟨⟩
        simp only [go_sem, *]
  · rintro ⟨⟩
    simp only [go_sem, *]
noncomputable def s_catalog_ends_Quanta (L : Nat) : Ev.Spec := specP (cCons k35 (cCons (cI .i64) cNil)) (fun x => p_catalog_ends_Quanta L x.1.1 x.1.2.1 x.1.2.2.1 x.2.1) (fun r => [.int .i64 r])
theorem s_catalog_ends_Quanta_run (L : Nat) (a0_0 : Int) (a0_1 : Int) (a0_2 : Bool) (a1 : Int) : (s_catalog_ends_Quanta L).run [.agg 35 [.int .i64 a0_0, .int .i64 a0_1, .bool a0_2], .int .i64 a1] = (p_catalog_ends_Quanta L a0_0 a0_1 a0_2 a1).map fun r => [.int .i64 r] := specP_run (cCons k35 (cCons (cI .i64) cNil)) (fun x => p_catalog_ends_Quanta L x.1.1 x.1.2.1 x.1.2.2.1 x.2.1) (fun r => [.int .i64 r]) ((a0_0, a0_1, a0_2, ()), a1, ())
theorem ok_catalog_ends_Quanta (L : Nat) (hL : L ≤ 4611686018427387904) : SpecOk Try.prog 126 (s_catalog_ends_Quanta L) := specP_ok mixed (Go_catalog_ends_Quanta L hL) (To_catalog_ends_Quanta L) fun x r h => ⟨L, 1, e_catalog_ends_Quanta L hL x.1.1 x.1.2.1 x.1.2.2.1 x.2.1 r h⟩
def sk_catalog_ends_Quanta : Ev.Spec := specK (c := (cCons k35 (cCons (cI .i64) cNil))) (dCons (dA 35 (dCons (dI .i64) (dCons (dI .i64) (dCons dB dNil)))) (dCons (dI .i64) dNil)) (fun x => p_catalog_ends_Quanta 1000 x.1.1 x.1.2.1 x.1.2.2.1 x.2.1) (fun r => [.int .i64 r])
theorem okk_catalog_ends_Quanta : SpecOk Try.prog 126 sk_catalog_ends_Quanta := specK_ok (dCons (dA 35 (dCons (dI .i64) (dCons (dI .i64) (dCons dB dNil)))) (dCons (dI .i64) dNil)) mixed (Go_catalog_ends_Quanta 1000 (by decide)) (To_catalog_ends_Quanta 1000) fun x r h => ⟨1000, 1, e_catalog_ends_Quanta 1000 (by decide) x.1.1 x.1.2.1 x.1.2.2.1 x.2.1 r h⟩
end Go.Proofs.Ytnojehmbiceceaa.P
end
section
set_option linter.unusedVariables false
set_option linter.unusedSimpArgs false
set_option maxRecDepth 100000
namespace Go.Proofs.Ytnojehmbiceceaa.E
open Go.Ev
noncomputable def en127 : Entry := ⟨Try.f127, [(1000000, mb 22 0 [4])]⟩
theorem mk127_1000000 (vs : List V) : mask (maskOf en127.ms 1000000) vs = km 22 0 [4] vs := mask_mb _ _ _ _
end Go.Proofs.Ytnojehmbiceceaa.E
end
section
set_option linter.unusedVariables false
set_option linter.unusedSimpArgs false
set_option maxRecDepth 100000
namespace Go.Proofs.Ytnojehmbiceceaa.E
open Go.Ev
noncomputable def en194 : Entry := ⟨Try.f194, [(1000001, mb 37 0 []), (1000000, mb 37 0 [2])]⟩
theorem mk194_1000001 (vs : List V) : mask (maskOf en194.ms 1000001) vs = km 37 0 [] vs := mask_mb _ _ _ _
theorem mk194_1000000 (vs : List V) : mask (maskOf en194.ms 1000000) vs = km 37 0 [2] vs := mask_mb _ _ _ _
end Go.Proofs.Ytnojehmbiceceaa.E
end
section
set_option linter.unusedVariables false
set_option linter.unusedSimpArgs false
set_option maxRecDepth 100000
namespace Go.Proofs.Ytnojehmbiceceaa.P
open Go.Ev Go.IntKind Go.Proofs.Ytnojehmbiceceaa Go.Proofs.Ytnojehmbiceceaa.Ty Go.Proofs.Ytnojehmbiceceaa.E
def p_bound_Check_Tick (L : Nat) (a0_0 : Int) (a0_1 : Int) (a0_2 : Bool) : Option Int := cb a0_2 (cb (decide (a0_0 = 0)) (cb (decide (a0_1 = 0)) (if (minI a0_0 a0_1) < (-1152921504606846976) then (some 4) else (if (maxI a0_0 a0_1) > 1152921504606846976 then (some 4) else (if a0_0 > a0_1 then (some 11) else (some 0)))) (some 3)) (some 3)) (if (minI a0_0 a0_1) < (-1152921504606846976) then (some 4) else (if (maxI a0_0 a0_1) > 1152921504606846976 then (some 4) else (if a0_0 > a0_1 then (some 11) else (some 0))))
attribute [local go_sem] Ev.putR_s Ev.putR_0 Ev.thenO_s Ev.thenO_0 Ev.seqR_n Ev.seqR_e Ev.seqR_r Ev.seqR_0 Ev.blkR_e Ev.blkR_n Ev.blkR_r Ev.blkR_0 Ev.normR_s Ev.normR_0 Ev.outR_r Ev.outR_n Ev.outR_0 Ev.retS_s Ev.retS_0 Ev.pureO_s Ev.pureO_0 Ev.topR_0 Ev.topR_t Ev.topR_t0 Ev.oneL_0 Ev.oneL_s Ev.topR_d Ev.topR_nils Ev.topR_agg Ev.topR_rs Ev.evOp_move Ev.evOp_assign Ev.evOp_pick Ev.evOp_alloc Ev.evOp_box Ev.evOp_build Ev.evOp_buildSlice Ev.evOp_load Ev.evOp_store Ev.evOp_makeMap Ev.evOp_lookup Ev.evOp_mapUpdate Ev.evOp_insert Ev.evOp_nilCheck Ev.evOp_binOp Ev.evOp_unOp Ev.evOp_convert Ev.evOp_makeFunc Ev.evOp_makeSlice Ev.evOp_slice Ev.evOp_fieldAddr Ev.evOp_field Ev.evOp_indexAddr Ev.evOp_index Ev.evOp_extract Ev.evOp_call Ev.evOp_append Ev.evOp_clear Ev.evOp_len Ev.evLen_d Ev.evLen_rs Ev.evLen_nils Ev.evLen_nila Ev.evLen_mp Ev.evOp_min Ev.evOp_max Ev.condR_b Ev.condR_t Ev.evOps_nil Ev.evOps_plain Ev.evOps_guard Ev.runG_eq Ev.skipG_eq Ev.condL_tt Ev.condL_ff Ev.condL_tf Ev.condL_ft Ev.condL_u Ev.condC_t Ev.condC_f Ev.evC_skip Ev.evC_ret Ev.evC_exit Ev.evC_label Ev.evC_region Ev.evC_draw Ev.evC_seq Ev.evC_cond Ev.evC_block Ev.evC_loop Ev.fin_d Ev.fin_nila Ev.fin_nils Ev.fin_agg_ Ev.fin_rs Ev.finS_s Ev.mapO_fin Ev.upd_upd Ev.argv_d Ev.argv_nila Ev.argv_nils Ev.argv_agg Ev.argv_rs Ev.argv_p Ev.fk_low Ev.appendTo_nils Ev.appendTo_nila Ev.appendTo_rs Ev.consV_d Ev.consV_agg Ev.consV_p Ev.consV_rs Ev.consV_nila Ev.consV_nils Ev.consV_fn Ev.consV_und Ev.consV_jk Ev.consV_grown Ev.topR_grown Ev.len_grown Ev.consV_nilm Ev.consV_mp Ev.sameK_i Ev.sameK_s Ev.mget_0 Ev.mget_hit Ev.mget_miss Ev.mput_0 Ev.mput_hit Ev.mput_miss Ev.apartAll Ev.apartL Ev.apartV Ev.freeAll Ev.sel Ev.keyOfV Ev.evLookup Ev.evPut Ev.hintOk Ev.keyOk Ev.consP Ev.lookV Ev.guardV Ev.dstAt Ev.evPure Ev.evStore Ev.evBin Ev.evBinO Ev.evNil Ev.isNilC Ev.evUn Ev.evConv Ev.evSlice Ev.optI Ev.foldI Ev.capsOk Ev.noTup Ev.nth Ev.setN Ev.killAt Ev.pad Ev.V.get Ev.V.put Ev.putD Ev.newBlk Ev.upd Ev.keq Ev.empty Ev.evCall Ev.V.args Ev.argP Ev.callOf Ev.evNilP Ev.isNilP Ev.look Ev.V.view.views Ev.V.view Ev.V.toD Ev.V.toD.V.toDs Ev.V.pure.pures Ev.V.pure Ev.D.flat.flats Ev.D.flat Ev.mkAgg Ev.allD Ev.aggParts Ev.setParts Ev.setElems Ev.getPath Ev.setPath Ev.subL Ev.eqD Ev.eqD.eqDs Ev.and2 Ev.strCut Ev.evalT Ev.constT Ev.evArgs Ev.mask Ev.maskOf Ev.tableOf Ev.compT Ev.resV Ev.retV Ev.mapO Ev.eT_nils Ev.ag_t Ev.ag_f Ev.ag_0 Ev.ag_n Ev.mx_u64 Ev.mx_u32 Ev.mx_u16 Ev.mx_u8 Ev.sg_i64 Ev.sg_i32 Ev.sg_i16 Ev.sg_i8 Ev.sg_u64 Ev.sg_u32 Ev.sg_u16 Ev.sg_u8 Ev.mapE_i Ev.mapV_nil Ev.hT_nilm Ev.mget_map Ev.mput_map Ev.mapV_put Ev.mapV_half Ev.hT_nila Ev.eO_nila Ev.pL_nila Ev.evLen_gl Ev.r_nila Ev.frzO_n Ev.frzO_e Ev.frzO_r Ev.frzO_0 Ev.mb_z Ev.mb_0 Ev.mb_s Ev.frzL_t Ev.frzL_f Ev.frzL_0 Ev.frzT_nils Ev.frzT_rs Ev.frzT_p Ev.frzK_i Ev.keyIn_i Ev.rI_nil Ev.rI_cons Ev.rI_row Ev.rI_app Ev.r_d Ev.r_nils Ev.r_agg Ev.r_rs Ev.r_gl Ev.vw_row Ev.vw_app Ev.appO_s Ev.frzT_gl Ev.allD_gl Ev.killAt_i Ev.tkOne_i Ev.hT_agg Ev.hT_vagg Ev.hT_int Ev.hT_bool Ev.hT_str Ev.hT_sl Ev.hT_ptr Ev.hT_np Ev.hT_p Ev.hT_rs Ev.hT_mp Ev.hT_nils Ev.hT_fn Ev.hT_jk Ev.hT_gl Ev.eO_sl Ev.eO_nils Ev.eO_rs Ev.eT_sl Ev.eT_rs Ev.pL_str Ev.pL_sl Ev.pL_rs Ev.pL_nils Ev.pL_min Ev.pL_max Ev.len_glB Ev.noTup_gl Ev.rowV_len Ev.rowV_nil Ev.rowV_cons Ev.rowV_append Ev.rowV_set Ev.rowV_replicate Ev.nth_row Ev.row_take Ev.row_drop Ev.toDs_row Ev.fin_row Ev.map_row Ev.map_take_ Ev.map_drop_ Ev.Bk_i Ev.GlB_0 Ev.GlB_mk Ev.gl_nil Ev.gl_cons Ev.gl_snoc Ev.gl_setN Ev.appendTo_gl Ev.consV_gl Ev.elems_gl Ev.fin_gl Ev.view_gl Ev.argv_gl Ev.topR_gl Ev.sp_z Ev.sp_0 Ev.sp_s Ev.km_z Ev.km_0 Ev.km_s Ev.beq_toList Ev.nc0 Ev.bq_t Ev.bq_f Ev.bodyN Ev.le_maxRow Int.cast_ofNat_Int IntWalk.i64_in IntWalk.u64_in IntWalk.u8_in beq_self_eq_true Bool.true_beq Bool.false_beq Bool.and_true Bool.true_and Bool.false_and Bool.and_false Bool.and_self Bool.not_true Bool.not_false Bool.not_eq_true cond_true cond_false if_true if_false and_true true_and and_self decide_true decide_false Bool.or_true Bool.true_or Bool.or_false Bool.false_or List.isEmpty List.isEmpty_nil List.size_toArray List.map List.length_map List.length_cons List.length_nil Option.map Option.bind Option.getD Option.isSome List.replicate Bool.false_eq_true implies_true false_implies forall_const Array.toList Array.isEmpty List.append List.nil_append List.cons_append List.drop_zero List.take_length List.take_succ_cons List.take_zero List.take_nil List.getElem?_map List.getElem?_cons_zero List.getElem?_cons_succ List.getElem?_nil List.append_nil eq_self Int.toNat_natCast List.length_append List.length_set Nat.zero_add Nat.add_zero List.length_replicate Nat.sub_zero Option.map_some Option.map_none Int.le_refl Nat.le_refl Int.natCast_nonneg List.map_append
attribute [local go_sem_proc] Nat.reduceAdd Nat.reduceSub Nat.reduceMul Nat.reduceEqDiff Nat.reduceBEq Nat.reduceLT Nat.reduceLeDiff Nat.reducePow Int.reduceToNat Int.reduceLT Int.reduceLE Int.reduceGT Int.reduceGE Int.reduceEq Int.reduceNeg Int.reduceAdd Int.reduceSub Int.reduceMul reduceCtorEq
attribute [local go_sem_proc ↓] reduceIte
noncomputable def G_bound_Check_Tick (L : Nat) : Specs := []
noncomputable def T_bound_Check_Tick : Table := tableOf [(194, en194)]
theorem Go_bound_Check_Tick (L : Nat) (hL : L ≤ 4611686018427387904) : ∀ g s, Ev.look (G_bound_Check_Tick L) g = some s → SpecOk Try.prog g s := specs_nil
theorem To_bound_Check_Tick (L : Nat) : TableOk Try.prog ((G_bound_Check_Tick L).map (·.1)) T_bound_Check_Tick := (table_cons Try.func194 (by kernel_rfl) (by kernel_rfl) table_nil)
attribute [local go_sem] Ty.tk4 Ty.ub4 Ty.ek4 Ty.zv4 Ty.by4 Ty.so4 Ty.tk27 Ty.ik27 Ty.ek27 Ty.zv27 Ty.by27 Ty.so27 Ty.tk72 Ty.ik72 Ty.ek72 Ty.zv72 Ty.by72 Ty.so72 Ty.tk87 Ty.ct87 Ty.ek87 Ty.zv87 Ty.by87 Ty.so87 Ty.k87_e E.mk194_1000001 E.mk194_1000000 loopN loops Try.f194
theorem e_bound_Check_Tick (L : Nat) (hL : L ≤ 4611686018427387904) (a0_0 : Int) (a0_1 : Int) (a0_2 : Bool) (res : Int) (h : p_bound_Check_Tick L a0_0 a0_1 a0_2 = some res) : evTop Try.prog (G_bound_Check_Tick L) T_bound_Check_Tick L 1 194 [.agg 87 [.int .i64 a0_0, .int .i64 a0_1, .bool a0_2]] = some [.int .i64 res] := by
  revert h
  unfold p_bound_Check_Tick evTop
  simp only [List.map]
  rw [evF_s (fn := Try.f194) (msk := en194.ms) (hT := by rfl) (hb := by rfl)]
  refine cb_i (fun c1 => ?_) (fun c1 => ?_)
  · refine cb_i (fun c2 => ?_) (fun c2 => ?_)
    · refine cb_i (fun c3 => ?_) (fun c3 => ?_)
      · refine ite_i (fun c4 => ?_) (fun c4 => ?_)
        · rintro ⟨⟩
          simp only [go_sem, *]
        · refine ite_i (fun c5 => ?_) (fun c5 => ?_)
          · rintro ⟨⟩
            simp only [go_sem, *]
          · refine ite_i (fun c6 => ?_) (fun c6 => ?_)
            · rintro ⟨⟩
              simp only [go_sem, *]
            · rintro ⟨⟩
              simp only [go_sem, *]
      · rintro ⟨⟩
        simp only [go_sem, *]
    · rintro ⟨⟩
      simp only [go_sem, *]
  · refine ite_i (fun c7 => ?_) (fun c7 => ?_)
    · rintro ⟨⟩
      simp only [go_sem, *]
    · refine ite_i (fun c8 => ?_) (fun c8 => ?_)
      · rintro ⟨⟩
        simp only [go_sem, *]
      · refine ite_i (fun c9 => ?_) (fun c9 => ?_)
        · rintro ⟨⟩
          simp only [go_sem, *]
        · rintro ⟨⟩
          simp only [go_sem, *]
noncomputable def s_bound_Check_Tick (L : Nat) : Ev.Spec := specP (cCons k87 cNil) (fun x => p_bound_Check_Tick L x.1.1 x.1.2.1 x.1.2.2.1) (fun r => [.int .i64 r])
theorem s_bound_Check_Tick_run (L : Nat) (a0_0 : Int) (a0_1 : Int) (a0_2 : Bool) : (s_bound_Check_Tick L).run [.agg 87 [.int .i64 a0_0, .int .i64 a0_1, .bool a0_2]] = (p_bound_Check_Tick L a0_0 a0_1 a0_2).map fun r => [.int .i64 r] := specP_run (cCons k87 cNil) (fun x => p_bound_Check_Tick L x.1.1 x.1.2.1 x.1.2.2.1) (fun r => [.int .i64 r]) ((a0_0, a0_1, a0_2, ()), ())
theorem ok_bound_Check_Tick (L : Nat) (hL : L ≤ 4611686018427387904) : SpecOk Try.prog 194 (s_bound_Check_Tick L) := specP_ok mixed (Go_bound_Check_Tick L hL) (To_bound_Check_Tick L) fun x r h => ⟨L, 1, e_bound_Check_Tick L hL x.1.1 x.1.2.1 x.1.2.2.1 r h⟩
end Go.Proofs.Ytnojehmbiceceaa.P
end
section
set_option linter.unusedVariables false
set_option linter.unusedSimpArgs false
set_option maxRecDepth 100000
namespace Go.Proofs.Ytnojehmbiceceaa.P
open Go.Ev Go.IntKind Go.Proofs.Ytnojehmbiceceaa Go.Proofs.Ytnojehmbiceceaa.Ty Go.Proofs.Ytnojehmbiceceaa.E
def p_catalog_ends_Tick (L : Nat) (a0_0 : Int) (a0_1 : Int) (a0_2 : Bool) (a1 : Int) : Option Int := bnd (p_bound_Check_Tick L a0_0 a0_1 a0_2) fun r1 => cb (decide (r1 = 0)) (if a0_0 < (i64.wrap (0 - a1)) then (some 4) else (if a0_1 > a1 then (some 4) else (some 0))) (some r1)
attribute [local go_sem] Ev.putR_s Ev.putR_0 Ev.thenO_s Ev.thenO_0 Ev.seqR_n Ev.seqR_e Ev.seqR_r Ev.seqR_0 Ev.blkR_e Ev.blkR_n Ev.blkR_r Ev.blkR_0 Ev.normR_s Ev.normR_0 Ev.outR_r Ev.outR_n Ev.outR_0 Ev.retS_s Ev.retS_0 Ev.pureO_s Ev.pureO_0 Ev.topR_0 Ev.topR_t Ev.topR_t0 Ev.oneL_0 Ev.oneL_s Ev.topR_d Ev.topR_nils Ev.topR_agg Ev.topR_rs Ev.evOp_move Ev.evOp_assign Ev.evOp_pick Ev.evOp_alloc Ev.evOp_box Ev.evOp_build Ev.evOp_buildSlice Ev.evOp_load Ev.evOp_store Ev.evOp_makeMap Ev.evOp_lookup Ev.evOp_mapUpdate Ev.evOp_insert Ev.evOp_nilCheck Ev.evOp_binOp Ev.evOp_unOp Ev.evOp_convert Ev.evOp_makeFunc Ev.evOp_makeSlice Ev.evOp_slice Ev.evOp_fieldAddr Ev.evOp_field Ev.evOp_indexAddr Ev.evOp_index Ev.evOp_extract Ev.evOp_call Ev.evOp_append Ev.evOp_clear Ev.evOp_len Ev.evLen_d Ev.evLen_rs Ev.evLen_nils Ev.evLen_nila Ev.evLen_mp Ev.evOp_min Ev.evOp_max Ev.condR_b Ev.condR_t Ev.evOps_nil Ev.evOps_plain Ev.evOps_guard Ev.runG_eq Ev.skipG_eq Ev.condL_tt Ev.condL_ff Ev.condL_tf Ev.condL_ft Ev.condL_u Ev.condC_t Ev.condC_f Ev.evC_skip Ev.evC_ret Ev.evC_exit Ev.evC_label Ev.evC_region Ev.evC_draw Ev.evC_seq Ev.evC_cond Ev.evC_block Ev.evC_loop Ev.fin_d Ev.fin_nila Ev.fin_nils Ev.fin_agg_ Ev.fin_rs Ev.finS_s Ev.mapO_fin Ev.upd_upd Ev.argv_d Ev.argv_nila Ev.argv_nils Ev.argv_agg Ev.argv_rs Ev.argv_p Ev.fk_low Ev.appendTo_nils Ev.appendTo_nila Ev.appendTo_rs Ev.consV_d Ev.consV_agg Ev.consV_p Ev.consV_rs Ev.consV_nila Ev.consV_nils Ev.consV_fn Ev.consV_und Ev.consV_jk Ev.consV_grown Ev.topR_grown Ev.len_grown Ev.consV_nilm Ev.consV_mp Ev.sameK_i Ev.sameK_s Ev.mget_0 Ev.mget_hit Ev.mget_miss Ev.mput_0 Ev.mput_hit Ev.mput_miss Ev.apartAll Ev.apartL Ev.apartV Ev.freeAll Ev.sel Ev.keyOfV Ev.evLookup Ev.evPut Ev.hintOk Ev.keyOk Ev.consP Ev.lookV Ev.guardV Ev.dstAt Ev.evPure Ev.evStore Ev.evBin Ev.evBinO Ev.evNil Ev.isNilC Ev.evUn Ev.evConv Ev.evSlice Ev.optI Ev.foldI Ev.capsOk Ev.noTup Ev.nth Ev.setN Ev.killAt Ev.pad Ev.V.get Ev.V.put Ev.putD Ev.newBlk Ev.upd Ev.keq Ev.empty Ev.evCall Ev.V.args Ev.argP Ev.callOf Ev.evNilP Ev.isNilP Ev.look Ev.V.view.views Ev.V.view Ev.V.toD Ev.V.toD.V.toDs Ev.V.pure.pures Ev.V.pure Ev.D.flat.flats Ev.D.flat Ev.mkAgg Ev.allD Ev.aggParts Ev.setParts Ev.setElems Ev.getPath Ev.setPath Ev.subL Ev.eqD Ev.eqD.eqDs Ev.and2 Ev.strCut Ev.evalT Ev.constT Ev.evArgs Ev.mask Ev.maskOf Ev.tableOf Ev.compT Ev.resV Ev.retV Ev.mapO Ev.eT_nils Ev.ag_t Ev.ag_f Ev.ag_0 Ev.ag_n Ev.mx_u64 Ev.mx_u32 Ev.mx_u16 Ev.mx_u8 Ev.sg_i64 Ev.sg_i32 Ev.sg_i16 Ev.sg_i8 Ev.sg_u64 Ev.sg_u32 Ev.sg_u16 Ev.sg_u8 Ev.mapE_i Ev.mapV_nil Ev.hT_nilm Ev.mget_map Ev.mput_map Ev.mapV_put Ev.mapV_half Ev.hT_nila Ev.eO_nila Ev.pL_nila Ev.evLen_gl Ev.r_nila Ev.frzO_n Ev.frzO_e Ev.frzO_r Ev.frzO_0 Ev.mb_z Ev.mb_0 Ev.mb_s Ev.frzL_t Ev.frzL_f Ev.frzL_0 Ev.frzT_nils Ev.frzT_rs Ev.frzT_p Ev.frzK_i Ev.keyIn_i Ev.rI_nil Ev.rI_cons Ev.rI_row Ev.rI_app Ev.r_d Ev.r_nils Ev.r_agg Ev.r_rs Ev.r_gl Ev.vw_row Ev.vw_app Ev.appO_s Ev.frzT_gl Ev.allD_gl Ev.killAt_i Ev.tkOne_i Ev.hT_agg Ev.hT_vagg Ev.hT_int Ev.hT_bool Ev.hT_str Ev.hT_sl Ev.hT_ptr Ev.hT_np Ev.hT_p Ev.hT_rs Ev.hT_mp Ev.hT_nils Ev.hT_fn Ev.hT_jk Ev.hT_gl Ev.eO_sl Ev.eO_nils Ev.eO_rs Ev.eT_sl Ev.eT_rs Ev.pL_str Ev.pL_sl Ev.pL_rs Ev.pL_nils Ev.pL_min Ev.pL_max Ev.len_glB Ev.noTup_gl Ev.rowV_len Ev.rowV_nil Ev.rowV_cons Ev.rowV_append Ev.rowV_set Ev.rowV_replicate Ev.nth_row Ev.row_take Ev.row_drop Ev.toDs_row Ev.fin_row Ev.map_row Ev.map_take_ Ev.map_drop_ Ev.Bk_i Ev.GlB_0 Ev.GlB_mk Ev.gl_nil Ev.gl_cons Ev.gl_snoc Ev.gl_setN Ev.appendTo_gl Ev.consV_gl Ev.elems_gl Ev.fin_gl Ev.view_gl Ev.argv_gl Ev.topR_gl Ev.sp_z Ev.sp_0 Ev.sp_s Ev.km_z Ev.km_0 Ev.km_s Ev.beq_toList Ev.nc0 Ev.bq_t Ev.bq_f Ev.bodyN Ev.le_maxRow Int.cast_ofNat_Int IntWalk.i64_in IntWalk.u64_in IntWalk.u8_in beq_self_eq_true Bool.true_beq Bool.false_beq Bool.and_true Bool.true_and Bool.false_and Bool.and_false Bool.and_self Bool.not_true Bool.not_false Bool.not_eq_true cond_true cond_false if_true if_false and_true true_and and_self decide_true decide_false Bool.or_true Bool.true_or Bool.or_false Bool.false_or List.isEmpty List.isEmpty_nil List.size_toArray List.map List.length_map List.length_cons List.length_nil Option.map Option.bind Option.getD Option.isSome List.replicate Bool.false_eq_true implies_true false_implies forall_const Array.toList Array.isEmpty List.append List.nil_append List.cons_append List.drop_zero List.take_length List.take_succ_cons List.take_zero List.take_nil List.getElem?_map List.getElem?_cons_zero List.getElem?_cons_succ List.getElem?_nil List.append_nil eq_self Int.toNat_natCast List.length_append List.length_set Nat.zero_add Nat.add_zero List.length_replicate Nat.sub_zero Option.map_some Option.map_none Int.le_refl Nat.le_refl Int.natCast_nonneg List.map_append
attribute [local go_sem_proc] Nat.reduceAdd Nat.reduceSub Nat.reduceMul Nat.reduceEqDiff Nat.reduceBEq Nat.reduceLT Nat.reduceLeDiff Nat.reducePow Int.reduceToNat Int.reduceLT Int.reduceLE Int.reduceGT Int.reduceGE Int.reduceEq Int.reduceNeg Int.reduceAdd Int.reduceSub Int.reduceMul reduceCtorEq
attribute [local go_sem_proc ↓] reduceIte
noncomputable def G_catalog_ends_Tick (L : Nat) : Specs := [(194, s_bound_Check_Tick L)]
noncomputable def T_catalog_ends_Tick : Table := tableOf [(127, en127)]
theorem Go_catalog_ends_Tick (L : Nat) (hL : L ≤ 4611686018427387904) : ∀ g s, Ev.look (G_catalog_ends_Tick L) g = some s → SpecOk Try.prog g s := (specs_cons (ok_bound_Check_Tick L hL) specs_nil)
theorem To_catalog_ends_Tick (L : Nat) : TableOk Try.prog ((G_catalog_ends_Tick L).map (·.1)) T_catalog_ends_Tick := (table_cons Try.func127 (by kernel_rfl) (by kernel_rfl) table_nil)
theorem lk_catalog_ends_Tick_194 (L : Nat) : Ev.look (G_catalog_ends_Tick L) 194 = some (s_bound_Check_Tick L) := nr rfl
attribute [local go_sem] Ty.tk4 Ty.ub4 Ty.ek4 Ty.zv4 Ty.by4 Ty.so4 Ty.tk27 Ty.ik27 Ty.ek27 Ty.zv27 Ty.by27 Ty.so27 Ty.tk72 Ty.ik72 Ty.ek72 Ty.zv72 Ty.by72 Ty.so72 Ty.tk87 Ty.ct87 Ty.ek87 Ty.zv87 Ty.by87 Ty.so87 Ty.k87_e E.mk127_1000000 lk_catalog_ends_Tick_194 s_bound_Check_Tick_run loopN loops Try.f127
theorem e_catalog_ends_Tick (L : Nat) (hL : L ≤ 4611686018427387904) (a0_0 : Int) (a0_1 : Int) (a0_2 : Bool) (a1 : Int) (res : Int) (h : p_catalog_ends_Tick L a0_0 a0_1 a0_2 a1 = some res) : evTop Try.prog (G_catalog_ends_Tick L) T_catalog_ends_Tick L 1 127 [.agg 87 [.int .i64 a0_0, .int .i64 a0_1, .bool a0_2], .int .i64 a1] = some [.int .i64 res] := by
  revert h
  unfold p_catalog_ends_Tick evTop
  simp only [List.map]
  rw [evF_s (fn := Try.f127) (msk := en127.ms) (hT := by rfl) (hb := by rfl)]
  refine bnd_i fun r1 c1 => ?_
  refine cb_i (fun c2 => ?_) (fun c2 => ?_)
  · refine ite_i (fun c3 => ?_) (fun c3 => ?_)
    · rintro ⟨⟩
      simp only [go_sem, *]
    · refine ite_i (fun c4 => ?_) (fun c4 => ?_)
      · rintro ⟨⟩
        simp only [go_sem, *]
      · rintro ⟨⟩
        simp only [go_sem, *]
  · rintro ⟨⟩
    simp only [go_sem, *]
noncomputable def s_catalog_ends_Tick (L : Nat) : Ev.Spec := specP (cCons k87 (cCons (cI .i64) cNil)) (fun x => p_catalog_ends_Tick L x.1.1 x.1.2.1 x.1.2.2.1 x.2.1) (fun r => [.int .i64 r])
theorem s_catalog_ends_Tick_run (L : Nat) (a0_0 : Int) (a0_1 : Int) (a0_2 : Bool) (a1 : Int) : (s_catalog_ends_Tick L).run [.agg 87 [.int .i64 a0_0, .int .i64 a0_1, .bool a0_2], .int .i64 a1] = (p_catalog_ends_Tick L a0_0 a0_1 a0_2 a1).map fun r => [.int .i64 r] := specP_run (cCons k87 (cCons (cI .i64) cNil)) (fun x => p_catalog_ends_Tick L x.1.1 x.1.2.1 x.1.2.2.1 x.2.1) (fun r => [.int .i64 r]) ((a0_0, a0_1, a0_2, ()), a1, ())
theorem ok_catalog_ends_Tick (L : Nat) (hL : L ≤ 4611686018427387904) : SpecOk Try.prog 127 (s_catalog_ends_Tick L) := specP_ok mixed (Go_catalog_ends_Tick L hL) (To_catalog_ends_Tick L) fun x r h => ⟨L, 1, e_catalog_ends_Tick L hL x.1.1 x.1.2.1 x.1.2.2.1 x.2.1 r h⟩
def sk_catalog_ends_Tick : Ev.Spec := specK (c := (cCons k87 (cCons (cI .i64) cNil))) (dCons (dA 87 (dCons (dI .i64) (dCons (dI .i64) (dCons dB dNil)))) (dCons (dI .i64) dNil)) (fun x => p_catalog_ends_Tick 1000 x.1.1 x.1.2.1 x.1.2.2.1 x.2.1) (fun r => [.int .i64 r])
theorem okk_catalog_ends_Tick : SpecOk Try.prog 127 sk_catalog_ends_Tick := specK_ok (dCons (dA 87 (dCons (dI .i64) (dCons (dI .i64) (dCons dB dNil)))) (dCons (dI .i64) dNil)) mixed (Go_catalog_ends_Tick 1000 (by decide)) (To_catalog_ends_Tick 1000) fun x r h => ⟨1000, 1, e_catalog_ends_Tick 1000 (by decide) x.1.1 x.1.2.1 x.1.2.2.1 x.2.1 r h⟩
end Go.Proofs.Ytnojehmbiceceaa.P
end
section
set_option linter.unusedVariables false
set_option linter.unusedSimpArgs false
set_option maxRecDepth 100000
namespace Go.Proofs.Ytnojehmbiceceaa.E
open Go.Ev
noncomputable def en132 : Entry := ⟨Try.f132, [(0, mb 26 0 [3, 8, 9]), (1000001, mb 26 0 [3]), (1000002, mb 26 0 [3, 8, 9]), (1000000, mb 26 0 [2])]⟩
theorem mk132_0 (vs : List V) : mask (maskOf en132.ms 0) vs = km 26 0 [3, 8, 9] vs := mask_mb _ _ _ _
theorem mk132_1000001 (vs : List V) : mask (maskOf en132.ms 1000001) vs = km 26 0 [3] vs := mask_mb _ _ _ _
theorem mk132_1000002 (vs : List V) : mask (maskOf en132.ms 1000002) vs = km 26 0 [3, 8, 9] vs := mask_mb _ _ _ _
theorem mk132_1000000 (vs : List V) : mask (maskOf en132.ms 1000000) vs = km 26 0 [2] vs := mask_mb _ _ _ _
theorem fz132_0 (lv : Nat) (f : Run) : frzF en132.ms lv 0 f = f := nr rfl
theorem fi132_0 (lv : Nat) (env : List V) (st : Store) (q : Store → Out) : frzI en132.ms lv 0 env st q = q st := nr rfl
noncomputable def lb132_0 : Code := loopN Try.f132 0
end Go.Proofs.Ytnojehmbiceceaa.E
end
section
set_option linter.unusedVariables false
set_option linter.unusedSimpArgs false
set_option maxRecDepth 100000
namespace Go.Proofs.Ytnojehmbiceceaa.E
open Go.Ev
noncomputable def en195 : Entry := ⟨Try.f195, [(1000000, mb 8 0 [2])]⟩
theorem mk195_1000000 (vs : List V) : mask (maskOf en195.ms 1000000) vs = km 8 0 [2] vs := mask_mb _ _ _ _
end Go.Proofs.Ytnojehmbiceceaa.E
end
