/- Parts of one proof, joined: G24, E29, E100, G100, E101, E178, G178, E179, G179, G101, E102, E180, G180, G102, E103, G103, G29, E30. -/
import Derived.Test.YtnojehmbiceceaaMLevelSubtracts8
import Derived.Test.YtnojehmbiceceaaProg
section
set_option linter.unusedVariables false
set_option linter.unusedSimpArgs false
set_option maxRecDepth 100000
namespace Go.Proofs.Ytnojehmbiceceaa.P
open Go.Ev Go.IntKind Go.Proofs.Ytnojehmbiceceaa Go.Proofs.Ytnojehmbiceceaa.Ty Go.Proofs.Ytnojehmbiceceaa.E
open Go.Proofs.Ytnojehmbiceceaa.K
def p_spylaw3_levels (L : Nat) : Option Bool := some true
attribute [local go_sem] Ev.putR_s Ev.putR_0 Ev.thenO_s Ev.thenO_0 Ev.seqR_n Ev.seqR_e Ev.seqR_r Ev.seqR_0 Ev.blkR_e Ev.blkR_n Ev.blkR_r Ev.blkR_0 Ev.normR_s Ev.normR_0 Ev.outR_r Ev.outR_n Ev.outR_0 Ev.retS_s Ev.retS_0 Ev.pureO_s Ev.pureO_0 Ev.topR_0 Ev.topR_t Ev.topR_t0 Ev.oneL_0 Ev.oneL_s Ev.topR_d Ev.topR_nils Ev.topR_agg Ev.topR_rs Ev.evOp_move Ev.evOp_assign Ev.evOp_pick Ev.evOp_alloc Ev.evOp_box Ev.evOp_build Ev.evOp_buildSlice Ev.evOp_load Ev.evOp_store Ev.evOp_makeMap Ev.evOp_lookup Ev.evOp_mapUpdate Ev.evOp_insert Ev.evOp_nilCheck Ev.evOp_binOp Ev.evOp_unOp Ev.evOp_convert Ev.evOp_makeFunc Ev.evOp_makeSlice Ev.evOp_slice Ev.evOp_fieldAddr Ev.evOp_field Ev.evOp_indexAddr Ev.evOp_index Ev.evOp_extract Ev.evOp_call Ev.evOp_append Ev.evOp_clear Ev.evOp_len Ev.evOp_min Ev.evOp_max Ev.condR_b Ev.condR_t Ev.evOps_nil Ev.evOps_plain Ev.evOps_guard Ev.runG_eq Ev.skipG_eq Ev.condL_tt Ev.condL_ff Ev.condL_tf Ev.condL_ft Ev.condL_u Ev.condC_t Ev.condC_f Ev.evC_skip Ev.evC_ret Ev.evC_exit Ev.evC_label Ev.evC_region Ev.evC_draw Ev.evC_seq Ev.evC_cond Ev.evC_block Ev.evC_loop Ev.fin_d Ev.fin_nils Ev.fin_agg_ Ev.fin_rs Ev.finS_s Ev.mapO_fin Ev.upd_upd Ev.argv_d Ev.argv_nils Ev.argv_agg Ev.argv_rs Ev.argv_p Ev.fk_low Ev.appendTo_nils Ev.appendTo_rs Ev.consV_d Ev.consV_agg Ev.consV_p Ev.consV_rs Ev.consV_nils Ev.consV_fn Ev.consV_und Ev.consV_jk Ev.consV_grown Ev.topR_grown Ev.len_grown Ev.consV_mp Ev.sameK_i Ev.sameK_s Ev.mget_0 Ev.mget_hit Ev.mget_miss Ev.mput_0 Ev.mput_hit Ev.mput_miss Ev.apartAll Ev.apartL Ev.apartV Ev.freeAll Ev.sel Ev.keyOfV Ev.evLookup Ev.evPut Ev.hintOk Ev.keyOk Ev.consP Ev.lookV Ev.guardV Ev.dstAt Ev.evPure Ev.evStore Ev.evBin Ev.evBinO Ev.evNil Ev.isNilC Ev.evUn Ev.evConv Ev.evSlice Ev.optI Ev.foldI Ev.capsOk Ev.noTup Ev.nth Ev.setN Ev.killAt Ev.pad Ev.V.get Ev.V.put Ev.putD Ev.newBlk Ev.upd Ev.keq Ev.empty Ev.evCall Ev.V.args Ev.argP Ev.callOf Ev.evNilP Ev.isNilP Ev.look Ev.V.view.views Ev.V.view Ev.V.toD Ev.V.toD.V.toDs Ev.V.pure.pures Ev.V.pure Ev.D.flat.flats Ev.D.flat Ev.mkAgg Ev.allD Ev.aggParts Ev.setParts Ev.setElems Ev.getPath Ev.setPath Ev.subL Ev.eqD Ev.eqD.eqDs Ev.and2 Ev.strCut Ev.evalT Ev.constT Ev.evArgs Ev.mask Ev.maskOf Ev.tableOf Ev.compT Ev.resV Ev.retV Ev.mapO Ev.frzO_n Ev.frzO_e Ev.frzO_r Ev.frzO_0 Ev.mb_z Ev.mb_0 Ev.mb_s Ev.frzL_t Ev.frzL_f Ev.frzL_0 Ev.frzT_nils Ev.frzT_rs Ev.frzT_p Ev.frzK_i Ev.keyIn_i Ev.rI_nil Ev.rI_cons Ev.rI_row Ev.rI_app Ev.r_d Ev.r_nils Ev.r_agg Ev.r_rs Ev.r_gl Ev.vw_row Ev.vw_app Ev.appO_s Ev.frzT_gl Ev.allD_gl Ev.killAt_i Ev.tkOne_i Ev.hT_agg Ev.hT_vagg Ev.hT_int Ev.hT_bool Ev.hT_str Ev.hT_sl Ev.hT_ptr Ev.hT_np Ev.hT_p Ev.hT_rs Ev.hT_mp Ev.hT_nils Ev.hT_fn Ev.hT_jk Ev.hT_gl Ev.eO_sl Ev.eO_nils Ev.eO_rs Ev.eT_sl Ev.eT_rs Ev.pL_str Ev.pL_sl Ev.pL_rs Ev.pL_nils Ev.pL_min Ev.pL_max Ev.len_glB Ev.noTup_gl Ev.rowV_len Ev.rowV_nil Ev.rowV_cons Ev.rowV_append Ev.rowV_set Ev.rowV_replicate Ev.nth_row Ev.row_take Ev.row_drop Ev.toDs_row Ev.fin_row Ev.map_row Ev.map_take_ Ev.map_drop_ Ev.Bk_i Ev.GlB_0 Ev.GlB_mk Ev.gl_nil Ev.gl_cons Ev.gl_snoc Ev.gl_setN Ev.appendTo_gl Ev.consV_gl Ev.elems_gl Ev.fin_gl Ev.view_gl Ev.argv_gl Ev.topR_gl Ev.sp_z Ev.sp_0 Ev.sp_s Ev.km_z Ev.km_0 Ev.km_s Ev.beq_toList Ev.nc0 Ev.bq_t Ev.bq_f Ev.bodyN Ev.le_maxRow Int.cast_ofNat_Int IntWalk.i64_in IntWalk.u64_in IntWalk.u8_in beq_self_eq_true Bool.true_beq Bool.false_beq Bool.and_true Bool.true_and Bool.false_and Bool.and_false Bool.and_self Bool.not_true Bool.not_false Bool.not_eq_true cond_true cond_false if_true if_false and_true true_and and_self decide_true decide_false Bool.or_true Bool.true_or Bool.or_false Bool.false_or List.isEmpty List.isEmpty_nil List.size_toArray List.map List.length_map List.length_cons List.length_nil Option.map Option.bind Option.getD Option.isSome List.replicate Bool.false_eq_true implies_true false_implies forall_const Array.toList Array.isEmpty List.append List.nil_append List.cons_append List.drop_zero List.take_length List.take_succ_cons List.take_zero List.take_nil List.getElem?_map List.getElem?_cons_zero List.getElem?_cons_succ List.getElem?_nil List.append_nil eq_self Int.toNat_natCast List.length_append Nat.zero_add Nat.add_zero List.length_replicate Nat.sub_zero Option.map_some Option.map_none Int.le_refl Nat.le_refl Int.natCast_nonneg List.map_append
def Gk_spylaw3_levels : Specs := [(21, sof), (91, sk_level_Witness_1), (174, sk_level_known_1), (221, sk_cmp_Less_int)]
noncomputable def T_spylaw3_levels : Table := tableOf [(24, en24), (22, en22), (25, en25), (88, en88), (89, en89), (90, en90), (94, en94), (95, en95), (96, en96), (99, en99), (173, en173), (176, en176), (177, en177), (214, en214), (215, en215), (216, en216), (217, en217), (218, en218), (219, en219), (220, en220), (222, en222), (223, en223), (224, en224), (225, en225), (250, en250), (251, en251), (252, en252), (253, en253), (254, en254), (255, en255), (256, en256), (263, en263), (264, en264), (267, en267)]
theorem Gko_spylaw3_levels : ∀ g s, Ev.look Gk_spylaw3_levels g = some s → SpecOk Try.prog g s := (specs_cons sof_ok (specs_cons okk_level_Witness_1 (specs_cons okk_level_known_1 (specs_cons okk_cmp_Less_int specs_nil))))
theorem To_spylaw3_levels : TableOk Try.prog (Gk_spylaw3_levels.map (·.1)) T_spylaw3_levels := (table_cons Try.func24 (by kernel_rfl) (by kernel_rfl) (table_cons Try.func22 (by kernel_rfl) (by kernel_rfl) (table_cons Try.func25 (by kernel_rfl) (by kernel_rfl) (table_cons Try.func88 (by kernel_rfl) (by kernel_rfl) (table_cons Try.func89 (by kernel_rfl) (by kernel_rfl) (table_cons Try.func90 (by kernel_rfl) (by kernel_rfl) (table_cons Try.func94 (by kernel_rfl) (by kernel_rfl) (table_cons Try.func95 (by kernel_rfl) (by kernel_rfl) (table_cons Try.func96 (by kernel_rfl) (by kernel_rfl) (table_cons Try.func99 (by kernel_rfl) (by kernel_rfl) (table_cons Try.func173 (by kernel_rfl) (by kernel_rfl) (table_cons Try.func176 (by kernel_rfl) (by kernel_rfl) (table_cons Try.func177 (by kernel_rfl) (by kernel_rfl) (table_cons Try.func214 (by kernel_rfl) (by kernel_rfl) (table_cons Try.func215 (by kernel_rfl) (by kernel_rfl) (table_cons Try.func216 (by kernel_rfl) (by kernel_rfl) (table_cons Try.func217 (by kernel_rfl) (by kernel_rfl) (table_cons Try.func218 (by kernel_rfl) (by kernel_rfl) (table_cons Try.func219 (by kernel_rfl) (by kernel_rfl) (table_cons Try.func220 (by kernel_rfl) (by kernel_rfl) (table_cons Try.func222 (by kernel_rfl) (by kernel_rfl) (table_cons Try.func223 (by kernel_rfl) (by kernel_rfl) (table_cons Try.func224 (by kernel_rfl) (by kernel_rfl) (table_cons Try.func225 (by kernel_rfl) (by kernel_rfl) (table_cons Try.func250 (by kernel_rfl) (by kernel_rfl) (table_cons Try.func251 (by kernel_rfl) (by kernel_rfl) (table_cons Try.func252 (by kernel_rfl) (by kernel_rfl) (table_cons Try.func253 (by kernel_rfl) (by kernel_rfl) (table_cons Try.func254 (by kernel_rfl) (by kernel_rfl) (table_cons Try.func255 (by kernel_rfl) (by kernel_rfl) (table_cons Try.func256 (by kernel_rfl) (by kernel_rfl) (table_cons Try.func263 (by kernel_rfl) (by kernel_rfl) (table_cons Try.func264 (by kernel_rfl) (by kernel_rfl) (table_cons Try.func267 (by kernel_rfl) (by kernel_rfl) table_nil))))))))))))))))))))))))))))))))))
theorem ek_spylaw3_levels : evTop Try.prog Gk_spylaw3_levels T_spylaw3_levels 1000 40 24 [] = some [.bool true] := by kernel_rfl
def s_spylaw3_levels (L : Nat) : Ev.Spec := ⟨fun xs => match xs with | [] => some [.bool true] | _ => none⟩
theorem s_spylaw3_levels_run (L : Nat) : (s_spylaw3_levels L).run [] = (p_spylaw3_levels L).map fun r => [.bool r] := rfl
theorem ok_spylaw3_levels (L : Nat) (hL : L ≤ 4611686018427387904) : SpecOk Try.prog 24 (s_spylaw3_levels L) := spec_of_ev mixed Gko_spylaw3_levels To_spylaw3_levels fun xs rs hr => by
  simp only [s_spylaw3_levels] at hr
  split at hr
  · cases hr; exact ⟨1000, 40, ek_spylaw3_levels⟩
  · cases hr
end Go.Proofs.Ytnojehmbiceceaa.P
end
section
set_option linter.unusedVariables false
set_option linter.unusedSimpArgs false
set_option maxRecDepth 100000
namespace Go.Proofs.Ytnojehmbiceceaa.E
open Go.Ev
noncomputable def en29 : Entry := ⟨Try.f29, [(0, mb 65 0 [3, 4, 8, 42, 43, 44]), (1000001, mb 65 0 [4, 8]), (1000002, mb 65 0 [3, 4, 8, 42, 43, 44]), (1000000, mb 65 0 [4, 5]), (5000014, mb 65 0 [60])]⟩
theorem dw29_14 (lv : Nat) (env : List V) (st : Store) (o : Option (List V × Store)) : drawR en29.ms 14 lv env st o = if lv < 1000000000000000000000000000000 then (if (!(st (lv, 60)).live && true) = true then (o) else none) else none := nr rfl
theorem kl29_14 (lv : Nat) (st : Store) : killR en29.ms 14 lv st = killAt (st) (lv, 60) := nr rfl
theorem nc29_14 : ncOf en29.ms 14 = false := nr rfl
theorem mk29_0 (vs : List V) : mask (maskOf en29.ms 0) vs = km 65 0 [3, 4, 8, 42, 43, 44] vs := mask_mb _ _ _ _
theorem mk29_1000001 (vs : List V) : mask (maskOf en29.ms 1000001) vs = km 65 0 [4, 8] vs := mask_mb _ _ _ _
theorem mk29_1000002 (vs : List V) : mask (maskOf en29.ms 1000002) vs = km 65 0 [3, 4, 8, 42, 43, 44] vs := mask_mb _ _ _ _
theorem mk29_1000000 (vs : List V) : mask (maskOf en29.ms 1000000) vs = km 65 0 [4, 5] vs := mask_mb _ _ _ _
theorem fz29_0 (lv : Nat) (f : Run) : frzF en29.ms lv 0 f = f := nr rfl
noncomputable def lb29_0 : Code := loopN Try.f29 0
end Go.Proofs.Ytnojehmbiceceaa.E
end
section
set_option linter.unusedVariables false
set_option linter.unusedSimpArgs false
set_option maxRecDepth 100000
namespace Go.Proofs.Ytnojehmbiceceaa.E
open Go.Ev
noncomputable def en100 : Entry := ⟨Try.f100, [(0, mb 18 0 [3, 6, 7, 8]), (1000001, mb 18 0 [3]), (1000002, mb 18 0 [3, 6, 7, 8]), (1000000, mb 18 0 [2])]⟩
theorem mk100_0 (vs : List V) : mask (maskOf en100.ms 0) vs = km 18 0 [3, 6, 7, 8] vs := mask_mb _ _ _ _
theorem mk100_1000001 (vs : List V) : mask (maskOf en100.ms 1000001) vs = km 18 0 [3] vs := mask_mb _ _ _ _
theorem mk100_1000002 (vs : List V) : mask (maskOf en100.ms 1000002) vs = km 18 0 [3, 6, 7, 8] vs := mask_mb _ _ _ _
theorem mk100_1000000 (vs : List V) : mask (maskOf en100.ms 1000000) vs = km 18 0 [2] vs := mask_mb _ _ _ _
theorem fz100_0 (lv : Nat) (f : Run) : frzF en100.ms lv 0 f = f := nr rfl
noncomputable def lb100_0 : Code := loopN Try.f100 0
end Go.Proofs.Ytnojehmbiceceaa.E
end
section
set_option linter.unusedVariables false
set_option linter.unusedSimpArgs false
set_option maxRecDepth 100000
namespace Go.Proofs.Ytnojehmbiceceaa.P
open Go.Ev Go.IntKind Go.Proofs.Ytnojehmbiceceaa Go.Proofs.Ytnojehmbiceceaa.Ty Go.Proofs.Ytnojehmbiceceaa.E
def p_cmp_Or_Errno_l0 (L : Nat)  : List Int → Option (Sum Unit Int)
  | [] => some (.inl ())
  | x1 :: tl => cb (decide (x1 = 0)) (p_cmp_Or_Errno_l0 L  tl) (some (.inr x1))
def p_cmp_Or_Errno (L : Nat) (a0 : List Int) : Option Int := rq (a0.length < L) <| bnd (p_cmp_Or_Errno_l0 L a0) fun o3 => match o3 with | (.inl o3_0) => (some 0) | (.inr o3_1) => (some o3_1)
attribute [local go_sem] Ev.putR_s Ev.putR_0 Ev.thenO_s Ev.thenO_0 Ev.seqR_n Ev.seqR_e Ev.seqR_r Ev.seqR_0 Ev.blkR_e Ev.blkR_n Ev.blkR_r Ev.blkR_0 Ev.normR_s Ev.normR_0 Ev.outR_r Ev.outR_n Ev.outR_0 Ev.retS_s Ev.retS_0 Ev.pureO_s Ev.pureO_0 Ev.topR_0 Ev.topR_t Ev.topR_t0 Ev.oneL_0 Ev.oneL_s Ev.topR_d Ev.topR_nils Ev.topR_agg Ev.topR_rs Ev.evOp_move Ev.evOp_assign Ev.evOp_pick Ev.evOp_alloc Ev.evOp_box Ev.evOp_build Ev.evOp_buildSlice Ev.evOp_load Ev.evOp_store Ev.evOp_makeMap Ev.evOp_lookup Ev.evOp_mapUpdate Ev.evOp_insert Ev.evOp_nilCheck Ev.evOp_binOp Ev.evOp_unOp Ev.evOp_convert Ev.evOp_makeFunc Ev.evOp_makeSlice Ev.evOp_slice Ev.evOp_fieldAddr Ev.evOp_field Ev.evOp_indexAddr Ev.evOp_index Ev.evOp_extract Ev.evOp_call Ev.evOp_append Ev.evOp_clear Ev.evOp_len Ev.evOp_min Ev.evOp_max Ev.condR_b Ev.condR_t Ev.evOps_nil Ev.evOps_plain Ev.evOps_guard Ev.runG_eq Ev.skipG_eq Ev.condL_tt Ev.condL_ff Ev.condL_tf Ev.condL_ft Ev.condL_u Ev.condC_t Ev.condC_f Ev.evC_skip Ev.evC_ret Ev.evC_exit Ev.evC_label Ev.evC_region Ev.evC_draw Ev.evC_seq Ev.evC_cond Ev.evC_block Ev.evC_loop Ev.fin_d Ev.fin_nils Ev.fin_agg_ Ev.fin_rs Ev.finS_s Ev.mapO_fin Ev.upd_upd Ev.argv_d Ev.argv_nils Ev.argv_agg Ev.argv_rs Ev.argv_p Ev.fk_low Ev.appendTo_nils Ev.appendTo_rs Ev.consV_d Ev.consV_agg Ev.consV_p Ev.consV_rs Ev.consV_nils Ev.consV_fn Ev.consV_und Ev.consV_jk Ev.consV_grown Ev.topR_grown Ev.len_grown Ev.consV_mp Ev.sameK_i Ev.sameK_s Ev.mget_0 Ev.mget_hit Ev.mget_miss Ev.mput_0 Ev.mput_hit Ev.mput_miss Ev.apartAll Ev.apartL Ev.apartV Ev.freeAll Ev.sel Ev.keyOfV Ev.evLookup Ev.evPut Ev.hintOk Ev.keyOk Ev.consP Ev.lookV Ev.guardV Ev.dstAt Ev.evPure Ev.evStore Ev.evBin Ev.evBinO Ev.evNil Ev.isNilC Ev.evUn Ev.evConv Ev.evSlice Ev.optI Ev.foldI Ev.capsOk Ev.noTup Ev.nth Ev.setN Ev.killAt Ev.pad Ev.V.get Ev.V.put Ev.putD Ev.newBlk Ev.upd Ev.keq Ev.empty Ev.evCall Ev.V.args Ev.argP Ev.callOf Ev.evNilP Ev.isNilP Ev.look Ev.V.view.views Ev.V.view Ev.V.toD Ev.V.toD.V.toDs Ev.V.pure.pures Ev.V.pure Ev.D.flat.flats Ev.D.flat Ev.mkAgg Ev.allD Ev.aggParts Ev.setParts Ev.setElems Ev.getPath Ev.setPath Ev.subL Ev.eqD Ev.eqD.eqDs Ev.and2 Ev.strCut Ev.evalT Ev.constT Ev.evArgs Ev.mask Ev.maskOf Ev.tableOf Ev.compT Ev.resV Ev.retV Ev.mapO Ev.frzO_n Ev.frzO_e Ev.frzO_r Ev.frzO_0 Ev.mb_z Ev.mb_0 Ev.mb_s Ev.frzL_t Ev.frzL_f Ev.frzL_0 Ev.frzT_nils Ev.frzT_rs Ev.frzT_p Ev.frzK_i Ev.keyIn_i Ev.rI_nil Ev.rI_cons Ev.rI_row Ev.rI_app Ev.r_d Ev.r_nils Ev.r_agg Ev.r_rs Ev.r_gl Ev.vw_row Ev.vw_app Ev.appO_s Ev.frzT_gl Ev.allD_gl Ev.killAt_i Ev.tkOne_i Ev.hT_agg Ev.hT_vagg Ev.hT_int Ev.hT_bool Ev.hT_str Ev.hT_sl Ev.hT_ptr Ev.hT_np Ev.hT_p Ev.hT_rs Ev.hT_mp Ev.hT_nils Ev.hT_fn Ev.hT_jk Ev.hT_gl Ev.eO_sl Ev.eO_nils Ev.eO_rs Ev.eT_sl Ev.eT_rs Ev.pL_str Ev.pL_sl Ev.pL_rs Ev.pL_nils Ev.pL_min Ev.pL_max Ev.len_glB Ev.noTup_gl Ev.rowV_len Ev.rowV_nil Ev.rowV_cons Ev.rowV_append Ev.rowV_set Ev.rowV_replicate Ev.nth_row Ev.row_take Ev.row_drop Ev.toDs_row Ev.fin_row Ev.map_row Ev.map_take_ Ev.map_drop_ Ev.Bk_i Ev.GlB_0 Ev.GlB_mk Ev.gl_nil Ev.gl_cons Ev.gl_snoc Ev.gl_setN Ev.appendTo_gl Ev.consV_gl Ev.elems_gl Ev.fin_gl Ev.view_gl Ev.argv_gl Ev.topR_gl Ev.sp_z Ev.sp_0 Ev.sp_s Ev.km_z Ev.km_0 Ev.km_s Ev.beq_toList Ev.nc0 Ev.bq_t Ev.bq_f Ev.bodyN Ev.le_maxRow Int.cast_ofNat_Int IntWalk.i64_in IntWalk.u64_in IntWalk.u8_in beq_self_eq_true Bool.true_beq Bool.false_beq Bool.and_true Bool.true_and Bool.false_and Bool.and_false Bool.and_self Bool.not_true Bool.not_false Bool.not_eq_true cond_true cond_false if_true if_false and_true true_and and_self decide_true decide_false Bool.or_true Bool.true_or Bool.or_false Bool.false_or List.isEmpty List.isEmpty_nil List.size_toArray List.map List.length_map List.length_cons List.length_nil Option.map Option.bind Option.getD Option.isSome List.replicate Bool.false_eq_true implies_true false_implies forall_const Array.toList Array.isEmpty List.append List.nil_append List.cons_append List.drop_zero List.take_length List.take_succ_cons List.take_zero List.take_nil List.getElem?_map List.getElem?_cons_zero List.getElem?_cons_succ List.getElem?_nil List.append_nil eq_self Int.toNat_natCast List.length_append Nat.zero_add Nat.add_zero List.length_replicate Nat.sub_zero Option.map_some Option.map_none Int.le_refl Nat.le_refl Int.natCast_nonneg List.map_append
noncomputable def G_cmp_Or_Errno (L : Nat) : Specs := []
noncomputable def T_cmp_Or_Errno : Table := tableOf [(100, en100)]
theorem Go_cmp_Or_Errno (L : Nat) (hL : L ≤ 4611686018427387904) : ∀ g s, Ev.look (G_cmp_Or_Errno L) g = some s → SpecOk Try.prog g s := specs_nil
theorem To_cmp_Or_Errno (L : Nat) : TableOk Try.prog ((G_cmp_Or_Errno L).map (·.1)) T_cmp_Or_Errno := (table_cons Try.func100 (by kernel_rfl) (by kernel_rfl) table_nil)
attribute [local go_sem] Ty.tk3 Ty.ik3 Ty.ek3 Ty.zv3 Ty.by3 Ty.so3 Ty.tk4 Ty.ub4 Ty.ek4 Ty.zv4 Ty.by4 Ty.so4 Ty.tk27 Ty.ik27 Ty.ek27 Ty.zv27 Ty.by27 Ty.so27 Ty.tk195 Ty.zv195 Ty.by195 Ty.so195 Ty.k195_e E.mk100_0 E.mk100_1000001 E.mk100_1000002 E.mk100_1000000 E.fz100_0 E.lb100_0 loopN loops Try.f100
def Q0_p_cmp_Or_Errno_l0 (a0 : List Int) (u : Unit) (z : Out) : Prop := ∃ env st, z = some (.exit 0, env, st) ∧ env = sp 18 0 [(3, .d (.int .i64 0))]
def Q1_p_cmp_Or_Errno_l0 (a0 : List Int) (u : Int) (z : Out) : Prop := ∃ env st, z = some (.ret, env, st) ∧ env = sp 18 0 [(2, .d (.int .i64 u))]
def Q_p_cmp_Or_Errno_l0 (a0 : List Int) (o : Sum Unit Int) (z : Out) : Prop := match o with | (.inl u) => Q0_p_cmp_Or_Errno_l0 a0 u z | (.inr u) => Q1_p_cmp_Or_Errno_l0 a0 u z
theorem l_p_cmp_Or_Errno_l0 (L : Nat) (hL : L ≤ 4611686018427387904) (a0 : List Int) : ∀ (tl : List Int) (n : Nat) (s2 : Int) (env : List V) (st : Store) (o : Sum Unit Int), tl.length < n → Rng a0 s2 tl → mask (maskOf en100.ms 0) env = sp 18 0 [(3, .d (.int .i64 0)), (6, .d (.sl 27 (a0.map (D.int .i64)))), (7, .d (.int .i64 (a0.length : Int))), (8, .d (.int .i64 s2))] → p_cmp_Or_Errno_l0 L  tl  = some o →
    Q_p_cmp_Or_Errno_l0 a0 o (iter (evC Try.prog (G_cmp_Or_Errno L) (evF Try.prog (G_cmp_Or_Errno L) T_cmp_Or_Errno L 0) L en100.ms 0 0 lb100_0) (maskOf en100.ms 0) n env st) := by
  intro tl
  induction tl with
  | nil =>
    intro n s2  env st o hn hR he  h
    obtain ⟨n, rfl⟩ : ∃ m, n = m + 1 := ⟨n - 1, by omega⟩
    have g0 := rng_nil hR
    rw [iter, he]
    clear he
    generalize hK : iter _ _ n = K
    rw [p_cmp_Or_Errno_l0] at h
    revert h
    rintro ⟨⟩
    simp only [go_sem, Nat.reduceAdd, Nat.reduceSub, Nat.reduceMul, Nat.reduceEqDiff, Nat.reduceBEq, Nat.reduceLT, Nat.reduceLeDiff, Nat.reducePow, Int.reduceToNat, Int.reduceLT, Int.reduceLE, Int.reduceGT, Int.reduceGE, Int.reduceEq, Int.reduceNeg, Int.reduceAdd, Int.reduceSub, Int.reduceMul, ↓reduceIte, reduceCtorEq, *]
    refine (⟨_, _, rfl, ?_⟩ : Q0_p_cmp_Or_Errno_l0 a0 _ _)
    all_goals simp only [go_sem, Nat.reduceAdd, Nat.reduceSub, Nat.reduceMul, Nat.reduceEqDiff, Nat.reduceBEq, Nat.reduceLT, Nat.reduceLeDiff, Nat.reducePow, Int.reduceToNat, Int.reduceLT, Int.reduceLE, Int.reduceGT, Int.reduceGE, Int.reduceEq, Int.reduceNeg, Int.reduceAdd, Int.reduceSub, Int.reduceMul, ↓reduceIte, reduceCtorEq, *]
  | cons x1 tl ih =>
    intro n s2  env st o hn hR he  h
    obtain ⟨n, rfl⟩ : ∃ m, n = m + 1 := ⟨n - 1, by omega⟩
    replace ih : Hold _ := ih
    replace hR := rng_s hR
    obtain ⟨g0, g1, g2, g3, hR⟩ := hR
    rw [iter, he]
    clear he
    generalize hK : iter _ _ n = K
    rw [p_cmp_Or_Errno_l0] at h
    revert h
    refine cb_i (fun c1 => ?_) (fun c1 => ?_)
    · intro h
      simp only [go_sem, Nat.reduceAdd, Nat.reduceSub, Nat.reduceMul, Nat.reduceEqDiff, Nat.reduceBEq, Nat.reduceLT, Nat.reduceLeDiff, Nat.reducePow, Int.reduceToNat, Int.reduceLT, Int.reduceLE, Int.reduceGT, Int.reduceGE, Int.reduceEq, Int.reduceNeg, Int.reduceAdd, Int.reduceSub, Int.reduceMul, ↓reduceIte, reduceCtorEq, *]
      subst hK
      refine ih n (s2 + 1)  _ _ _ (by simp only [List.length_cons] at hn; omega) hR ?_ h
      all_goals simp only [go_sem, Nat.reduceAdd, Nat.reduceSub, Nat.reduceMul, Nat.reduceEqDiff, Nat.reduceBEq, Nat.reduceLT, Nat.reduceLeDiff, Nat.reducePow, Int.reduceToNat, Int.reduceLT, Int.reduceLE, Int.reduceGT, Int.reduceGE, Int.reduceEq, Int.reduceNeg, Int.reduceAdd, Int.reduceSub, Int.reduceMul, ↓reduceIte, reduceCtorEq, *]
    · rintro ⟨⟩
      simp only [go_sem, Nat.reduceAdd, Nat.reduceSub, Nat.reduceMul, Nat.reduceEqDiff, Nat.reduceBEq, Nat.reduceLT, Nat.reduceLeDiff, Nat.reducePow, Int.reduceToNat, Int.reduceLT, Int.reduceLE, Int.reduceGT, Int.reduceGE, Int.reduceEq, Int.reduceNeg, Int.reduceAdd, Int.reduceSub, Int.reduceMul, ↓reduceIte, reduceCtorEq, *]
      refine (⟨_, _, rfl, ?_⟩ : Q1_p_cmp_Or_Errno_l0 a0 _ _)
      all_goals simp only [go_sem, Nat.reduceAdd, Nat.reduceSub, Nat.reduceMul, Nat.reduceEqDiff, Nat.reduceBEq, Nat.reduceLT, Nat.reduceLeDiff, Nat.reducePow, Int.reduceToNat, Int.reduceLT, Int.reduceLE, Int.reduceGT, Int.reduceGE, Int.reduceEq, Int.reduceNeg, Int.reduceAdd, Int.reduceSub, Int.reduceMul, ↓reduceIte, reduceCtorEq, *]
theorem e_cmp_Or_Errno (L : Nat) (hL : L ≤ 4611686018427387904) (a0 : List Int) (res : Int) (h : p_cmp_Or_Errno L a0 = some res) : evTop Try.prog (G_cmp_Or_Errno L) T_cmp_Or_Errno L 1 100 [.sl 27 (a0.map (D.int .i64))] = some [.int .i64 res] := by
  revert h
  unfold p_cmp_Or_Errno evTop
  simp only [List.map]
  rw [evF_s (fn := Try.f100) (msk := en100.ms) (hT := by rfl) (hb := by rfl)]
  refine rq_i fun c1 => ?_
  refine bnd_i fun o3 ho2 => ?_
  intro h
  simp only [go_sem, Nat.reduceAdd, Nat.reduceSub, Nat.reduceMul, Nat.reduceEqDiff, Nat.reduceBEq, Nat.reduceLT, Nat.reduceLeDiff, Nat.reducePow, Int.reduceToNat, Int.reduceLT, Int.reduceLE, Int.reduceGT, Int.reduceGE, Int.reduceEq, Int.reduceNeg, Int.reduceAdd, Int.reduceSub, Int.reduceMul, ↓reduceIte, reduceCtorEq, *]
  generalize hz4 : iter _ _ _ _ _ = z3
  have hq5 : Q_p_cmp_Or_Errno_l0 a0 o3 z3 := by
    rw [← hz4]
    refine l_p_cmp_Or_Errno_l0 L hL a0 a0 L 0  _ _ _ c1 (rng_0 c1 hL) ?_ ho2
    all_goals simp only [go_sem, Nat.reduceAdd, Nat.reduceSub, Nat.reduceMul, Nat.reduceEqDiff, Nat.reduceBEq, Nat.reduceLT, Nat.reduceLeDiff, Nat.reducePow, Int.reduceToNat, Int.reduceLT, Int.reduceLE, Int.reduceGT, Int.reduceGE, Int.reduceEq, Int.reduceNeg, Int.reduceAdd, Int.reduceSub, Int.reduceMul, ↓reduceIte, reduceCtorEq, *]
  clear hz4 ho2
  rcases o3 with o3_0 | o3_1
  · obtain ⟨_, st4, rfl, rfl⟩ := hq5
    dsimp only at h
    revert h
    rintro ⟨⟩
    simp only [go_sem, Nat.reduceAdd, Nat.reduceSub, Nat.reduceMul, Nat.reduceEqDiff, Nat.reduceBEq, Nat.reduceLT, Nat.reduceLeDiff, Nat.reducePow, Int.reduceToNat, Int.reduceLT, Int.reduceLE, Int.reduceGT, Int.reduceGE, Int.reduceEq, Int.reduceNeg, Int.reduceAdd, Int.reduceSub, Int.reduceMul, ↓reduceIte, reduceCtorEq, *]
  · obtain ⟨_, st5, rfl, rfl⟩ := hq5
    dsimp only at h
    revert h
    rintro ⟨⟩
    simp only [go_sem, Nat.reduceAdd, Nat.reduceSub, Nat.reduceMul, Nat.reduceEqDiff, Nat.reduceBEq, Nat.reduceLT, Nat.reduceLeDiff, Nat.reducePow, Int.reduceToNat, Int.reduceLT, Int.reduceLE, Int.reduceGT, Int.reduceGE, Int.reduceEq, Int.reduceNeg, Int.reduceAdd, Int.reduceSub, Int.reduceMul, ↓reduceIte, reduceCtorEq, *]
noncomputable def s_cmp_Or_Errno (L : Nat) : Ev.Spec := specP (cCons k195 cNil) (fun x => p_cmp_Or_Errno L x.1) (fun r => [.int .i64 r])
theorem s_cmp_Or_Errno_run (L : Nat) (a0 : List Int) : (s_cmp_Or_Errno L).run [.sl 27 (a0.map (D.int .i64))] = (p_cmp_Or_Errno L a0).map fun r => [.int .i64 r] := specP_run (cCons k195 cNil) (fun x => p_cmp_Or_Errno L x.1) (fun r => [.int .i64 r]) (a0, ())
theorem ok_cmp_Or_Errno (L : Nat) (hL : L ≤ 4611686018427387904) : SpecOk Try.prog 100 (s_cmp_Or_Errno L) := specP_ok mixed (Go_cmp_Or_Errno L hL) (To_cmp_Or_Errno L) fun x r h => ⟨L, 1, e_cmp_Or_Errno L hL x.1 r h⟩
end Go.Proofs.Ytnojehmbiceceaa.P
end
section
set_option linter.unusedVariables false
set_option linter.unusedSimpArgs false
set_option maxRecDepth 100000
namespace Go.Proofs.Ytnojehmbiceceaa.E
open Go.Ev
noncomputable def en101 : Entry := ⟨Try.f101, [(1000000, mb 9 0 [4])]⟩
theorem dw101_1 (lv : Nat) (env : List V) (st : Store) (o : Option (List V × Store)) : drawR en101.ms 1 lv env st o = if lv < 1000000000000000000000000000000 then (o) else none := nr rfl
theorem kl101_1 (lv : Nat) (st : Store) : killR en101.ms 1 lv st = st := nr rfl
theorem nc101_1 : ncOf en101.ms 1 = false := nr rfl
theorem mk101_1000000 (vs : List V) : mask (maskOf en101.ms 1000000) vs = km 9 0 [4] vs := mask_mb _ _ _ _
end Go.Proofs.Ytnojehmbiceceaa.E
end
section
set_option linter.unusedVariables false
set_option linter.unusedSimpArgs false
set_option maxRecDepth 100000
namespace Go.Proofs.Ytnojehmbiceceaa.E
open Go.Ev
noncomputable def en178 : Entry := ⟨Try.f178, [(1000000, mb 20 0 [4])]⟩
theorem mk178_1000000 (vs : List V) : mask (maskOf en178.ms 1000000) vs = km 20 0 [4] vs := mask_mb _ _ _ _
end Go.Proofs.Ytnojehmbiceceaa.E
end
section
set_option linter.unusedVariables false
set_option linter.unusedSimpArgs false
set_option maxRecDepth 100000
namespace Go.Proofs.Ytnojehmbiceceaa.P
open Go.Ev Go.IntKind Go.Proofs.Ytnojehmbiceceaa Go.Proofs.Ytnojehmbiceceaa.Ty Go.Proofs.Ytnojehmbiceceaa.E
def p_bound_Add_Quanta (L : Nat) (a0_0 : Int) (a0_1 : Int) (a0_2 : Bool) (a1_0 : Int) (a1_1 : Int) (a1_2 : Bool) : Option (Int × Int × Bool) := bnd (p_bound_vague_Quanta L a0_0 a0_1 a0_2 a1_0 a1_1 a1_2) fun r1 => cb r1 (bnd (p_bound_None_Quanta L) fun r2 => some (r2.1, r2.2.1, r2.2.2)) (bnd (p_bound_Of_Quanta L (i64.wrap (a0_0 + a1_0)) (i64.wrap (a0_1 + a1_1))) fun r3 => some (r3.1, r3.2.1, r3.2.2))
attribute [local go_sem] Ev.putR_s Ev.putR_0 Ev.thenO_s Ev.thenO_0 Ev.seqR_n Ev.seqR_e Ev.seqR_r Ev.seqR_0 Ev.blkR_e Ev.blkR_n Ev.blkR_r Ev.blkR_0 Ev.normR_s Ev.normR_0 Ev.outR_r Ev.outR_n Ev.outR_0 Ev.retS_s Ev.retS_0 Ev.pureO_s Ev.pureO_0 Ev.topR_0 Ev.topR_t Ev.topR_t0 Ev.oneL_0 Ev.oneL_s Ev.topR_d Ev.topR_nils Ev.topR_agg Ev.topR_rs Ev.evOp_move Ev.evOp_assign Ev.evOp_pick Ev.evOp_alloc Ev.evOp_box Ev.evOp_build Ev.evOp_buildSlice Ev.evOp_load Ev.evOp_store Ev.evOp_makeMap Ev.evOp_lookup Ev.evOp_mapUpdate Ev.evOp_insert Ev.evOp_nilCheck Ev.evOp_binOp Ev.evOp_unOp Ev.evOp_convert Ev.evOp_makeFunc Ev.evOp_makeSlice Ev.evOp_slice Ev.evOp_fieldAddr Ev.evOp_field Ev.evOp_indexAddr Ev.evOp_index Ev.evOp_extract Ev.evOp_call Ev.evOp_append Ev.evOp_clear Ev.evOp_len Ev.evOp_min Ev.evOp_max Ev.condR_b Ev.condR_t Ev.evOps_nil Ev.evOps_plain Ev.evOps_guard Ev.runG_eq Ev.skipG_eq Ev.condL_tt Ev.condL_ff Ev.condL_tf Ev.condL_ft Ev.condL_u Ev.condC_t Ev.condC_f Ev.evC_skip Ev.evC_ret Ev.evC_exit Ev.evC_label Ev.evC_region Ev.evC_draw Ev.evC_seq Ev.evC_cond Ev.evC_block Ev.evC_loop Ev.fin_d Ev.fin_nils Ev.fin_agg_ Ev.fin_rs Ev.finS_s Ev.mapO_fin Ev.upd_upd Ev.argv_d Ev.argv_nils Ev.argv_agg Ev.argv_rs Ev.argv_p Ev.fk_low Ev.appendTo_nils Ev.appendTo_rs Ev.consV_d Ev.consV_agg Ev.consV_p Ev.consV_rs Ev.consV_nils Ev.consV_fn Ev.consV_und Ev.consV_jk Ev.consV_grown Ev.topR_grown Ev.len_grown Ev.consV_mp Ev.sameK_i Ev.sameK_s Ev.mget_0 Ev.mget_hit Ev.mget_miss Ev.mput_0 Ev.mput_hit Ev.mput_miss Ev.apartAll Ev.apartL Ev.apartV Ev.freeAll Ev.sel Ev.keyOfV Ev.evLookup Ev.evPut Ev.hintOk Ev.keyOk Ev.consP Ev.lookV Ev.guardV Ev.dstAt Ev.evPure Ev.evStore Ev.evBin Ev.evBinO Ev.evNil Ev.isNilC Ev.evUn Ev.evConv Ev.evSlice Ev.optI Ev.foldI Ev.capsOk Ev.noTup Ev.nth Ev.setN Ev.killAt Ev.pad Ev.V.get Ev.V.put Ev.putD Ev.newBlk Ev.upd Ev.keq Ev.empty Ev.evCall Ev.V.args Ev.argP Ev.callOf Ev.evNilP Ev.isNilP Ev.look Ev.V.view.views Ev.V.view Ev.V.toD Ev.V.toD.V.toDs Ev.V.pure.pures Ev.V.pure Ev.D.flat.flats Ev.D.flat Ev.mkAgg Ev.allD Ev.aggParts Ev.setParts Ev.setElems Ev.getPath Ev.setPath Ev.subL Ev.eqD Ev.eqD.eqDs Ev.and2 Ev.strCut Ev.evalT Ev.constT Ev.evArgs Ev.mask Ev.maskOf Ev.tableOf Ev.compT Ev.resV Ev.retV Ev.mapO Ev.frzO_n Ev.frzO_e Ev.frzO_r Ev.frzO_0 Ev.mb_z Ev.mb_0 Ev.mb_s Ev.frzL_t Ev.frzL_f Ev.frzL_0 Ev.frzT_nils Ev.frzT_rs Ev.frzT_p Ev.frzK_i Ev.keyIn_i Ev.rI_nil Ev.rI_cons Ev.rI_row Ev.rI_app Ev.r_d Ev.r_nils Ev.r_agg Ev.r_rs Ev.r_gl Ev.vw_row Ev.vw_app Ev.appO_s Ev.frzT_gl Ev.allD_gl Ev.killAt_i Ev.tkOne_i Ev.hT_agg Ev.hT_vagg Ev.hT_int Ev.hT_bool Ev.hT_str Ev.hT_sl Ev.hT_ptr Ev.hT_np Ev.hT_p Ev.hT_rs Ev.hT_mp Ev.hT_nils Ev.hT_fn Ev.hT_jk Ev.hT_gl Ev.eO_sl Ev.eO_nils Ev.eO_rs Ev.eT_sl Ev.eT_rs Ev.pL_str Ev.pL_sl Ev.pL_rs Ev.pL_nils Ev.pL_min Ev.pL_max Ev.len_glB Ev.noTup_gl Ev.rowV_len Ev.rowV_nil Ev.rowV_cons Ev.rowV_append Ev.rowV_set Ev.rowV_replicate Ev.nth_row Ev.row_take Ev.row_drop Ev.toDs_row Ev.fin_row Ev.map_row Ev.map_take_ Ev.map_drop_ Ev.Bk_i Ev.GlB_0 Ev.GlB_mk Ev.gl_nil Ev.gl_cons Ev.gl_snoc Ev.gl_setN Ev.appendTo_gl Ev.consV_gl Ev.elems_gl Ev.fin_gl Ev.view_gl Ev.argv_gl Ev.topR_gl Ev.sp_z Ev.sp_0 Ev.sp_s Ev.km_z Ev.km_0 Ev.km_s Ev.beq_toList Ev.nc0 Ev.bq_t Ev.bq_f Ev.bodyN Ev.le_maxRow Int.cast_ofNat_Int IntWalk.i64_in IntWalk.u64_in IntWalk.u8_in beq_self_eq_true Bool.true_beq Bool.false_beq Bool.and_true Bool.true_and Bool.false_and Bool.and_false Bool.and_self Bool.not_true Bool.not_false Bool.not_eq_true cond_true cond_false if_true if_false and_true true_and and_self decide_true decide_false Bool.or_true Bool.true_or Bool.or_false Bool.false_or List.isEmpty List.isEmpty_nil List.size_toArray List.map List.length_map List.length_cons List.length_nil Option.map Option.bind Option.getD Option.isSome List.replicate Bool.false_eq_true implies_true false_implies forall_const Array.toList Array.isEmpty List.append List.nil_append List.cons_append List.drop_zero List.take_length List.take_succ_cons List.take_zero List.take_nil List.getElem?_map List.getElem?_cons_zero List.getElem?_cons_succ List.getElem?_nil List.append_nil eq_self Int.toNat_natCast List.length_append Nat.zero_add Nat.add_zero List.length_replicate Nat.sub_zero Option.map_some Option.map_none Int.le_refl Nat.le_refl Int.natCast_nonneg List.map_append
noncomputable def G_bound_Add_Quanta (L : Nat) : Specs := [(77, s_bound_None_Quanta L), (80, s_bound_Of_Quanta L), (226, s_bound_vague_Quanta L)]
noncomputable def T_bound_Add_Quanta : Table := tableOf [(178, en178)]
theorem Go_bound_Add_Quanta (L : Nat) (hL : L ≤ 4611686018427387904) : ∀ g s, Ev.look (G_bound_Add_Quanta L) g = some s → SpecOk Try.prog g s := (specs_cons (ok_bound_None_Quanta L hL) (specs_cons (ok_bound_Of_Quanta L hL) (specs_cons (ok_bound_vague_Quanta L hL) specs_nil)))
theorem To_bound_Add_Quanta (L : Nat) : TableOk Try.prog ((G_bound_Add_Quanta L).map (·.1)) T_bound_Add_Quanta := (table_cons Try.func178 (by kernel_rfl) (by kernel_rfl) table_nil)
theorem lk_bound_Add_Quanta_77 (L : Nat) : Ev.look (G_bound_Add_Quanta L) 77 = some (s_bound_None_Quanta L) := nr rfl
theorem lk_bound_Add_Quanta_80 (L : Nat) : Ev.look (G_bound_Add_Quanta L) 80 = some (s_bound_Of_Quanta L) := nr rfl
theorem lk_bound_Add_Quanta_226 (L : Nat) : Ev.look (G_bound_Add_Quanta L) 226 = some (s_bound_vague_Quanta L) := nr rfl
attribute [local go_sem] Ty.tk4 Ty.ub4 Ty.ek4 Ty.zv4 Ty.by4 Ty.so4 Ty.tk24 Ty.ik24 Ty.ek24 Ty.zv24 Ty.by24 Ty.so24 Ty.tk35 Ty.ct35 Ty.ek35 Ty.zv35 Ty.by35 Ty.so35 Ty.k35_e E.mk178_1000000 lk_bound_Add_Quanta_77 lk_bound_Add_Quanta_80 lk_bound_Add_Quanta_226 s_bound_None_Quanta_run s_bound_Of_Quanta_run s_bound_vague_Quanta_run loopN loops Try.f178
theorem e_bound_Add_Quanta (L : Nat) (hL : L ≤ 4611686018427387904) (a0_0 : Int) (a0_1 : Int) (a0_2 : Bool) (a1_0 : Int) (a1_1 : Int) (a1_2 : Bool) (res : Int × Int × Bool) (h : p_bound_Add_Quanta L a0_0 a0_1 a0_2 a1_0 a1_1 a1_2 = some res) : evTop Try.prog (G_bound_Add_Quanta L) T_bound_Add_Quanta L 1 178 [.agg 35 [.int .i64 a0_0, .int .i64 a0_1, .bool a0_2], .agg 35 [.int .i64 a1_0, .int .i64 a1_1, .bool a1_2]] = some [.agg 35 [.int .i64 res.1, .int .i64 res.2.1, .bool res.2.2]] := by
  revert h
  unfold p_bound_Add_Quanta evTop
  simp only [List.map]
  rw [evF_s (fn := Try.f178) (msk := en178.ms) (hT := by rfl) (hb := by rfl)]
  refine bnd_i fun r1 c1 => ?_
  refine cb_i (fun c2 => ?_) (fun c2 => ?_)
  · refine bnd_i fun r2 c3 => ?_
    rintro ⟨⟩
    simp only [go_sem, Nat.reduceAdd, Nat.reduceSub, Nat.reduceMul, Nat.reduceEqDiff, Nat.reduceBEq, Nat.reduceLT, Nat.reduceLeDiff, Nat.reducePow, Int.reduceToNat, Int.reduceLT, Int.reduceLE, Int.reduceGT, Int.reduceGE, Int.reduceEq, Int.reduceNeg, Int.reduceAdd, Int.reduceSub, Int.reduceMul, ↓reduceIte, reduceCtorEq, *]
  · refine bnd_i fun r3 c4 => ?_
    rintro ⟨⟩
    simp only [go_sem, Nat.reduceAdd, Nat.reduceSub, Nat.reduceMul, Nat.reduceEqDiff, Nat.reduceBEq, Nat.reduceLT, Nat.reduceLeDiff, Nat.reducePow, Int.reduceToNat, Int.reduceLT, Int.reduceLE, Int.reduceGT, Int.reduceGE, Int.reduceEq, Int.reduceNeg, Int.reduceAdd, Int.reduceSub, Int.reduceMul, ↓reduceIte, reduceCtorEq, *]
noncomputable def s_bound_Add_Quanta (L : Nat) : Ev.Spec := specP (cCons k35 (cCons k35 cNil)) (fun x => p_bound_Add_Quanta L x.1.1 x.1.2.1 x.1.2.2.1 x.2.1.1 x.2.1.2.1 x.2.1.2.2.1) (fun r => [.agg 35 [.int .i64 r.1, .int .i64 r.2.1, .bool r.2.2]])
theorem s_bound_Add_Quanta_run (L : Nat) (a0_0 : Int) (a0_1 : Int) (a0_2 : Bool) (a1_0 : Int) (a1_1 : Int) (a1_2 : Bool) : (s_bound_Add_Quanta L).run [.agg 35 [.int .i64 a0_0, .int .i64 a0_1, .bool a0_2], .agg 35 [.int .i64 a1_0, .int .i64 a1_1, .bool a1_2]] = (p_bound_Add_Quanta L a0_0 a0_1 a0_2 a1_0 a1_1 a1_2).map fun r => [.agg 35 [.int .i64 r.1, .int .i64 r.2.1, .bool r.2.2]] := specP_run (cCons k35 (cCons k35 cNil)) (fun x => p_bound_Add_Quanta L x.1.1 x.1.2.1 x.1.2.2.1 x.2.1.1 x.2.1.2.1 x.2.1.2.2.1) (fun r => [.agg 35 [.int .i64 r.1, .int .i64 r.2.1, .bool r.2.2]]) ((a0_0, a0_1, a0_2, ()), (a1_0, a1_1, a1_2, ()), ())
theorem ok_bound_Add_Quanta (L : Nat) (hL : L ≤ 4611686018427387904) : SpecOk Try.prog 178 (s_bound_Add_Quanta L) := specP_ok mixed (Go_bound_Add_Quanta L hL) (To_bound_Add_Quanta L) fun x r h => ⟨L, 1, e_bound_Add_Quanta L hL x.1.1 x.1.2.1 x.1.2.2.1 x.2.1.1 x.2.1.2.1 x.2.1.2.2.1 r h⟩
end Go.Proofs.Ytnojehmbiceceaa.P
end
section
set_option linter.unusedVariables false
set_option linter.unusedSimpArgs false
set_option maxRecDepth 100000
namespace Go.Proofs.Ytnojehmbiceceaa.E
open Go.Ev
noncomputable def en179 : Entry := ⟨Try.f179, [(1000000, mb 14 0 [2])]⟩
theorem mk179_1000000 (vs : List V) : mask (maskOf en179.ms 1000000) vs = km 14 0 [2] vs := mask_mb _ _ _ _
end Go.Proofs.Ytnojehmbiceceaa.E
end
section
set_option linter.unusedVariables false
set_option linter.unusedSimpArgs false
set_option maxRecDepth 100000
namespace Go.Proofs.Ytnojehmbiceceaa.P
open Go.Ev Go.IntKind Go.Proofs.Ytnojehmbiceceaa Go.Proofs.Ytnojehmbiceceaa.Ty Go.Proofs.Ytnojehmbiceceaa.E
def p_bound_Neg_Quanta (L : Nat) (a0_0 : Int) (a0_1 : Int) (a0_2 : Bool) : Option (Int × Int × Bool) := bnd (p_bound_Norm_Quanta L a0_0 a0_1 a0_2) fun r1 => some ((i64.wrap (0 - r1.2.1)), (i64.wrap (0 - r1.1)), r1.2.2)
attribute [local go_sem] Ev.putR_s Ev.putR_0 Ev.thenO_s Ev.thenO_0 Ev.seqR_n Ev.seqR_e Ev.seqR_r Ev.seqR_0 Ev.blkR_e Ev.blkR_n Ev.blkR_r Ev.blkR_0 Ev.normR_s Ev.normR_0 Ev.outR_r Ev.outR_n Ev.outR_0 Ev.retS_s Ev.retS_0 Ev.pureO_s Ev.pureO_0 Ev.topR_0 Ev.topR_t Ev.topR_t0 Ev.oneL_0 Ev.oneL_s Ev.topR_d Ev.topR_nils Ev.topR_agg Ev.topR_rs Ev.evOp_move Ev.evOp_assign Ev.evOp_pick Ev.evOp_alloc Ev.evOp_box Ev.evOp_build Ev.evOp_buildSlice Ev.evOp_load Ev.evOp_store Ev.evOp_makeMap Ev.evOp_lookup Ev.evOp_mapUpdate Ev.evOp_insert Ev.evOp_nilCheck Ev.evOp_binOp Ev.evOp_unOp Ev.evOp_convert Ev.evOp_makeFunc Ev.evOp_makeSlice Ev.evOp_slice Ev.evOp_fieldAddr Ev.evOp_field Ev.evOp_indexAddr Ev.evOp_index Ev.evOp_extract Ev.evOp_call Ev.evOp_append Ev.evOp_clear Ev.evOp_len Ev.evOp_min Ev.evOp_max Ev.condR_b Ev.condR_t Ev.evOps_nil Ev.evOps_plain Ev.evOps_guard Ev.runG_eq Ev.skipG_eq Ev.condL_tt Ev.condL_ff Ev.condL_tf Ev.condL_ft Ev.condL_u Ev.condC_t Ev.condC_f Ev.evC_skip Ev.evC_ret Ev.evC_exit Ev.evC_label Ev.evC_region Ev.evC_draw Ev.evC_seq Ev.evC_cond Ev.evC_block Ev.evC_loop Ev.fin_d Ev.fin_nils Ev.fin_agg_ Ev.fin_rs Ev.finS_s Ev.mapO_fin Ev.upd_upd Ev.argv_d Ev.argv_nils Ev.argv_agg Ev.argv_rs Ev.argv_p Ev.fk_low Ev.appendTo_nils Ev.appendTo_rs Ev.consV_d Ev.consV_agg Ev.consV_p Ev.consV_rs Ev.consV_nils Ev.consV_fn Ev.consV_und Ev.consV_jk Ev.consV_grown Ev.topR_grown Ev.len_grown Ev.consV_mp Ev.sameK_i Ev.sameK_s Ev.mget_0 Ev.mget_hit Ev.mget_miss Ev.mput_0 Ev.mput_hit Ev.mput_miss Ev.apartAll Ev.apartL Ev.apartV Ev.freeAll Ev.sel Ev.keyOfV Ev.evLookup Ev.evPut Ev.hintOk Ev.keyOk Ev.consP Ev.lookV Ev.guardV Ev.dstAt Ev.evPure Ev.evStore Ev.evBin Ev.evBinO Ev.evNil Ev.isNilC Ev.evUn Ev.evConv Ev.evSlice Ev.optI Ev.foldI Ev.capsOk Ev.noTup Ev.nth Ev.setN Ev.killAt Ev.pad Ev.V.get Ev.V.put Ev.putD Ev.newBlk Ev.upd Ev.keq Ev.empty Ev.evCall Ev.V.args Ev.argP Ev.callOf Ev.evNilP Ev.isNilP Ev.look Ev.V.view.views Ev.V.view Ev.V.toD Ev.V.toD.V.toDs Ev.V.pure.pures Ev.V.pure Ev.D.flat.flats Ev.D.flat Ev.mkAgg Ev.allD Ev.aggParts Ev.setParts Ev.setElems Ev.getPath Ev.setPath Ev.subL Ev.eqD Ev.eqD.eqDs Ev.and2 Ev.strCut Ev.evalT Ev.constT Ev.evArgs Ev.mask Ev.maskOf Ev.tableOf Ev.compT Ev.resV Ev.retV Ev.mapO Ev.frzO_n Ev.frzO_e Ev.frzO_r Ev.frzO_0 Ev.mb_z Ev.mb_0 Ev.mb_s Ev.frzL_t Ev.frzL_f Ev.frzL_0 Ev.frzT_nils Ev.frzT_rs Ev.frzT_p Ev.frzK_i Ev.keyIn_i Ev.rI_nil Ev.rI_cons Ev.rI_row Ev.rI_app Ev.r_d Ev.r_nils Ev.r_agg Ev.r_rs Ev.r_gl Ev.vw_row Ev.vw_app Ev.appO_s Ev.frzT_gl Ev.allD_gl Ev.killAt_i Ev.tkOne_i Ev.hT_agg Ev.hT_vagg Ev.hT_int Ev.hT_bool Ev.hT_str Ev.hT_sl Ev.hT_ptr Ev.hT_np Ev.hT_p Ev.hT_rs Ev.hT_mp Ev.hT_nils Ev.hT_fn Ev.hT_jk Ev.hT_gl Ev.eO_sl Ev.eO_nils Ev.eO_rs Ev.eT_sl Ev.eT_rs Ev.pL_str Ev.pL_sl Ev.pL_rs Ev.pL_nils Ev.pL_min Ev.pL_max Ev.len_glB Ev.noTup_gl Ev.rowV_len Ev.rowV_nil Ev.rowV_cons Ev.rowV_append Ev.rowV_set Ev.rowV_replicate Ev.nth_row Ev.row_take Ev.row_drop Ev.toDs_row Ev.fin_row Ev.map_row Ev.map_take_ Ev.map_drop_ Ev.Bk_i Ev.GlB_0 Ev.GlB_mk Ev.gl_nil Ev.gl_cons Ev.gl_snoc Ev.gl_setN Ev.appendTo_gl Ev.consV_gl Ev.elems_gl Ev.fin_gl Ev.view_gl Ev.argv_gl Ev.topR_gl Ev.sp_z Ev.sp_0 Ev.sp_s Ev.km_z Ev.km_0 Ev.km_s Ev.beq_toList Ev.nc0 Ev.bq_t Ev.bq_f Ev.bodyN Ev.le_maxRow Int.cast_ofNat_Int IntWalk.i64_in IntWalk.u64_in IntWalk.u8_in beq_self_eq_true Bool.true_beq Bool.false_beq Bool.and_true Bool.true_and Bool.false_and Bool.and_false Bool.and_self Bool.not_true Bool.not_false Bool.not_eq_true cond_true cond_false if_true if_false and_true true_and and_self decide_true decide_false Bool.or_true Bool.true_or Bool.or_false Bool.false_or List.isEmpty List.isEmpty_nil List.size_toArray List.map List.length_map List.length_cons List.length_nil Option.map Option.bind Option.getD Option.isSome List.replicate Bool.false_eq_true implies_true false_implies forall_const Array.toList Array.isEmpty List.append List.nil_append List.cons_append List.drop_zero List.take_length List.take_succ_cons List.take_zero List.take_nil List.getElem?_map List.getElem?_cons_zero List.getElem?_cons_succ List.getElem?_nil List.append_nil eq_self Int.toNat_natCast List.length_append Nat.zero_add Nat.add_zero List.length_replicate Nat.sub_zero Option.map_some Option.map_none Int.le_refl Nat.le_refl Int.natCast_nonneg List.map_append
noncomputable def G_bound_Neg_Quanta (L : Nat) : Specs := [(75, s_bound_Norm_Quanta L)]
noncomputable def T_bound_Neg_Quanta : Table := tableOf [(179, en179)]
theorem Go_bound_Neg_Quanta (L : Nat) (hL : L ≤ 4611686018427387904) : ∀ g s, Ev.look (G_bound_Neg_Quanta L) g = some s → SpecOk Try.prog g s := (specs_cons (ok_bound_Norm_Quanta L hL) specs_nil)
theorem To_bound_Neg_Quanta (L : Nat) : TableOk Try.prog ((G_bound_Neg_Quanta L).map (·.1)) T_bound_Neg_Quanta := (table_cons Try.func179 (by kernel_rfl) (by kernel_rfl) table_nil)
theorem lk_bound_Neg_Quanta_75 (L : Nat) : Ev.look (G_bound_Neg_Quanta L) 75 = some (s_bound_Norm_Quanta L) := nr rfl
attribute [local go_sem] Ty.tk4 Ty.ub4 Ty.ek4 Ty.zv4 Ty.by4 Ty.so4 Ty.tk24 Ty.ik24 Ty.ek24 Ty.zv24 Ty.by24 Ty.so24 Ty.tk35 Ty.ct35 Ty.ek35 Ty.zv35 Ty.by35 Ty.so35 Ty.k35_e E.mk179_1000000 lk_bound_Neg_Quanta_75 s_bound_Norm_Quanta_run loopN loops Try.f179
theorem e_bound_Neg_Quanta (L : Nat) (hL : L ≤ 4611686018427387904) (a0_0 : Int) (a0_1 : Int) (a0_2 : Bool) (res : Int × Int × Bool) (h : p_bound_Neg_Quanta L a0_0 a0_1 a0_2 = some res) : evTop Try.prog (G_bound_Neg_Quanta L) T_bound_Neg_Quanta L 1 179 [.agg 35 [.int .i64 a0_0, .int .i64 a0_1, .bool a0_2]] = some [.agg 35 [.int .i64 res.1, .int .i64 res.2.1, .bool res.2.2]] := by
  revert h
  unfold p_bound_Neg_Quanta evTop
  simp only [List.map]
  rw [evF_s (fn := Try.f179) (msk := en179.ms) (hT := by rfl) (hb := by rfl)]
  refine bnd_i fun r1 c1 => ?_
  rintro ⟨⟩
  simp only [go_sem, Nat.reduceAdd, Nat.reduceSub, Nat.reduceMul, Nat.reduceEqDiff, Nat.reduceBEq, Nat.reduceLT, Nat.reduceLeDiff, Nat.reducePow, Int.reduceToNat, Int.reduceLT, Int.reduceLE, Int.reduceGT, Int.reduceGE, Int.reduceEq, Int.reduceNeg, Int.reduceAdd, Int.reduceSub, Int.reduceMul, ↓reduceIte, reduceCtorEq, *]
noncomputable def s_bound_Neg_Quanta (L : Nat) : Ev.Spec := specP (cCons k35 cNil) (fun x => p_bound_Neg_Quanta L x.1.1 x.1.2.1 x.1.2.2.1) (fun r => [.agg 35 [.int .i64 r.1, .int .i64 r.2.1, .bool r.2.2]])
theorem s_bound_Neg_Quanta_run (L : Nat) (a0_0 : Int) (a0_1 : Int) (a0_2 : Bool) : (s_bound_Neg_Quanta L).run [.agg 35 [.int .i64 a0_0, .int .i64 a0_1, .bool a0_2]] = (p_bound_Neg_Quanta L a0_0 a0_1 a0_2).map fun r => [.agg 35 [.int .i64 r.1, .int .i64 r.2.1, .bool r.2.2]] := specP_run (cCons k35 cNil) (fun x => p_bound_Neg_Quanta L x.1.1 x.1.2.1 x.1.2.2.1) (fun r => [.agg 35 [.int .i64 r.1, .int .i64 r.2.1, .bool r.2.2]]) ((a0_0, a0_1, a0_2, ()), ())
theorem ok_bound_Neg_Quanta (L : Nat) (hL : L ≤ 4611686018427387904) : SpecOk Try.prog 179 (s_bound_Neg_Quanta L) := specP_ok mixed (Go_bound_Neg_Quanta L hL) (To_bound_Neg_Quanta L) fun x r h => ⟨L, 1, e_bound_Neg_Quanta L hL x.1.1 x.1.2.1 x.1.2.2.1 r h⟩
end Go.Proofs.Ytnojehmbiceceaa.P
end
section
set_option linter.unusedVariables false
set_option linter.unusedSimpArgs false
set_option maxRecDepth 100000
namespace Go.Proofs.Ytnojehmbiceceaa.P
open Go.Ev Go.IntKind Go.Proofs.Ytnojehmbiceceaa Go.Proofs.Ytnojehmbiceceaa.Ty Go.Proofs.Ytnojehmbiceceaa.E
def p_bound_Sub_Quanta (L : Nat) (a0_0 : Int) (a0_1 : Int) (a0_2 : Bool) (a1_0 : Int) (a1_1 : Int) (a1_2 : Bool) : Option (Int × Int × Bool) := bnd (p_bound_Neg_Quanta L a1_0 a1_1 a1_2) fun r1 => bnd (p_bound_Add_Quanta L a0_0 a0_1 a0_2 r1.1 r1.2.1 r1.2.2) fun r2 => some (r2.1, r2.2.1, r2.2.2)
attribute [local go_sem] Ev.putR_s Ev.putR_0 Ev.thenO_s Ev.thenO_0 Ev.seqR_n Ev.seqR_e Ev.seqR_r Ev.seqR_0 Ev.blkR_e Ev.blkR_n Ev.blkR_r Ev.blkR_0 Ev.normR_s Ev.normR_0 Ev.outR_r Ev.outR_n Ev.outR_0 Ev.retS_s Ev.retS_0 Ev.pureO_s Ev.pureO_0 Ev.topR_0 Ev.topR_t Ev.topR_t0 Ev.oneL_0 Ev.oneL_s Ev.topR_d Ev.topR_nils Ev.topR_agg Ev.topR_rs Ev.evOp_move Ev.evOp_assign Ev.evOp_pick Ev.evOp_alloc Ev.evOp_box Ev.evOp_build Ev.evOp_buildSlice Ev.evOp_load Ev.evOp_store Ev.evOp_makeMap Ev.evOp_lookup Ev.evOp_mapUpdate Ev.evOp_insert Ev.evOp_nilCheck Ev.evOp_binOp Ev.evOp_unOp Ev.evOp_convert Ev.evOp_makeFunc Ev.evOp_makeSlice Ev.evOp_slice Ev.evOp_fieldAddr Ev.evOp_field Ev.evOp_indexAddr Ev.evOp_index Ev.evOp_extract Ev.evOp_call Ev.evOp_append Ev.evOp_clear Ev.evOp_len Ev.evOp_min Ev.evOp_max Ev.condR_b Ev.condR_t Ev.evOps_nil Ev.evOps_plain Ev.evOps_guard Ev.runG_eq Ev.skipG_eq Ev.condL_tt Ev.condL_ff Ev.condL_tf Ev.condL_ft Ev.condL_u Ev.condC_t Ev.condC_f Ev.evC_skip Ev.evC_ret Ev.evC_exit Ev.evC_label Ev.evC_region Ev.evC_draw Ev.evC_seq Ev.evC_cond Ev.evC_block Ev.evC_loop Ev.fin_d Ev.fin_nils Ev.fin_agg_ Ev.fin_rs Ev.finS_s Ev.mapO_fin Ev.upd_upd Ev.argv_d Ev.argv_nils Ev.argv_agg Ev.argv_rs Ev.argv_p Ev.fk_low Ev.appendTo_nils Ev.appendTo_rs Ev.consV_d Ev.consV_agg Ev.consV_p Ev.consV_rs Ev.consV_nils Ev.consV_fn Ev.consV_und Ev.consV_jk Ev.consV_grown Ev.topR_grown Ev.len_grown Ev.consV_mp Ev.sameK_i Ev.sameK_s Ev.mget_0 Ev.mget_hit Ev.mget_miss Ev.mput_0 Ev.mput_hit Ev.mput_miss Ev.apartAll Ev.apartL Ev.apartV Ev.freeAll Ev.sel Ev.keyOfV Ev.evLookup Ev.evPut Ev.hintOk Ev.keyOk Ev.consP Ev.lookV Ev.guardV Ev.dstAt Ev.evPure Ev.evStore Ev.evBin Ev.evBinO Ev.evNil Ev.isNilC Ev.evUn Ev.evConv Ev.evSlice Ev.optI Ev.foldI Ev.capsOk Ev.noTup Ev.nth Ev.setN Ev.killAt Ev.pad Ev.V.get Ev.V.put Ev.putD Ev.newBlk Ev.upd Ev.keq Ev.empty Ev.evCall Ev.V.args Ev.argP Ev.callOf Ev.evNilP Ev.isNilP Ev.look Ev.V.view.views Ev.V.view Ev.V.toD Ev.V.toD.V.toDs Ev.V.pure.pures Ev.V.pure Ev.D.flat.flats Ev.D.flat Ev.mkAgg Ev.allD Ev.aggParts Ev.setParts Ev.setElems Ev.getPath Ev.setPath Ev.subL Ev.eqD Ev.eqD.eqDs Ev.and2 Ev.strCut Ev.evalT Ev.constT Ev.evArgs Ev.mask Ev.maskOf Ev.tableOf Ev.compT Ev.resV Ev.retV Ev.mapO Ev.frzO_n Ev.frzO_e Ev.frzO_r Ev.frzO_0 Ev.mb_z Ev.mb_0 Ev.mb_s Ev.frzL_t Ev.frzL_f Ev.frzL_0 Ev.frzT_nils Ev.frzT_rs Ev.frzT_p Ev.frzK_i Ev.keyIn_i Ev.rI_nil Ev.rI_cons Ev.rI_row Ev.rI_app Ev.r_d Ev.r_nils Ev.r_agg Ev.r_rs Ev.r_gl Ev.vw_row Ev.vw_app Ev.appO_s Ev.frzT_gl Ev.allD_gl Ev.killAt_i Ev.tkOne_i Ev.hT_agg Ev.hT_vagg Ev.hT_int Ev.hT_bool Ev.hT_str Ev.hT_sl Ev.hT_ptr Ev.hT_np Ev.hT_p Ev.hT_rs Ev.hT_mp Ev.hT_nils Ev.hT_fn Ev.hT_jk Ev.hT_gl Ev.eO_sl Ev.eO_nils Ev.eO_rs Ev.eT_sl Ev.eT_rs Ev.pL_str Ev.pL_sl Ev.pL_rs Ev.pL_nils Ev.pL_min Ev.pL_max Ev.len_glB Ev.noTup_gl Ev.rowV_len Ev.rowV_nil Ev.rowV_cons Ev.rowV_append Ev.rowV_set Ev.rowV_replicate Ev.nth_row Ev.row_take Ev.row_drop Ev.toDs_row Ev.fin_row Ev.map_row Ev.map_take_ Ev.map_drop_ Ev.Bk_i Ev.GlB_0 Ev.GlB_mk Ev.gl_nil Ev.gl_cons Ev.gl_snoc Ev.gl_setN Ev.appendTo_gl Ev.consV_gl Ev.elems_gl Ev.fin_gl Ev.view_gl Ev.argv_gl Ev.topR_gl Ev.sp_z Ev.sp_0 Ev.sp_s Ev.km_z Ev.km_0 Ev.km_s Ev.beq_toList Ev.nc0 Ev.bq_t Ev.bq_f Ev.bodyN Ev.le_maxRow Int.cast_ofNat_Int IntWalk.i64_in IntWalk.u64_in IntWalk.u8_in beq_self_eq_true Bool.true_beq Bool.false_beq Bool.and_true Bool.true_and Bool.false_and Bool.and_false Bool.and_self Bool.not_true Bool.not_false Bool.not_eq_true cond_true cond_false if_true if_false and_true true_and and_self decide_true decide_false Bool.or_true Bool.true_or Bool.or_false Bool.false_or List.isEmpty List.isEmpty_nil List.size_toArray List.map List.length_map List.length_cons List.length_nil Option.map Option.bind Option.getD Option.isSome List.replicate Bool.false_eq_true implies_true false_implies forall_const Array.toList Array.isEmpty List.append List.nil_append List.cons_append List.drop_zero List.take_length List.take_succ_cons List.take_zero List.take_nil List.getElem?_map List.getElem?_cons_zero List.getElem?_cons_succ List.getElem?_nil List.append_nil eq_self Int.toNat_natCast List.length_append Nat.zero_add Nat.add_zero List.length_replicate Nat.sub_zero Option.map_some Option.map_none Int.le_refl Nat.le_refl Int.natCast_nonneg List.map_append
noncomputable def G_bound_Sub_Quanta (L : Nat) : Specs := [(178, s_bound_Add_Quanta L), (179, s_bound_Neg_Quanta L)]
noncomputable def T_bound_Sub_Quanta : Table := tableOf [(101, en101)]
theorem Go_bound_Sub_Quanta (L : Nat) (hL : L ≤ 4611686018427387904) : ∀ g s, Ev.look (G_bound_Sub_Quanta L) g = some s → SpecOk Try.prog g s := (specs_cons (ok_bound_Add_Quanta L hL) (specs_cons (ok_bound_Neg_Quanta L hL) specs_nil))
theorem To_bound_Sub_Quanta (L : Nat) : TableOk Try.prog ((G_bound_Sub_Quanta L).map (·.1)) T_bound_Sub_Quanta := (table_cons Try.func101 (by kernel_rfl) (by kernel_rfl) table_nil)
theorem lk_bound_Sub_Quanta_178 (L : Nat) : Ev.look (G_bound_Sub_Quanta L) 178 = some (s_bound_Add_Quanta L) := nr rfl
theorem lk_bound_Sub_Quanta_179 (L : Nat) : Ev.look (G_bound_Sub_Quanta L) 179 = some (s_bound_Neg_Quanta L) := nr rfl
attribute [local go_sem] Ty.tk4 Ty.ub4 Ty.ek4 Ty.zv4 Ty.by4 Ty.so4 Ty.tk24 Ty.ik24 Ty.ek24 Ty.zv24 Ty.by24 Ty.so24 Ty.tk35 Ty.ct35 Ty.ek35 Ty.zv35 Ty.by35 Ty.so35 Ty.k35_e E.dw101_1 E.kl101_1 E.nc101_1 E.mk101_1000000 lk_bound_Sub_Quanta_178 lk_bound_Sub_Quanta_179 s_bound_Add_Quanta_run s_bound_Neg_Quanta_run loopN loops Try.f101
theorem e_bound_Sub_Quanta (L : Nat) (hL : L ≤ 4611686018427387904) (a0_0 : Int) (a0_1 : Int) (a0_2 : Bool) (a1_0 : Int) (a1_1 : Int) (a1_2 : Bool) (res : Int × Int × Bool) (h : p_bound_Sub_Quanta L a0_0 a0_1 a0_2 a1_0 a1_1 a1_2 = some res) : evTop Try.prog (G_bound_Sub_Quanta L) T_bound_Sub_Quanta L 1 101 [.agg 35 [.int .i64 a0_0, .int .i64 a0_1, .bool a0_2], .agg 35 [.int .i64 a1_0, .int .i64 a1_1, .bool a1_2]] = some [.agg 35 [.int .i64 res.1, .int .i64 res.2.1, .bool res.2.2]] := by
  revert h
  unfold p_bound_Sub_Quanta evTop
  simp only [List.map]
  rw [evF_s (fn := Try.f101) (msk := en101.ms) (hT := by rfl) (hb := by rfl)]
  refine bnd_i fun r1 c1 => ?_
  refine bnd_i fun r2 c2 => ?_
  rintro ⟨⟩
  simp only [go_sem, Nat.reduceAdd, Nat.reduceSub, Nat.reduceMul, Nat.reduceEqDiff, Nat.reduceBEq, Nat.reduceLT, Nat.reduceLeDiff, Nat.reducePow, Int.reduceToNat, Int.reduceLT, Int.reduceLE, Int.reduceGT, Int.reduceGE, Int.reduceEq, Int.reduceNeg, Int.reduceAdd, Int.reduceSub, Int.reduceMul, ↓reduceIte, reduceCtorEq, *]
noncomputable def s_bound_Sub_Quanta (L : Nat) : Ev.Spec := specP (cCons k35 (cCons k35 cNil)) (fun x => p_bound_Sub_Quanta L x.1.1 x.1.2.1 x.1.2.2.1 x.2.1.1 x.2.1.2.1 x.2.1.2.2.1) (fun r => [.agg 35 [.int .i64 r.1, .int .i64 r.2.1, .bool r.2.2]])
theorem s_bound_Sub_Quanta_run (L : Nat) (a0_0 : Int) (a0_1 : Int) (a0_2 : Bool) (a1_0 : Int) (a1_1 : Int) (a1_2 : Bool) : (s_bound_Sub_Quanta L).run [.agg 35 [.int .i64 a0_0, .int .i64 a0_1, .bool a0_2], .agg 35 [.int .i64 a1_0, .int .i64 a1_1, .bool a1_2]] = (p_bound_Sub_Quanta L a0_0 a0_1 a0_2 a1_0 a1_1 a1_2).map fun r => [.agg 35 [.int .i64 r.1, .int .i64 r.2.1, .bool r.2.2]] := specP_run (cCons k35 (cCons k35 cNil)) (fun x => p_bound_Sub_Quanta L x.1.1 x.1.2.1 x.1.2.2.1 x.2.1.1 x.2.1.2.1 x.2.1.2.2.1) (fun r => [.agg 35 [.int .i64 r.1, .int .i64 r.2.1, .bool r.2.2]]) ((a0_0, a0_1, a0_2, ()), (a1_0, a1_1, a1_2, ()), ())
theorem ok_bound_Sub_Quanta (L : Nat) (hL : L ≤ 4611686018427387904) : SpecOk Try.prog 101 (s_bound_Sub_Quanta L) := specP_ok mixed (Go_bound_Sub_Quanta L hL) (To_bound_Sub_Quanta L) fun x r h => ⟨L, 1, e_bound_Sub_Quanta L hL x.1.1 x.1.2.1 x.1.2.2.1 x.2.1.1 x.2.1.2.1 x.2.1.2.2.1 r h⟩
end Go.Proofs.Ytnojehmbiceceaa.P
end
section
set_option linter.unusedVariables false
set_option linter.unusedSimpArgs false
set_option maxRecDepth 100000
namespace Go.Proofs.Ytnojehmbiceceaa.E
open Go.Ev
noncomputable def en102 : Entry := ⟨Try.f102, [(1000000, mb 11 0 [4])]⟩
theorem dw102_1 (lv : Nat) (env : List V) (st : Store) (o : Option (List V × Store)) : drawR en102.ms 1 lv env st o = if lv < 1000000000000000000000000000000 then (o) else none := nr rfl
theorem kl102_1 (lv : Nat) (st : Store) : killR en102.ms 1 lv st = st := nr rfl
theorem nc102_1 : ncOf en102.ms 1 = false := nr rfl
theorem mk102_1000000 (vs : List V) : mask (maskOf en102.ms 1000000) vs = km 11 0 [4] vs := mask_mb _ _ _ _
end Go.Proofs.Ytnojehmbiceceaa.E
end
section
set_option linter.unusedVariables false
set_option linter.unusedSimpArgs false
set_option maxRecDepth 100000
namespace Go.Proofs.Ytnojehmbiceceaa.E
open Go.Ev
noncomputable def en180 : Entry := ⟨Try.f180, [(1000000, mb 20 0 [4])]⟩
theorem mk180_1000000 (vs : List V) : mask (maskOf en180.ms 1000000) vs = km 20 0 [4] vs := mask_mb _ _ _ _
end Go.Proofs.Ytnojehmbiceceaa.E
end
section
set_option linter.unusedVariables false
set_option linter.unusedSimpArgs false
set_option maxRecDepth 100000
namespace Go.Proofs.Ytnojehmbiceceaa.P
open Go.Ev Go.IntKind Go.Proofs.Ytnojehmbiceceaa Go.Proofs.Ytnojehmbiceceaa.Ty Go.Proofs.Ytnojehmbiceceaa.E
def p_bound_Min_Quanta (L : Nat) (a0_0 : Int) (a0_1 : Int) (a0_2 : Bool) (a1_0 : Int) (a1_1 : Int) (a1_2 : Bool) : Option (Int × Int × Bool) := bnd (p_bound_vague_Quanta L a0_0 a0_1 a0_2 a1_0 a1_1 a1_2) fun r1 => cb r1 (bnd (p_bound_None_Quanta L) fun r2 => some (r2.1, r2.2.1, r2.2.2)) (bnd (p_bound_Of_Quanta L (minI a0_0 a1_0) (minI a0_1 a1_1)) fun r3 => some (r3.1, r3.2.1, r3.2.2))
attribute [local go_sem] Ev.putR_s Ev.putR_0 Ev.thenO_s Ev.thenO_0 Ev.seqR_n Ev.seqR_e Ev.seqR_r Ev.seqR_0 Ev.blkR_e Ev.blkR_n Ev.blkR_r Ev.blkR_0 Ev.normR_s Ev.normR_0 Ev.outR_r Ev.outR_n Ev.outR_0 Ev.retS_s Ev.retS_0 Ev.pureO_s Ev.pureO_0 Ev.topR_0 Ev.topR_t Ev.topR_t0 Ev.oneL_0 Ev.oneL_s Ev.topR_d Ev.topR_nils Ev.topR_agg Ev.topR_rs Ev.evOp_move Ev.evOp_assign Ev.evOp_pick Ev.evOp_alloc Ev.evOp_box Ev.evOp_build Ev.evOp_buildSlice Ev.evOp_load Ev.evOp_store Ev.evOp_makeMap Ev.evOp_lookup Ev.evOp_mapUpdate Ev.evOp_insert Ev.evOp_nilCheck Ev.evOp_binOp Ev.evOp_unOp Ev.evOp_convert Ev.evOp_makeFunc Ev.evOp_makeSlice Ev.evOp_slice Ev.evOp_fieldAddr Ev.evOp_field Ev.evOp_indexAddr Ev.evOp_index Ev.evOp_extract Ev.evOp_call Ev.evOp_append Ev.evOp_clear Ev.evOp_len Ev.evOp_min Ev.evOp_max Ev.condR_b Ev.condR_t Ev.evOps_nil Ev.evOps_plain Ev.evOps_guard Ev.runG_eq Ev.skipG_eq Ev.condL_tt Ev.condL_ff Ev.condL_tf Ev.condL_ft Ev.condL_u Ev.condC_t Ev.condC_f Ev.evC_skip Ev.evC_ret Ev.evC_exit Ev.evC_label Ev.evC_region Ev.evC_draw Ev.evC_seq Ev.evC_cond Ev.evC_block Ev.evC_loop Ev.fin_d Ev.fin_nils Ev.fin_agg_ Ev.fin_rs Ev.finS_s Ev.mapO_fin Ev.upd_upd Ev.argv_d Ev.argv_nils Ev.argv_agg Ev.argv_rs Ev.argv_p Ev.fk_low Ev.appendTo_nils Ev.appendTo_rs Ev.consV_d Ev.consV_agg Ev.consV_p Ev.consV_rs Ev.consV_nils Ev.consV_fn Ev.consV_und Ev.consV_jk Ev.consV_grown Ev.topR_grown Ev.len_grown Ev.consV_mp Ev.sameK_i Ev.sameK_s Ev.mget_0 Ev.mget_hit Ev.mget_miss Ev.mput_0 Ev.mput_hit Ev.mput_miss Ev.apartAll Ev.apartL Ev.apartV Ev.freeAll Ev.sel Ev.keyOfV Ev.evLookup Ev.evPut Ev.hintOk Ev.keyOk Ev.consP Ev.lookV Ev.guardV Ev.dstAt Ev.evPure Ev.evStore Ev.evBin Ev.evBinO Ev.evNil Ev.isNilC Ev.evUn Ev.evConv Ev.evSlice Ev.optI Ev.foldI Ev.capsOk Ev.noTup Ev.nth Ev.setN Ev.killAt Ev.pad Ev.V.get Ev.V.put Ev.putD Ev.newBlk Ev.upd Ev.keq Ev.empty Ev.evCall Ev.V.args Ev.argP Ev.callOf Ev.evNilP Ev.isNilP Ev.look Ev.V.view.views Ev.V.view Ev.V.toD Ev.V.toD.V.toDs Ev.V.pure.pures Ev.V.pure Ev.D.flat.flats Ev.D.flat Ev.mkAgg Ev.allD Ev.aggParts Ev.setParts Ev.setElems Ev.getPath Ev.setPath Ev.subL Ev.eqD Ev.eqD.eqDs Ev.and2 Ev.strCut Ev.evalT Ev.constT Ev.evArgs Ev.mask Ev.maskOf Ev.tableOf Ev.compT Ev.resV Ev.retV Ev.mapO Ev.frzO_n Ev.frzO_e Ev.frzO_r Ev.frzO_0 Ev.mb_z Ev.mb_0 Ev.mb_s Ev.frzL_t Ev.frzL_f Ev.frzL_0 Ev.frzT_nils Ev.frzT_rs Ev.frzT_p Ev.frzK_i Ev.keyIn_i Ev.rI_nil Ev.rI_cons Ev.rI_row Ev.rI_app Ev.r_d Ev.r_nils Ev.r_agg Ev.r_rs Ev.r_gl Ev.vw_row Ev.vw_app Ev.appO_s Ev.frzT_gl Ev.allD_gl Ev.killAt_i Ev.tkOne_i Ev.hT_agg Ev.hT_vagg Ev.hT_int Ev.hT_bool Ev.hT_str Ev.hT_sl Ev.hT_ptr Ev.hT_np Ev.hT_p Ev.hT_rs Ev.hT_mp Ev.hT_nils Ev.hT_fn Ev.hT_jk Ev.hT_gl Ev.eO_sl Ev.eO_nils Ev.eO_rs Ev.eT_sl Ev.eT_rs Ev.pL_str Ev.pL_sl Ev.pL_rs Ev.pL_nils Ev.pL_min Ev.pL_max Ev.len_glB Ev.noTup_gl Ev.rowV_len Ev.rowV_nil Ev.rowV_cons Ev.rowV_append Ev.rowV_set Ev.rowV_replicate Ev.nth_row Ev.row_take Ev.row_drop Ev.toDs_row Ev.fin_row Ev.map_row Ev.map_take_ Ev.map_drop_ Ev.Bk_i Ev.GlB_0 Ev.GlB_mk Ev.gl_nil Ev.gl_cons Ev.gl_snoc Ev.gl_setN Ev.appendTo_gl Ev.consV_gl Ev.elems_gl Ev.fin_gl Ev.view_gl Ev.argv_gl Ev.topR_gl Ev.sp_z Ev.sp_0 Ev.sp_s Ev.km_z Ev.km_0 Ev.km_s Ev.beq_toList Ev.nc0 Ev.bq_t Ev.bq_f Ev.bodyN Ev.le_maxRow Int.cast_ofNat_Int IntWalk.i64_in IntWalk.u64_in IntWalk.u8_in beq_self_eq_true Bool.true_beq Bool.false_beq Bool.and_true Bool.true_and Bool.false_and Bool.and_false Bool.and_self Bool.not_true Bool.not_false Bool.not_eq_true cond_true cond_false if_true if_false and_true true_and and_self decide_true decide_false Bool.or_true Bool.true_or Bool.or_false Bool.false_or List.isEmpty List.isEmpty_nil List.size_toArray List.map List.length_map List.length_cons List.length_nil Option.map Option.bind Option.getD Option.isSome List.replicate Bool.false_eq_true implies_true false_implies forall_const Array.toList Array.isEmpty List.append List.nil_append List.cons_append List.drop_zero List.take_length List.take_succ_cons List.take_zero List.take_nil List.getElem?_map List.getElem?_cons_zero List.getElem?_cons_succ List.getElem?_nil List.append_nil eq_self Int.toNat_natCast List.length_append Nat.zero_add Nat.add_zero List.length_replicate Nat.sub_zero Option.map_some Option.map_none Int.le_refl Nat.le_refl Int.natCast_nonneg List.map_append
noncomputable def G_bound_Min_Quanta (L : Nat) : Specs := [(77, s_bound_None_Quanta L), (80, s_bound_Of_Quanta L), (226, s_bound_vague_Quanta L)]
noncomputable def T_bound_Min_Quanta : Table := tableOf [(180, en180)]
theorem Go_bound_Min_Quanta (L : Nat) (hL : L ≤ 4611686018427387904) : ∀ g s, Ev.look (G_bound_Min_Quanta L) g = some s → SpecOk Try.prog g s := (specs_cons (ok_bound_None_Quanta L hL) (specs_cons (ok_bound_Of_Quanta L hL) (specs_cons (ok_bound_vague_Quanta L hL) specs_nil)))
theorem To_bound_Min_Quanta (L : Nat) : TableOk Try.prog ((G_bound_Min_Quanta L).map (·.1)) T_bound_Min_Quanta := (table_cons Try.func180 (by kernel_rfl) (by kernel_rfl) table_nil)
theorem lk_bound_Min_Quanta_77 (L : Nat) : Ev.look (G_bound_Min_Quanta L) 77 = some (s_bound_None_Quanta L) := nr rfl
theorem lk_bound_Min_Quanta_80 (L : Nat) : Ev.look (G_bound_Min_Quanta L) 80 = some (s_bound_Of_Quanta L) := nr rfl
theorem lk_bound_Min_Quanta_226 (L : Nat) : Ev.look (G_bound_Min_Quanta L) 226 = some (s_bound_vague_Quanta L) := nr rfl
attribute [local go_sem] Ty.tk4 Ty.ub4 Ty.ek4 Ty.zv4 Ty.by4 Ty.so4 Ty.tk24 Ty.ik24 Ty.ek24 Ty.zv24 Ty.by24 Ty.so24 Ty.tk35 Ty.ct35 Ty.ek35 Ty.zv35 Ty.by35 Ty.so35 Ty.k35_e E.mk180_1000000 lk_bound_Min_Quanta_77 lk_bound_Min_Quanta_80 lk_bound_Min_Quanta_226 s_bound_None_Quanta_run s_bound_Of_Quanta_run s_bound_vague_Quanta_run loopN loops Try.f180
theorem e_bound_Min_Quanta (L : Nat) (hL : L ≤ 4611686018427387904) (a0_0 : Int) (a0_1 : Int) (a0_2 : Bool) (a1_0 : Int) (a1_1 : Int) (a1_2 : Bool) (res : Int × Int × Bool) (h : p_bound_Min_Quanta L a0_0 a0_1 a0_2 a1_0 a1_1 a1_2 = some res) : evTop Try.prog (G_bound_Min_Quanta L) T_bound_Min_Quanta L 1 180 [.agg 35 [.int .i64 a0_0, .int .i64 a0_1, .bool a0_2], .agg 35 [.int .i64 a1_0, .int .i64 a1_1, .bool a1_2]] = some [.agg 35 [.int .i64 res.1, .int .i64 res.2.1, .bool res.2.2]] := by
  revert h
  unfold p_bound_Min_Quanta evTop
  simp only [List.map]
  rw [evF_s (fn := Try.f180) (msk := en180.ms) (hT := by rfl) (hb := by rfl)]
  refine bnd_i fun r1 c1 => ?_
  refine cb_i (fun c2 => ?_) (fun c2 => ?_)
  · refine bnd_i fun r2 c3 => ?_
    rintro ⟨⟩
    simp only [go_sem, Nat.reduceAdd, Nat.reduceSub, Nat.reduceMul, Nat.reduceEqDiff, Nat.reduceBEq, Nat.reduceLT, Nat.reduceLeDiff, Nat.reducePow, Int.reduceToNat, Int.reduceLT, Int.reduceLE, Int.reduceGT, Int.reduceGE, Int.reduceEq, Int.reduceNeg, Int.reduceAdd, Int.reduceSub, Int.reduceMul, ↓reduceIte, reduceCtorEq, *]
  · refine bnd_i fun r3 c4 => ?_
    rintro ⟨⟩
    simp only [go_sem, Nat.reduceAdd, Nat.reduceSub, Nat.reduceMul, Nat.reduceEqDiff, Nat.reduceBEq, Nat.reduceLT, Nat.reduceLeDiff, Nat.reducePow, Int.reduceToNat, Int.reduceLT, Int.reduceLE, Int.reduceGT, Int.reduceGE, Int.reduceEq, Int.reduceNeg, Int.reduceAdd, Int.reduceSub, Int.reduceMul, ↓reduceIte, reduceCtorEq, *]
noncomputable def s_bound_Min_Quanta (L : Nat) : Ev.Spec := specP (cCons k35 (cCons k35 cNil)) (fun x => p_bound_Min_Quanta L x.1.1 x.1.2.1 x.1.2.2.1 x.2.1.1 x.2.1.2.1 x.2.1.2.2.1) (fun r => [.agg 35 [.int .i64 r.1, .int .i64 r.2.1, .bool r.2.2]])
theorem s_bound_Min_Quanta_run (L : Nat) (a0_0 : Int) (a0_1 : Int) (a0_2 : Bool) (a1_0 : Int) (a1_1 : Int) (a1_2 : Bool) : (s_bound_Min_Quanta L).run [.agg 35 [.int .i64 a0_0, .int .i64 a0_1, .bool a0_2], .agg 35 [.int .i64 a1_0, .int .i64 a1_1, .bool a1_2]] = (p_bound_Min_Quanta L a0_0 a0_1 a0_2 a1_0 a1_1 a1_2).map fun r => [.agg 35 [.int .i64 r.1, .int .i64 r.2.1, .bool r.2.2]] := specP_run (cCons k35 (cCons k35 cNil)) (fun x => p_bound_Min_Quanta L x.1.1 x.1.2.1 x.1.2.2.1 x.2.1.1 x.2.1.2.1 x.2.1.2.2.1) (fun r => [.agg 35 [.int .i64 r.1, .int .i64 r.2.1, .bool r.2.2]]) ((a0_0, a0_1, a0_2, ()), (a1_0, a1_1, a1_2, ()), ())
theorem ok_bound_Min_Quanta (L : Nat) (hL : L ≤ 4611686018427387904) : SpecOk Try.prog 180 (s_bound_Min_Quanta L) := specP_ok mixed (Go_bound_Min_Quanta L hL) (To_bound_Min_Quanta L) fun x r h => ⟨L, 1, e_bound_Min_Quanta L hL x.1.1 x.1.2.1 x.1.2.2.1 x.2.1.1 x.2.1.2.1 x.2.1.2.2.1 r h⟩
end Go.Proofs.Ytnojehmbiceceaa.P
end
section
set_option linter.unusedVariables false
set_option linter.unusedSimpArgs false
set_option maxRecDepth 100000
namespace Go.Proofs.Ytnojehmbiceceaa.P
open Go.Ev Go.IntKind Go.Proofs.Ytnojehmbiceceaa Go.Proofs.Ytnojehmbiceceaa.Ty Go.Proofs.Ytnojehmbiceceaa.E
def p_bound_Max_Quanta (L : Nat) (a0_0 : Int) (a0_1 : Int) (a0_2 : Bool) (a1_0 : Int) (a1_1 : Int) (a1_2 : Bool) : Option (Int × Int × Bool) := bnd (p_bound_Neg_Quanta L a0_0 a0_1 a0_2) fun r1 => bnd (p_bound_Neg_Quanta L a1_0 a1_1 a1_2) fun r2 => bnd (p_bound_Min_Quanta L r1.1 r1.2.1 r1.2.2 r2.1 r2.2.1 r2.2.2) fun r3 => bnd (p_bound_Neg_Quanta L r3.1 r3.2.1 r3.2.2) fun r4 => some (r4.1, r4.2.1, r4.2.2)
attribute [local go_sem] Ev.putR_s Ev.putR_0 Ev.thenO_s Ev.thenO_0 Ev.seqR_n Ev.seqR_e Ev.seqR_r Ev.seqR_0 Ev.blkR_e Ev.blkR_n Ev.blkR_r Ev.blkR_0 Ev.normR_s Ev.normR_0 Ev.outR_r Ev.outR_n Ev.outR_0 Ev.retS_s Ev.retS_0 Ev.pureO_s Ev.pureO_0 Ev.topR_0 Ev.topR_t Ev.topR_t0 Ev.oneL_0 Ev.oneL_s Ev.topR_d Ev.topR_nils Ev.topR_agg Ev.topR_rs Ev.evOp_move Ev.evOp_assign Ev.evOp_pick Ev.evOp_alloc Ev.evOp_box Ev.evOp_build Ev.evOp_buildSlice Ev.evOp_load Ev.evOp_store Ev.evOp_makeMap Ev.evOp_lookup Ev.evOp_mapUpdate Ev.evOp_insert Ev.evOp_nilCheck Ev.evOp_binOp Ev.evOp_unOp Ev.evOp_convert Ev.evOp_makeFunc Ev.evOp_makeSlice Ev.evOp_slice Ev.evOp_fieldAddr Ev.evOp_field Ev.evOp_indexAddr Ev.evOp_index Ev.evOp_extract Ev.evOp_call Ev.evOp_append Ev.evOp_clear Ev.evOp_len Ev.evOp_min Ev.evOp_max Ev.condR_b Ev.condR_t Ev.evOps_nil Ev.evOps_plain Ev.evOps_guard Ev.runG_eq Ev.skipG_eq Ev.condL_tt Ev.condL_ff Ev.condL_tf Ev.condL_ft Ev.condL_u Ev.condC_t Ev.condC_f Ev.evC_skip Ev.evC_ret Ev.evC_exit Ev.evC_label Ev.evC_region Ev.evC_draw Ev.evC_seq Ev.evC_cond Ev.evC_block Ev.evC_loop Ev.fin_d Ev.fin_nils Ev.fin_agg_ Ev.fin_rs Ev.finS_s Ev.mapO_fin Ev.upd_upd Ev.argv_d Ev.argv_nils Ev.argv_agg Ev.argv_rs Ev.argv_p Ev.fk_low Ev.appendTo_nils Ev.appendTo_rs Ev.consV_d Ev.consV_agg Ev.consV_p Ev.consV_rs Ev.consV_nils Ev.consV_fn Ev.consV_und Ev.consV_jk Ev.consV_grown Ev.topR_grown Ev.len_grown Ev.consV_mp Ev.sameK_i Ev.sameK_s Ev.mget_0 Ev.mget_hit Ev.mget_miss Ev.mput_0 Ev.mput_hit Ev.mput_miss Ev.apartAll Ev.apartL Ev.apartV Ev.freeAll Ev.sel Ev.keyOfV Ev.evLookup Ev.evPut Ev.hintOk Ev.keyOk Ev.consP Ev.lookV Ev.guardV Ev.dstAt Ev.evPure Ev.evStore Ev.evBin Ev.evBinO Ev.evNil Ev.isNilC Ev.evUn Ev.evConv Ev.evSlice Ev.optI Ev.foldI Ev.capsOk Ev.noTup Ev.nth Ev.setN Ev.killAt Ev.pad Ev.V.get Ev.V.put Ev.putD Ev.newBlk Ev.upd Ev.keq Ev.empty Ev.evCall Ev.V.args Ev.argP Ev.callOf Ev.evNilP Ev.isNilP Ev.look Ev.V.view.views Ev.V.view Ev.V.toD Ev.V.toD.V.toDs Ev.V.pure.pures Ev.V.pure Ev.D.flat.flats Ev.D.flat Ev.mkAgg Ev.allD Ev.aggParts Ev.setParts Ev.setElems Ev.getPath Ev.setPath Ev.subL Ev.eqD Ev.eqD.eqDs Ev.and2 Ev.strCut Ev.evalT Ev.constT Ev.evArgs Ev.mask Ev.maskOf Ev.tableOf Ev.compT Ev.resV Ev.retV Ev.mapO Ev.frzO_n Ev.frzO_e Ev.frzO_r Ev.frzO_0 Ev.mb_z Ev.mb_0 Ev.mb_s Ev.frzL_t Ev.frzL_f Ev.frzL_0 Ev.frzT_nils Ev.frzT_rs Ev.frzT_p Ev.frzK_i Ev.keyIn_i Ev.rI_nil Ev.rI_cons Ev.rI_row Ev.rI_app Ev.r_d Ev.r_nils Ev.r_agg Ev.r_rs Ev.r_gl Ev.vw_row Ev.vw_app Ev.appO_s Ev.frzT_gl Ev.allD_gl Ev.killAt_i Ev.tkOne_i Ev.hT_agg Ev.hT_vagg Ev.hT_int Ev.hT_bool Ev.hT_str Ev.hT_sl Ev.hT_ptr Ev.hT_np Ev.hT_p Ev.hT_rs Ev.hT_mp Ev.hT_nils Ev.hT_fn Ev.hT_jk Ev.hT_gl Ev.eO_sl Ev.eO_nils Ev.eO_rs Ev.eT_sl Ev.eT_rs Ev.pL_str Ev.pL_sl Ev.pL_rs Ev.pL_nils Ev.pL_min Ev.pL_max Ev.len_glB Ev.noTup_gl Ev.rowV_len Ev.rowV_nil Ev.rowV_cons Ev.rowV_append Ev.rowV_set Ev.rowV_replicate Ev.nth_row Ev.row_take Ev.row_drop Ev.toDs_row Ev.fin_row Ev.map_row Ev.map_take_ Ev.map_drop_ Ev.Bk_i Ev.GlB_0 Ev.GlB_mk Ev.gl_nil Ev.gl_cons Ev.gl_snoc Ev.gl_setN Ev.appendTo_gl Ev.consV_gl Ev.elems_gl Ev.fin_gl Ev.view_gl Ev.argv_gl Ev.topR_gl Ev.sp_z Ev.sp_0 Ev.sp_s Ev.km_z Ev.km_0 Ev.km_s Ev.beq_toList Ev.nc0 Ev.bq_t Ev.bq_f Ev.bodyN Ev.le_maxRow Int.cast_ofNat_Int IntWalk.i64_in IntWalk.u64_in IntWalk.u8_in beq_self_eq_true Bool.true_beq Bool.false_beq Bool.and_true Bool.true_and Bool.false_and Bool.and_false Bool.and_self Bool.not_true Bool.not_false Bool.not_eq_true cond_true cond_false if_true if_false and_true true_and and_self decide_true decide_false Bool.or_true Bool.true_or Bool.or_false Bool.false_or List.isEmpty List.isEmpty_nil List.size_toArray List.map List.length_map List.length_cons List.length_nil Option.map Option.bind Option.getD Option.isSome List.replicate Bool.false_eq_true implies_true false_implies forall_const Array.toList Array.isEmpty List.append List.nil_append List.cons_append List.drop_zero List.take_length List.take_succ_cons List.take_zero List.take_nil List.getElem?_map List.getElem?_cons_zero List.getElem?_cons_succ List.getElem?_nil List.append_nil eq_self Int.toNat_natCast List.length_append Nat.zero_add Nat.add_zero List.length_replicate Nat.sub_zero Option.map_some Option.map_none Int.le_refl Nat.le_refl Int.natCast_nonneg List.map_append
noncomputable def G_bound_Max_Quanta (L : Nat) : Specs := [(179, s_bound_Neg_Quanta L), (180, s_bound_Min_Quanta L)]
noncomputable def T_bound_Max_Quanta : Table := tableOf [(102, en102)]
theorem Go_bound_Max_Quanta (L : Nat) (hL : L ≤ 4611686018427387904) : ∀ g s, Ev.look (G_bound_Max_Quanta L) g = some s → SpecOk Try.prog g s := (specs_cons (ok_bound_Neg_Quanta L hL) (specs_cons (ok_bound_Min_Quanta L hL) specs_nil))
theorem To_bound_Max_Quanta (L : Nat) : TableOk Try.prog ((G_bound_Max_Quanta L).map (·.1)) T_bound_Max_Quanta := (table_cons Try.func102 (by kernel_rfl) (by kernel_rfl) table_nil)
theorem lk_bound_Max_Quanta_179 (L : Nat) : Ev.look (G_bound_Max_Quanta L) 179 = some (s_bound_Neg_Quanta L) := nr rfl
theorem lk_bound_Max_Quanta_180 (L : Nat) : Ev.look (G_bound_Max_Quanta L) 180 = some (s_bound_Min_Quanta L) := nr rfl
attribute [local go_sem] Ty.tk4 Ty.ub4 Ty.ek4 Ty.zv4 Ty.by4 Ty.so4 Ty.tk24 Ty.ik24 Ty.ek24 Ty.zv24 Ty.by24 Ty.so24 Ty.tk35 Ty.ct35 Ty.ek35 Ty.zv35 Ty.by35 Ty.so35 Ty.k35_e E.dw102_1 E.kl102_1 E.nc102_1 E.mk102_1000000 lk_bound_Max_Quanta_179 lk_bound_Max_Quanta_180 s_bound_Neg_Quanta_run s_bound_Min_Quanta_run loopN loops Try.f102
theorem e_bound_Max_Quanta (L : Nat) (hL : L ≤ 4611686018427387904) (a0_0 : Int) (a0_1 : Int) (a0_2 : Bool) (a1_0 : Int) (a1_1 : Int) (a1_2 : Bool) (res : Int × Int × Bool) (h : p_bound_Max_Quanta L a0_0 a0_1 a0_2 a1_0 a1_1 a1_2 = some res) : evTop Try.prog (G_bound_Max_Quanta L) T_bound_Max_Quanta L 1 102 [.agg 35 [.int .i64 a0_0, .int .i64 a0_1, .bool a0_2], .agg 35 [.int .i64 a1_0, .int .i64 a1_1, .bool a1_2]] = some [.agg 35 [.int .i64 res.1, .int .i64 res.2.1, .bool res.2.2]] := by
  revert h
  unfold p_bound_Max_Quanta evTop
  simp only [List.map]
  rw [evF_s (fn := Try.f102) (msk := en102.ms) (hT := by rfl) (hb := by rfl)]
  refine bnd_i fun r1 c1 => ?_
  refine bnd_i fun r2 c2 => ?_
  refine bnd_i fun r3 c3 => ?_
  refine bnd_i fun r4 c4 => ?_
  rintro ⟨⟩
  simp only [go_sem, Nat.reduceAdd, Nat.reduceSub, Nat.reduceMul, Nat.reduceEqDiff, Nat.reduceBEq, Nat.reduceLT, Nat.reduceLeDiff, Nat.reducePow, Int.reduceToNat, Int.reduceLT, Int.reduceLE, Int.reduceGT, Int.reduceGE, Int.reduceEq, Int.reduceNeg, Int.reduceAdd, Int.reduceSub, Int.reduceMul, ↓reduceIte, reduceCtorEq, *]
noncomputable def s_bound_Max_Quanta (L : Nat) : Ev.Spec := specP (cCons k35 (cCons k35 cNil)) (fun x => p_bound_Max_Quanta L x.1.1 x.1.2.1 x.1.2.2.1 x.2.1.1 x.2.1.2.1 x.2.1.2.2.1) (fun r => [.agg 35 [.int .i64 r.1, .int .i64 r.2.1, .bool r.2.2]])
theorem s_bound_Max_Quanta_run (L : Nat) (a0_0 : Int) (a0_1 : Int) (a0_2 : Bool) (a1_0 : Int) (a1_1 : Int) (a1_2 : Bool) : (s_bound_Max_Quanta L).run [.agg 35 [.int .i64 a0_0, .int .i64 a0_1, .bool a0_2], .agg 35 [.int .i64 a1_0, .int .i64 a1_1, .bool a1_2]] = (p_bound_Max_Quanta L a0_0 a0_1 a0_2 a1_0 a1_1 a1_2).map fun r => [.agg 35 [.int .i64 r.1, .int .i64 r.2.1, .bool r.2.2]] := specP_run (cCons k35 (cCons k35 cNil)) (fun x => p_bound_Max_Quanta L x.1.1 x.1.2.1 x.1.2.2.1 x.2.1.1 x.2.1.2.1 x.2.1.2.2.1) (fun r => [.agg 35 [.int .i64 r.1, .int .i64 r.2.1, .bool r.2.2]]) ((a0_0, a0_1, a0_2, ()), (a1_0, a1_1, a1_2, ()), ())
theorem ok_bound_Max_Quanta (L : Nat) (hL : L ≤ 4611686018427387904) : SpecOk Try.prog 102 (s_bound_Max_Quanta L) := specP_ok mixed (Go_bound_Max_Quanta L hL) (To_bound_Max_Quanta L) fun x r h => ⟨L, 1, e_bound_Max_Quanta L hL x.1.1 x.1.2.1 x.1.2.2.1 x.2.1.1 x.2.1.2.1 x.2.1.2.2.1 r h⟩
end Go.Proofs.Ytnojehmbiceceaa.P
end
section
set_option linter.unusedVariables false
set_option linter.unusedSimpArgs false
set_option maxRecDepth 100000
namespace Go.Proofs.Ytnojehmbiceceaa.E
open Go.Ev
noncomputable def en103 : Entry := ⟨Try.f103, [(1000000, mb 6 0 [2])]⟩
theorem mk103_1000000 (vs : List V) : mask (maskOf en103.ms 1000000) vs = km 6 0 [2] vs := mask_mb _ _ _ _
end Go.Proofs.Ytnojehmbiceceaa.E
end
section
set_option linter.unusedVariables false
set_option linter.unusedSimpArgs false
set_option maxRecDepth 100000
namespace Go.Proofs.Ytnojehmbiceceaa.P
open Go.Ev Go.IntKind Go.Proofs.Ytnojehmbiceceaa Go.Proofs.Ytnojehmbiceceaa.Ty Go.Proofs.Ytnojehmbiceceaa.E
def p_bound_Exact_Quanta (L : Nat) (a0 : Int) : Option (Int × Int × Bool) := bnd (p_bound_Of_Quanta L a0 a0) fun r1 => some (r1.1, r1.2.1, r1.2.2)
attribute [local go_sem] Ev.putR_s Ev.putR_0 Ev.thenO_s Ev.thenO_0 Ev.seqR_n Ev.seqR_e Ev.seqR_r Ev.seqR_0 Ev.blkR_e Ev.blkR_n Ev.blkR_r Ev.blkR_0 Ev.normR_s Ev.normR_0 Ev.outR_r Ev.outR_n Ev.outR_0 Ev.retS_s Ev.retS_0 Ev.pureO_s Ev.pureO_0 Ev.topR_0 Ev.topR_t Ev.topR_t0 Ev.oneL_0 Ev.oneL_s Ev.topR_d Ev.topR_nils Ev.topR_agg Ev.topR_rs Ev.evOp_move Ev.evOp_assign Ev.evOp_pick Ev.evOp_alloc Ev.evOp_box Ev.evOp_build Ev.evOp_buildSlice Ev.evOp_load Ev.evOp_store Ev.evOp_makeMap Ev.evOp_lookup Ev.evOp_mapUpdate Ev.evOp_insert Ev.evOp_nilCheck Ev.evOp_binOp Ev.evOp_unOp Ev.evOp_convert Ev.evOp_makeFunc Ev.evOp_makeSlice Ev.evOp_slice Ev.evOp_fieldAddr Ev.evOp_field Ev.evOp_indexAddr Ev.evOp_index Ev.evOp_extract Ev.evOp_call Ev.evOp_append Ev.evOp_clear Ev.evOp_len Ev.evOp_min Ev.evOp_max Ev.condR_b Ev.condR_t Ev.evOps_nil Ev.evOps_plain Ev.evOps_guard Ev.runG_eq Ev.skipG_eq Ev.condL_tt Ev.condL_ff Ev.condL_tf Ev.condL_ft Ev.condL_u Ev.condC_t Ev.condC_f Ev.evC_skip Ev.evC_ret Ev.evC_exit Ev.evC_label Ev.evC_region Ev.evC_draw Ev.evC_seq Ev.evC_cond Ev.evC_block Ev.evC_loop Ev.fin_d Ev.fin_nils Ev.fin_agg_ Ev.fin_rs Ev.finS_s Ev.mapO_fin Ev.upd_upd Ev.argv_d Ev.argv_nils Ev.argv_agg Ev.argv_rs Ev.argv_p Ev.fk_low Ev.appendTo_nils Ev.appendTo_rs Ev.consV_d Ev.consV_agg Ev.consV_p Ev.consV_rs Ev.consV_nils Ev.consV_fn Ev.consV_und Ev.consV_jk Ev.consV_grown Ev.topR_grown Ev.len_grown Ev.consV_mp Ev.sameK_i Ev.sameK_s Ev.mget_0 Ev.mget_hit Ev.mget_miss Ev.mput_0 Ev.mput_hit Ev.mput_miss Ev.apartAll Ev.apartL Ev.apartV Ev.freeAll Ev.sel Ev.keyOfV Ev.evLookup Ev.evPut Ev.hintOk Ev.keyOk Ev.consP Ev.lookV Ev.guardV Ev.dstAt Ev.evPure Ev.evStore Ev.evBin Ev.evBinO Ev.evNil Ev.isNilC Ev.evUn Ev.evConv Ev.evSlice Ev.optI Ev.foldI Ev.capsOk Ev.noTup Ev.nth Ev.setN Ev.killAt Ev.pad Ev.V.get Ev.V.put Ev.putD Ev.newBlk Ev.upd Ev.keq Ev.empty Ev.evCall Ev.V.args Ev.argP Ev.callOf Ev.evNilP Ev.isNilP Ev.look Ev.V.view.views Ev.V.view Ev.V.toD Ev.V.toD.V.toDs Ev.V.pure.pures Ev.V.pure Ev.D.flat.flats Ev.D.flat Ev.mkAgg Ev.allD Ev.aggParts Ev.setParts Ev.setElems Ev.getPath Ev.setPath Ev.subL Ev.eqD Ev.eqD.eqDs Ev.and2 Ev.strCut Ev.evalT Ev.constT Ev.evArgs Ev.mask Ev.maskOf Ev.tableOf Ev.compT Ev.resV Ev.retV Ev.mapO Ev.frzO_n Ev.frzO_e Ev.frzO_r Ev.frzO_0 Ev.mb_z Ev.mb_0 Ev.mb_s Ev.frzL_t Ev.frzL_f Ev.frzL_0 Ev.frzT_nils Ev.frzT_rs Ev.frzT_p Ev.frzK_i Ev.keyIn_i Ev.rI_nil Ev.rI_cons Ev.rI_row Ev.rI_app Ev.r_d Ev.r_nils Ev.r_agg Ev.r_rs Ev.r_gl Ev.vw_row Ev.vw_app Ev.appO_s Ev.frzT_gl Ev.allD_gl Ev.killAt_i Ev.tkOne_i Ev.hT_agg Ev.hT_vagg Ev.hT_int Ev.hT_bool Ev.hT_str Ev.hT_sl Ev.hT_ptr Ev.hT_np Ev.hT_p Ev.hT_rs Ev.hT_mp Ev.hT_nils Ev.hT_fn Ev.hT_jk Ev.hT_gl Ev.eO_sl Ev.eO_nils Ev.eO_rs Ev.eT_sl Ev.eT_rs Ev.pL_str Ev.pL_sl Ev.pL_rs Ev.pL_nils Ev.pL_min Ev.pL_max Ev.len_glB Ev.noTup_gl Ev.rowV_len Ev.rowV_nil Ev.rowV_cons Ev.rowV_append Ev.rowV_set Ev.rowV_replicate Ev.nth_row Ev.row_take Ev.row_drop Ev.toDs_row Ev.fin_row Ev.map_row Ev.map_take_ Ev.map_drop_ Ev.Bk_i Ev.GlB_0 Ev.GlB_mk Ev.gl_nil Ev.gl_cons Ev.gl_snoc Ev.gl_setN Ev.appendTo_gl Ev.consV_gl Ev.elems_gl Ev.fin_gl Ev.view_gl Ev.argv_gl Ev.topR_gl Ev.sp_z Ev.sp_0 Ev.sp_s Ev.km_z Ev.km_0 Ev.km_s Ev.beq_toList Ev.nc0 Ev.bq_t Ev.bq_f Ev.bodyN Ev.le_maxRow Int.cast_ofNat_Int IntWalk.i64_in IntWalk.u64_in IntWalk.u8_in beq_self_eq_true Bool.true_beq Bool.false_beq Bool.and_true Bool.true_and Bool.false_and Bool.and_false Bool.and_self Bool.not_true Bool.not_false Bool.not_eq_true cond_true cond_false if_true if_false and_true true_and and_self decide_true decide_false Bool.or_true Bool.true_or Bool.or_false Bool.false_or List.isEmpty List.isEmpty_nil List.size_toArray List.map List.length_map List.length_cons List.length_nil Option.map Option.bind Option.getD Option.isSome List.replicate Bool.false_eq_true implies_true false_implies forall_const Array.toList Array.isEmpty List.append List.nil_append List.cons_append List.drop_zero List.take_length List.take_succ_cons List.take_zero List.take_nil List.getElem?_map List.getElem?_cons_zero List.getElem?_cons_succ List.getElem?_nil List.append_nil eq_self Int.toNat_natCast List.length_append Nat.zero_add Nat.add_zero List.length_replicate Nat.sub_zero Option.map_some Option.map_none Int.le_refl Nat.le_refl Int.natCast_nonneg List.map_append
noncomputable def G_bound_Exact_Quanta (L : Nat) : Specs := [(80, s_bound_Of_Quanta L)]
noncomputable def T_bound_Exact_Quanta : Table := tableOf [(103, en103)]
theorem Go_bound_Exact_Quanta (L : Nat) (hL : L ≤ 4611686018427387904) : ∀ g s, Ev.look (G_bound_Exact_Quanta L) g = some s → SpecOk Try.prog g s := (specs_cons (ok_bound_Of_Quanta L hL) specs_nil)
theorem To_bound_Exact_Quanta (L : Nat) : TableOk Try.prog ((G_bound_Exact_Quanta L).map (·.1)) T_bound_Exact_Quanta := (table_cons Try.func103 (by kernel_rfl) (by kernel_rfl) table_nil)
theorem lk_bound_Exact_Quanta_80 (L : Nat) : Ev.look (G_bound_Exact_Quanta L) 80 = some (s_bound_Of_Quanta L) := nr rfl
attribute [local go_sem] Ty.tk4 Ty.ub4 Ty.ek4 Ty.zv4 Ty.by4 Ty.so4 Ty.tk24 Ty.ik24 Ty.ek24 Ty.zv24 Ty.by24 Ty.so24 Ty.tk35 Ty.ct35 Ty.ek35 Ty.zv35 Ty.by35 Ty.so35 Ty.k35_e E.mk103_1000000 lk_bound_Exact_Quanta_80 s_bound_Of_Quanta_run loopN loops Try.f103
theorem e_bound_Exact_Quanta (L : Nat) (hL : L ≤ 4611686018427387904) (a0 : Int) (res : Int × Int × Bool) (h : p_bound_Exact_Quanta L a0 = some res) : evTop Try.prog (G_bound_Exact_Quanta L) T_bound_Exact_Quanta L 1 103 [.int .i64 a0] = some [.agg 35 [.int .i64 res.1, .int .i64 res.2.1, .bool res.2.2]] := by
  revert h
  unfold p_bound_Exact_Quanta evTop
  simp only [List.map]
  rw [evF_s (fn := Try.f103) (msk := en103.ms) (hT := by rfl) (hb := by rfl)]
  refine bnd_i fun r1 c1 => ?_
  rintro ⟨⟩
  simp only [go_sem, Nat.reduceAdd, Nat.reduceSub, Nat.reduceMul, Nat.reduceEqDiff, Nat.reduceBEq, Nat.reduceLT, Nat.reduceLeDiff, Nat.reducePow, Int.reduceToNat, Int.reduceLT, Int.reduceLE, Int.reduceGT, Int.reduceGE, Int.reduceEq, Int.reduceNeg, Int.reduceAdd, Int.reduceSub, Int.reduceMul, ↓reduceIte, reduceCtorEq, *]
noncomputable def s_bound_Exact_Quanta (L : Nat) : Ev.Spec := specP (cCons (cI .i64) cNil) (fun x => p_bound_Exact_Quanta L x.1) (fun r => [.agg 35 [.int .i64 r.1, .int .i64 r.2.1, .bool r.2.2]])
theorem s_bound_Exact_Quanta_run (L : Nat) (a0 : Int) : (s_bound_Exact_Quanta L).run [.int .i64 a0] = (p_bound_Exact_Quanta L a0).map fun r => [.agg 35 [.int .i64 r.1, .int .i64 r.2.1, .bool r.2.2]] := specP_run (cCons (cI .i64) cNil) (fun x => p_bound_Exact_Quanta L x.1) (fun r => [.agg 35 [.int .i64 r.1, .int .i64 r.2.1, .bool r.2.2]]) (a0, ())
theorem ok_bound_Exact_Quanta (L : Nat) (hL : L ≤ 4611686018427387904) : SpecOk Try.prog 103 (s_bound_Exact_Quanta L) := specP_ok mixed (Go_bound_Exact_Quanta L hL) (To_bound_Exact_Quanta L) fun x r h => ⟨L, 1, e_bound_Exact_Quanta L hL x.1 r h⟩
end Go.Proofs.Ytnojehmbiceceaa.P
end
section
set_option linter.unusedVariables false
set_option linter.unusedSimpArgs false
set_option maxRecDepth 100000
namespace Go.Proofs.Ytnojehmbiceceaa.P
open Go.Ev Go.IntKind Go.Proofs.Ytnojehmbiceceaa Go.Proofs.Ytnojehmbiceceaa.Ty Go.Proofs.Ytnojehmbiceceaa.E
def p_level_Subtract_l0 (L : Nat) (a1_0 : Int) (a1_1 : Int) (a1_2 : Bool) : List (Int × Int × Bool × Unit) → (List (Int × Int × Bool × Unit)) → Option (List (Int × Int × Bool × Unit))
  | [], s13 => some s13
  | x5 :: tl, s13 => bnd (p_bound_Sub_Quanta L x5.1 x5.2.1 x5.2.2.1 a1_0 a1_1 a1_2) fun r20 => if r20.2.1 < 0 then (bnd (p_bound_None_Quanta L) fun r21 => bnd (p_bound_Exact_Quanta L 0) fun r22 => bnd (p_bound_Max_Quanta L r21.1 r21.2.1 r21.2.2 r22.1 r22.2.1 r22.2.2) fun r23 => rq (s13.length + 1 ≤ maxRow) <| rq ((s13.length + 1) * 24 ≤ maxRow) <| p_level_Subtract_l0 L a1_0 a1_1 a1_2 tl (s13 ++ [(r23.1, r23.2.1, r23.2.2, ())])) else (bnd (p_bound_Exact_Quanta L 0) fun r24 => bnd (p_bound_Max_Quanta L r20.1 r20.2.1 r20.2.2 r24.1 r24.2.1 r24.2.2) fun r25 => rq (s13.length + 1 ≤ maxRow) <| rq ((s13.length + 1) * 24 ≤ maxRow) <| p_level_Subtract_l0 L a1_0 a1_1 a1_2 tl (s13 ++ [(r25.1, r25.2.1, r25.2.2, ())]))
def p_level_Subtract (L : Nat) (a0_0 : Int) (a0_1 : Int) (a0_2 : List (Int × Int × Bool × Unit)) (a1_0 : Int) (a1_1 : Int) (a1_2 : Bool) : Option (Int × Int × (List (Int × Int × Bool × Unit)) × Int) := bnd (p_clean_Check L a0_0 a0_1 a0_2) fun r1 => cb (decide (r1 = 0)) (bnd (p_bound_Check_Quanta L a1_0 a1_1 a1_2) fun r2 => cb (decide (r2 = 0)) (if a1_0 < (-549755813888) then (bnd (p_cmp_Or_Errno L ([r2, 4])) fun r3 => some (0, 0, ([] : List (Int × Int × Bool × Unit)), r3)) else (if a1_1 > 549755813888 then (bnd (p_cmp_Or_Errno L ([r2, 4])) fun r4 => some (0, 0, ([] : List (Int × Int × Bool × Unit)), r4)) else (rq (a0_2.length < L) <| bnd (p_level_Subtract_l0 L a1_0 a1_1 a1_2 a0_2 ([])) fun o26 => some (a0_0, a0_1, o26, 0)))) (bnd (p_cmp_Or_Errno L ([r2, 4])) fun r28 => some (0, 0, ([] : List (Int × Int × Bool × Unit)), r28))) (some (0, 0, ([] : List (Int × Int × Bool × Unit)), r1))
attribute [local go_sem] Ev.putR_s Ev.putR_0 Ev.thenO_s Ev.thenO_0 Ev.seqR_n Ev.seqR_e Ev.seqR_r Ev.seqR_0 Ev.blkR_e Ev.blkR_n Ev.blkR_r Ev.blkR_0 Ev.normR_s Ev.normR_0 Ev.outR_r Ev.outR_n Ev.outR_0 Ev.retS_s Ev.retS_0 Ev.pureO_s Ev.pureO_0 Ev.topR_0 Ev.topR_t Ev.topR_t0 Ev.oneL_0 Ev.oneL_s Ev.topR_d Ev.topR_nils Ev.topR_agg Ev.topR_rs Ev.evOp_move Ev.evOp_assign Ev.evOp_pick Ev.evOp_alloc Ev.evOp_box Ev.evOp_build Ev.evOp_buildSlice Ev.evOp_load Ev.evOp_store Ev.evOp_makeMap Ev.evOp_lookup Ev.evOp_mapUpdate Ev.evOp_insert Ev.evOp_nilCheck Ev.evOp_binOp Ev.evOp_unOp Ev.evOp_convert Ev.evOp_makeFunc Ev.evOp_makeSlice Ev.evOp_slice Ev.evOp_fieldAddr Ev.evOp_field Ev.evOp_indexAddr Ev.evOp_index Ev.evOp_extract Ev.evOp_call Ev.evOp_append Ev.evOp_clear Ev.evOp_len Ev.evOp_min Ev.evOp_max Ev.condR_b Ev.condR_t Ev.evOps_nil Ev.evOps_plain Ev.evOps_guard Ev.runG_eq Ev.skipG_eq Ev.condL_tt Ev.condL_ff Ev.condL_tf Ev.condL_ft Ev.condL_u Ev.condC_t Ev.condC_f Ev.evC_skip Ev.evC_ret Ev.evC_exit Ev.evC_label Ev.evC_region Ev.evC_draw Ev.evC_seq Ev.evC_cond Ev.evC_block Ev.evC_loop Ev.fin_d Ev.fin_nils Ev.fin_agg_ Ev.fin_rs Ev.finS_s Ev.mapO_fin Ev.upd_upd Ev.argv_d Ev.argv_nils Ev.argv_agg Ev.argv_rs Ev.argv_p Ev.fk_low Ev.appendTo_nils Ev.appendTo_rs Ev.consV_d Ev.consV_agg Ev.consV_p Ev.consV_rs Ev.consV_nils Ev.consV_fn Ev.consV_und Ev.consV_jk Ev.consV_grown Ev.topR_grown Ev.len_grown Ev.consV_mp Ev.sameK_i Ev.sameK_s Ev.mget_0 Ev.mget_hit Ev.mget_miss Ev.mput_0 Ev.mput_hit Ev.mput_miss Ev.apartAll Ev.apartL Ev.apartV Ev.freeAll Ev.sel Ev.keyOfV Ev.evLookup Ev.evPut Ev.hintOk Ev.keyOk Ev.consP Ev.lookV Ev.guardV Ev.dstAt Ev.evPure Ev.evStore Ev.evBin Ev.evBinO Ev.evNil Ev.isNilC Ev.evUn Ev.evConv Ev.evSlice Ev.optI Ev.foldI Ev.capsOk Ev.noTup Ev.nth Ev.setN Ev.killAt Ev.pad Ev.V.get Ev.V.put Ev.putD Ev.newBlk Ev.upd Ev.keq Ev.empty Ev.evCall Ev.V.args Ev.argP Ev.callOf Ev.evNilP Ev.isNilP Ev.look Ev.V.view.views Ev.V.view Ev.V.toD Ev.V.toD.V.toDs Ev.V.pure.pures Ev.V.pure Ev.D.flat.flats Ev.D.flat Ev.mkAgg Ev.allD Ev.aggParts Ev.setParts Ev.setElems Ev.getPath Ev.setPath Ev.subL Ev.eqD Ev.eqD.eqDs Ev.and2 Ev.strCut Ev.evalT Ev.constT Ev.evArgs Ev.mask Ev.maskOf Ev.tableOf Ev.compT Ev.resV Ev.retV Ev.mapO Ev.frzO_n Ev.frzO_e Ev.frzO_r Ev.frzO_0 Ev.mb_z Ev.mb_0 Ev.mb_s Ev.frzL_t Ev.frzL_f Ev.frzL_0 Ev.frzT_nils Ev.frzT_rs Ev.frzT_p Ev.frzK_i Ev.keyIn_i Ev.rI_nil Ev.rI_cons Ev.rI_row Ev.rI_app Ev.r_d Ev.r_nils Ev.r_agg Ev.r_rs Ev.r_gl Ev.vw_row Ev.vw_app Ev.appO_s Ev.frzT_gl Ev.allD_gl Ev.killAt_i Ev.tkOne_i Ev.hT_agg Ev.hT_vagg Ev.hT_int Ev.hT_bool Ev.hT_str Ev.hT_sl Ev.hT_ptr Ev.hT_np Ev.hT_p Ev.hT_rs Ev.hT_mp Ev.hT_nils Ev.hT_fn Ev.hT_jk Ev.hT_gl Ev.eO_sl Ev.eO_nils Ev.eO_rs Ev.eT_sl Ev.eT_rs Ev.pL_str Ev.pL_sl Ev.pL_rs Ev.pL_nils Ev.pL_min Ev.pL_max Ev.len_glB Ev.noTup_gl Ev.rowV_len Ev.rowV_nil Ev.rowV_cons Ev.rowV_append Ev.rowV_set Ev.rowV_replicate Ev.nth_row Ev.row_take Ev.row_drop Ev.toDs_row Ev.fin_row Ev.map_row Ev.map_take_ Ev.map_drop_ Ev.Bk_i Ev.GlB_0 Ev.GlB_mk Ev.gl_nil Ev.gl_cons Ev.gl_snoc Ev.gl_setN Ev.appendTo_gl Ev.consV_gl Ev.elems_gl Ev.fin_gl Ev.view_gl Ev.argv_gl Ev.topR_gl Ev.sp_z Ev.sp_0 Ev.sp_s Ev.km_z Ev.km_0 Ev.km_s Ev.beq_toList Ev.nc0 Ev.bq_t Ev.bq_f Ev.bodyN Ev.le_maxRow Int.cast_ofNat_Int IntWalk.i64_in IntWalk.u64_in IntWalk.u8_in beq_self_eq_true Bool.true_beq Bool.false_beq Bool.and_true Bool.true_and Bool.false_and Bool.and_false Bool.and_self Bool.not_true Bool.not_false Bool.not_eq_true cond_true cond_false if_true if_false and_true true_and and_self decide_true decide_false Bool.or_true Bool.true_or Bool.or_false Bool.false_or List.isEmpty List.isEmpty_nil List.size_toArray List.map List.length_map List.length_cons List.length_nil Option.map Option.bind Option.getD Option.isSome List.replicate Bool.false_eq_true implies_true false_implies forall_const Array.toList Array.isEmpty List.append List.nil_append List.cons_append List.drop_zero List.take_length List.take_succ_cons List.take_zero List.take_nil List.getElem?_map List.getElem?_cons_zero List.getElem?_cons_succ List.getElem?_nil List.append_nil eq_self Int.toNat_natCast List.length_append Nat.zero_add Nat.add_zero List.length_replicate Nat.sub_zero Option.map_some Option.map_none Int.le_refl Nat.le_refl Int.natCast_nonneg List.map_append
noncomputable def G_level_Subtract (L : Nat) : Specs := [(77, s_bound_None_Quanta L), (89, s_clean_Check L), (99, s_bound_Check_Quanta L), (100, s_cmp_Or_Errno L), (101, s_bound_Sub_Quanta L), (102, s_bound_Max_Quanta L), (103, s_bound_Exact_Quanta L)]
noncomputable def T_level_Subtract : Table := tableOf [(29, en29)]
theorem Go_level_Subtract (L : Nat) (hL : L ≤ 4611686018427387904) : ∀ g s, Ev.look (G_level_Subtract L) g = some s → SpecOk Try.prog g s := (specs_cons (ok_bound_None_Quanta L hL) (specs_cons (ok_clean_Check L hL) (specs_cons (ok_bound_Check_Quanta L hL) (specs_cons (ok_cmp_Or_Errno L hL) (specs_cons (ok_bound_Sub_Quanta L hL) (specs_cons (ok_bound_Max_Quanta L hL) (specs_cons (ok_bound_Exact_Quanta L hL) specs_nil)))))))
theorem To_level_Subtract (L : Nat) : TableOk Try.prog ((G_level_Subtract L).map (·.1)) T_level_Subtract := (table_cons Try.func29 (by kernel_rfl) (by kernel_rfl) table_nil)
theorem lk_level_Subtract_77 (L : Nat) : Ev.look (G_level_Subtract L) 77 = some (s_bound_None_Quanta L) := nr rfl
theorem lk_level_Subtract_89 (L : Nat) : Ev.look (G_level_Subtract L) 89 = some (s_clean_Check L) := nr rfl
theorem lk_level_Subtract_99 (L : Nat) : Ev.look (G_level_Subtract L) 99 = some (s_bound_Check_Quanta L) := nr rfl
theorem lk_level_Subtract_100 (L : Nat) : Ev.look (G_level_Subtract L) 100 = some (s_cmp_Or_Errno L) := nr rfl
theorem lk_level_Subtract_101 (L : Nat) : Ev.look (G_level_Subtract L) 101 = some (s_bound_Sub_Quanta L) := nr rfl
theorem lk_level_Subtract_102 (L : Nat) : Ev.look (G_level_Subtract L) 102 = some (s_bound_Max_Quanta L) := nr rfl
theorem lk_level_Subtract_103 (L : Nat) : Ev.look (G_level_Subtract L) 103 = some (s_bound_Exact_Quanta L) := nr rfl
attribute [local go_sem] Ty.tk3 Ty.ik3 Ty.ek3 Ty.zv3 Ty.by3 Ty.so3 Ty.tk4 Ty.ub4 Ty.ek4 Ty.zv4 Ty.by4 Ty.so4 Ty.tk24 Ty.ik24 Ty.ek24 Ty.zv24 Ty.by24 Ty.so24 Ty.tk27 Ty.ik27 Ty.ek27 Ty.zv27 Ty.by27 Ty.so27 Ty.tk35 Ty.ct35 Ty.ek35 Ty.zv35 Ty.by35 Ty.so35 Ty.tk43 Ty.zv43 Ty.by43 Ty.so43 Ty.tk45 Ty.ct45 Ty.zv45 Ty.by45 Ty.so45 Ty.tk195 Ty.zv195 Ty.by195 Ty.so195 Ty.k35_e Ty.k43_e Ty.k45_e Ty.k195_e E.dw29_14 E.kl29_14 E.nc29_14 E.mk29_0 E.mk29_1000001 E.mk29_1000002 E.mk29_1000000 E.fz29_0 E.lb29_0 lk_level_Subtract_77 lk_level_Subtract_89 lk_level_Subtract_99 lk_level_Subtract_100 lk_level_Subtract_101 lk_level_Subtract_102 lk_level_Subtract_103 s_bound_None_Quanta_run s_clean_Check_run s_bound_Check_Quanta_run s_cmp_Or_Errno_run s_bound_Sub_Quanta_run s_bound_Max_Quanta_run s_bound_Exact_Quanta_run loopN loops Try.f29
def Q0_p_level_Subtract_l0 (a0_2 : List (Int × Int × Bool × Unit)) (a1_0 : Int) (a1_1 : Int) (a1_2 : Bool) (a0_0 : Int) (a0_1 : Int) (u : List (Int × Int × Bool × Unit)) (z : Out) : Prop := ∃ env st, z = some (.exit 0, env, st) ∧ env = sp 65 0 [(4, .p (0, 4) (st (0, 4)).ver 0 []), (8, .p (0, 8) (st (0, 8)).ver 0 [])] ∧ Bk (st (0, 4)) 45 [.agg 45 [.d (.int .i64 0), .d (.int .i64 0), .nils 35]] ∧ Bk (st (0, 8)) 45 [.agg 45 [.d (.int .i64 a0_0), .d (.int .i64 a0_1), gl 35 (0, 61) (st (0, 61)).ver (rowV k35.e u)]] ∧ GlB (st (0, 61)) 35 (rowV k35.e u)
abbrev Q_p_level_Subtract_l0 (a0_2 : List (Int × Int × Bool × Unit)) (a1_0 : Int) (a1_1 : Int) (a1_2 : Bool) (a0_0 : Int) (a0_1 : Int) (o : List (Int × Int × Bool × Unit)) (z : Out) : Prop := Q0_p_level_Subtract_l0 a0_2 a1_0 a1_1 a1_2 a0_0 a0_1 o z
theorem l_p_level_Subtract_l0 (L : Nat) (hL : L ≤ 4611686018427387904) (a0_2 : List (Int × Int × Bool × Unit)) (a1_0 : Int) (a1_1 : Int) (a1_2 : Bool) (a0_0 : Int) (a0_1 : Int) : ∀ (tl : List (Int × Int × Bool × Unit)) (n : Nat) (s6 : Int) (s13 : List (Int × Int × Bool × Unit)) (env : List V) (st : Store) (o : List (Int × Int × Bool × Unit)), tl.length < n → Rng a0_2 s6 tl → mask (maskOf en29.ms 0) env = sp 65 0 [(3, .p (0, 3) (st (0, 3)).ver 0 []), (4, .p (0, 4) (st (0, 4)).ver 0 []), (8, .p (0, 8) (st (0, 8)).ver 0 []), (42, .d (.sl 35 (a0_2.map k35.e))), (43, .d (.int .i64 (a0_2.length : Int))), (44, .d (.int .i64 s6))] → Bk (st (0, 3)) 35 [.d (.agg 35 [.int .i64 a1_0, .int .i64 a1_1, .bool a1_2])] → Bk (st (0, 4)) 45 [.agg 45 [.d (.int .i64 0), .d (.int .i64 0), .nils 35]] → Bk (st (0, 8)) 45 [.agg 45 [.d (.int .i64 a0_0), .d (.int .i64 a0_1), gl 35 (0, 61) (st (0, 61)).ver (rowV k35.e s13)]] → GlB (st (0, 61)) 35 (rowV k35.e s13) → p_level_Subtract_l0 L a1_0 a1_1 a1_2 tl s13 = some o →
    Q_p_level_Subtract_l0 a0_2 a1_0 a1_1 a1_2 a0_0 a0_1 o (iter (evC Try.prog (G_level_Subtract L) (evF Try.prog (G_level_Subtract L) T_level_Subtract L 0) L en29.ms 0 0 lb29_0) (maskOf en29.ms 0) n env st) := by
  intro tl
  induction tl with
  | nil =>
    intro n s6 s13 env st o hn hR he hb0 hb1 hb2 hb3 h
    obtain ⟨n, rfl⟩ : ∃ m, n = m + 1 := ⟨n - 1, by omega⟩
    obtain ⟨be0, bv0, bl0⟩ := hb0
    obtain ⟨be1, bv1, bl1⟩ := hb1
    obtain ⟨be2, bv2, bl2⟩ := hb2
    have g0 := rng_nil hR
    rw [iter, he]
    clear he
    generalize hK : iter _ _ n = K
    rw [p_level_Subtract_l0] at h
    revert h
    rintro ⟨⟩
    simp only [go_sem, Nat.reduceAdd, Nat.reduceSub, Nat.reduceMul, Nat.reduceEqDiff, Nat.reduceBEq, Nat.reduceLT, Nat.reduceLeDiff, Nat.reducePow, Int.reduceToNat, Int.reduceLT, Int.reduceLE, Int.reduceGT, Int.reduceGE, Int.reduceEq, Int.reduceNeg, Int.reduceAdd, Int.reduceSub, Int.reduceMul, ↓reduceIte, reduceCtorEq, *]
    refine (⟨_, _, rfl, ?_, ?_, ?_, ?_⟩ : Q0_p_level_Subtract_l0 a0_2 a1_0 a1_1 a1_2 a0_0 a0_1 _ _)
    all_goals simp only [go_sem, Nat.reduceAdd, Nat.reduceSub, Nat.reduceMul, Nat.reduceEqDiff, Nat.reduceBEq, Nat.reduceLT, Nat.reduceLeDiff, Nat.reducePow, Int.reduceToNat, Int.reduceLT, Int.reduceLE, Int.reduceGT, Int.reduceGE, Int.reduceEq, Int.reduceNeg, Int.reduceAdd, Int.reduceSub, Int.reduceMul, ↓reduceIte, reduceCtorEq, *]
  | cons x5 tl ih =>
    intro n s6 s13 env st o hn hR he hb0 hb1 hb2 hb3 h
    obtain ⟨n, rfl⟩ : ∃ m, n = m + 1 := ⟨n - 1, by omega⟩
    obtain ⟨be0, bv0, bl0⟩ := hb0
    obtain ⟨be1, bv1, bl1⟩ := hb1
    obtain ⟨be2, bv2, bl2⟩ := hb2
    replace ih : Hold _ := ih
    replace hR := rng_s hR
    obtain ⟨g0, g1, g2, g3, hR⟩ := hR
    rw [iter, he]
    clear he
    generalize hK : iter _ _ n = K
    rw [p_level_Subtract_l0] at h
    revert h
    refine bnd_i fun r20 c1 => ?_
    refine ite_i (fun c2 => ?_) (fun c2 => ?_)
    · refine bnd_i fun r21 c3 => ?_
      refine bnd_i fun r22 c4 => ?_
      refine bnd_i fun r23 c5 => ?_
      refine rq_i fun c6 => ?_
      refine rq_i fun c7 => ?_
      intro h
      simp only [go_sem, Nat.reduceAdd, Nat.reduceSub, Nat.reduceMul, Nat.reduceEqDiff, Nat.reduceBEq, Nat.reduceLT, Nat.reduceLeDiff, Nat.reducePow, Int.reduceToNat, Int.reduceLT, Int.reduceLE, Int.reduceGT, Int.reduceGE, Int.reduceEq, Int.reduceNeg, Int.reduceAdd, Int.reduceSub, Int.reduceMul, ↓reduceIte, reduceCtorEq, *]
      subst hK
      refine ih n (s6 + 1) (s13 ++ [(r23.1, r23.2.1, r23.2.2, ())]) _ _ _ (by simp only [List.length_cons] at hn; omega) hR ?_ ?_ ?_ ?_ ?_ h
      all_goals simp only [go_sem, Nat.reduceAdd, Nat.reduceSub, Nat.reduceMul, Nat.reduceEqDiff, Nat.reduceBEq, Nat.reduceLT, Nat.reduceLeDiff, Nat.reducePow, Int.reduceToNat, Int.reduceLT, Int.reduceLE, Int.reduceGT, Int.reduceGE, Int.reduceEq, Int.reduceNeg, Int.reduceAdd, Int.reduceSub, Int.reduceMul, ↓reduceIte, reduceCtorEq, *]
    · refine bnd_i fun r24 c8 => ?_
      refine bnd_i fun r25 c9 => ?_
      refine rq_i fun c10 => ?_
      refine rq_i fun c11 => ?_
      intro h
      simp only [go_sem, Nat.reduceAdd, Nat.reduceSub, Nat.reduceMul, Nat.reduceEqDiff, Nat.reduceBEq, Nat.reduceLT, Nat.reduceLeDiff, Nat.reducePow, Int.reduceToNat, Int.reduceLT, Int.reduceLE, Int.reduceGT, Int.reduceGE, Int.reduceEq, Int.reduceNeg, Int.reduceAdd, Int.reduceSub, Int.reduceMul, ↓reduceIte, reduceCtorEq, *]
      subst hK
      refine ih n (s6 + 1) (s13 ++ [(r25.1, r25.2.1, r25.2.2, ())]) _ _ _ (by simp only [List.length_cons] at hn; omega) hR ?_ ?_ ?_ ?_ ?_ h
      all_goals simp only [go_sem, Nat.reduceAdd, Nat.reduceSub, Nat.reduceMul, Nat.reduceEqDiff, Nat.reduceBEq, Nat.reduceLT, Nat.reduceLeDiff, Nat.reducePow, Int.reduceToNat, Int.reduceLT, Int.reduceLE, Int.reduceGT, Int.reduceGE, Int.reduceEq, Int.reduceNeg, Int.reduceAdd, Int.reduceSub, Int.reduceMul, ↓reduceIte, reduceCtorEq, *]
theorem e_level_Subtract (L : Nat) (hL : L ≤ 4611686018427387904) (a0_0 : Int) (a0_1 : Int) (a0_2 : List (Int × Int × Bool × Unit)) (a1_0 : Int) (a1_1 : Int) (a1_2 : Bool) (res : Int × Int × (List (Int × Int × Bool × Unit)) × Int) (h : p_level_Subtract L a0_0 a0_1 a0_2 a1_0 a1_1 a1_2 = some res) : evTop Try.prog (G_level_Subtract L) T_level_Subtract L 1 29 [.agg 45 [.int .i64 a0_0, .int .i64 a0_1, .sl 35 (a0_2.map k35.e)], .agg 35 [.int .i64 a1_0, .int .i64 a1_1, .bool a1_2]] = some [.agg 45 [.int .i64 res.1, .int .i64 res.2.1, .sl 35 (res.2.2.1.map k35.e)], .int .i64 res.2.2.2] := by
  revert h
  unfold p_level_Subtract evTop
  simp only [List.map]
  rw [evF_s (fn := Try.f29) (msk := en29.ms) (hT := by rfl) (hb := by rfl)]
  refine bnd_i fun r1 c1 => ?_
  refine cb_i (fun c2 => ?_) (fun c2 => ?_)
  · refine bnd_i fun r2 c3 => ?_
    refine cb_i (fun c4 => ?_) (fun c4 => ?_)
    · refine ite_i (fun c5 => ?_) (fun c5 => ?_)
      · refine bnd_i fun r3 c6 => ?_
        have c7 := s_cmp_Or_Errno_run L [r2, 4]
        simp only [go_sem, Nat.reduceAdd, Nat.reduceSub, Nat.reduceMul, Nat.reduceEqDiff, Nat.reduceBEq, Nat.reduceLT, Nat.reduceLeDiff, Nat.reducePow, Int.reduceToNat, Int.reduceLT, Int.reduceLE, Int.reduceGT, Int.reduceGE, Int.reduceEq, Int.reduceNeg, Int.reduceAdd, Int.reduceSub, Int.reduceMul, ↓reduceIte, reduceCtorEq] at c7
        rintro ⟨⟩
        simp only [go_sem, Nat.reduceAdd, Nat.reduceSub, Nat.reduceMul, Nat.reduceEqDiff, Nat.reduceBEq, Nat.reduceLT, Nat.reduceLeDiff, Nat.reducePow, Int.reduceToNat, Int.reduceLT, Int.reduceLE, Int.reduceGT, Int.reduceGE, Int.reduceEq, Int.reduceNeg, Int.reduceAdd, Int.reduceSub, Int.reduceMul, ↓reduceIte, reduceCtorEq, *]
      · refine ite_i (fun c8 => ?_) (fun c8 => ?_)
        · refine bnd_i fun r4 c9 => ?_
          have c10 := s_cmp_Or_Errno_run L [r2, 4]
          simp only [go_sem, Nat.reduceAdd, Nat.reduceSub, Nat.reduceMul, Nat.reduceEqDiff, Nat.reduceBEq, Nat.reduceLT, Nat.reduceLeDiff, Nat.reducePow, Int.reduceToNat, Int.reduceLT, Int.reduceLE, Int.reduceGT, Int.reduceGE, Int.reduceEq, Int.reduceNeg, Int.reduceAdd, Int.reduceSub, Int.reduceMul, ↓reduceIte, reduceCtorEq] at c10
          rintro ⟨⟩
          simp only [go_sem, Nat.reduceAdd, Nat.reduceSub, Nat.reduceMul, Nat.reduceEqDiff, Nat.reduceBEq, Nat.reduceLT, Nat.reduceLeDiff, Nat.reducePow, Int.reduceToNat, Int.reduceLT, Int.reduceLE, Int.reduceGT, Int.reduceGE, Int.reduceEq, Int.reduceNeg, Int.reduceAdd, Int.reduceSub, Int.reduceMul, ↓reduceIte, reduceCtorEq, *]
        · refine rq_i fun c11 => ?_
          refine bnd_i fun o26 ho12 => ?_
          intro h
          simp only [go_sem, Nat.reduceAdd, Nat.reduceSub, Nat.reduceMul, Nat.reduceEqDiff, Nat.reduceBEq, Nat.reduceLT, Nat.reduceLeDiff, Nat.reducePow, Int.reduceToNat, Int.reduceLT, Int.reduceLE, Int.reduceGT, Int.reduceGE, Int.reduceEq, Int.reduceNeg, Int.reduceAdd, Int.reduceSub, Int.reduceMul, ↓reduceIte, reduceCtorEq, *]
          generalize hz14 : iter _ _ _ _ _ = z13
          have hq15 : Q_p_level_Subtract_l0 a0_2 a1_0 a1_1 a1_2 a0_0 a0_1 o26 z13 := by
            rw [← hz14]
            refine l_p_level_Subtract_l0 L hL a0_2 a1_0 a1_1 a1_2 a0_0 a0_1 a0_2 L 0 ([]) _ _ _ c11 (rng_0 c11 hL) ?_ ?_ ?_ ?_ ?_ ho12
            all_goals simp only [go_sem, Nat.reduceAdd, Nat.reduceSub, Nat.reduceMul, Nat.reduceEqDiff, Nat.reduceBEq, Nat.reduceLT, Nat.reduceLeDiff, Nat.reducePow, Int.reduceToNat, Int.reduceLT, Int.reduceLE, Int.reduceGT, Int.reduceGE, Int.reduceEq, Int.reduceNeg, Int.reduceAdd, Int.reduceSub, Int.reduceMul, ↓reduceIte, reduceCtorEq, *]
          clear hz14 ho12
          obtain ⟨_, st27, rfl, rfl, ⟨k161, k162, k163⟩, ⟨k171, k172, k173⟩, k18⟩ := hq15
          revert h
          rintro ⟨⟩
          simp only [go_sem, Nat.reduceAdd, Nat.reduceSub, Nat.reduceMul, Nat.reduceEqDiff, Nat.reduceBEq, Nat.reduceLT, Nat.reduceLeDiff, Nat.reducePow, Int.reduceToNat, Int.reduceLT, Int.reduceLE, Int.reduceGT, Int.reduceGE, Int.reduceEq, Int.reduceNeg, Int.reduceAdd, Int.reduceSub, Int.reduceMul, ↓reduceIte, reduceCtorEq, *]
    · refine bnd_i fun r28 c19 => ?_
      have c20 := s_cmp_Or_Errno_run L [r2, 4]
      simp only [go_sem, Nat.reduceAdd, Nat.reduceSub, Nat.reduceMul, Nat.reduceEqDiff, Nat.reduceBEq, Nat.reduceLT, Nat.reduceLeDiff, Nat.reducePow, Int.reduceToNat, Int.reduceLT, Int.reduceLE, Int.reduceGT, Int.reduceGE, Int.reduceEq, Int.reduceNeg, Int.reduceAdd, Int.reduceSub, Int.reduceMul, ↓reduceIte, reduceCtorEq] at c20
      rintro ⟨⟩
      simp only [go_sem, Nat.reduceAdd, Nat.reduceSub, Nat.reduceMul, Nat.reduceEqDiff, Nat.reduceBEq, Nat.reduceLT, Nat.reduceLeDiff, Nat.reducePow, Int.reduceToNat, Int.reduceLT, Int.reduceLE, Int.reduceGT, Int.reduceGE, Int.reduceEq, Int.reduceNeg, Int.reduceAdd, Int.reduceSub, Int.reduceMul, ↓reduceIte, reduceCtorEq, *]
  · rintro ⟨⟩
    simp only [go_sem, Nat.reduceAdd, Nat.reduceSub, Nat.reduceMul, Nat.reduceEqDiff, Nat.reduceBEq, Nat.reduceLT, Nat.reduceLeDiff, Nat.reducePow, Int.reduceToNat, Int.reduceLT, Int.reduceLE, Int.reduceGT, Int.reduceGE, Int.reduceEq, Int.reduceNeg, Int.reduceAdd, Int.reduceSub, Int.reduceMul, ↓reduceIte, reduceCtorEq, *]
noncomputable def s_level_Subtract (L : Nat) : Ev.Spec := specP (cCons k45 (cCons k35 cNil)) (fun x => p_level_Subtract L x.1.1 x.1.2.1 x.1.2.2.1 x.2.1.1 x.2.1.2.1 x.2.1.2.2.1) (fun r => [.agg 45 [.int .i64 r.1, .int .i64 r.2.1, .sl 35 (r.2.2.1.map k35.e)], .int .i64 r.2.2.2])
theorem s_level_Subtract_run (L : Nat) (a0_0 : Int) (a0_1 : Int) (a0_2 : List (Int × Int × Bool × Unit)) (a1_0 : Int) (a1_1 : Int) (a1_2 : Bool) : (s_level_Subtract L).run [.agg 45 [.int .i64 a0_0, .int .i64 a0_1, .sl 35 (a0_2.map k35.e)], .agg 35 [.int .i64 a1_0, .int .i64 a1_1, .bool a1_2]] = (p_level_Subtract L a0_0 a0_1 a0_2 a1_0 a1_1 a1_2).map fun r => [.agg 45 [.int .i64 r.1, .int .i64 r.2.1, .sl 35 (r.2.2.1.map k35.e)], .int .i64 r.2.2.2] := specP_run (cCons k45 (cCons k35 cNil)) (fun x => p_level_Subtract L x.1.1 x.1.2.1 x.1.2.2.1 x.2.1.1 x.2.1.2.1 x.2.1.2.2.1) (fun r => [.agg 45 [.int .i64 r.1, .int .i64 r.2.1, .sl 35 (r.2.2.1.map k35.e)], .int .i64 r.2.2.2]) ((a0_0, a0_1, a0_2, ()), (a1_0, a1_1, a1_2, ()), ())
theorem ok_level_Subtract (L : Nat) (hL : L ≤ 4611686018427387904) : SpecOk Try.prog 29 (s_level_Subtract L) := specP_ok mixed (Go_level_Subtract L hL) (To_level_Subtract L) fun x r h => ⟨L, 1, e_level_Subtract L hL x.1.1 x.1.2.1 x.1.2.2.1 x.2.1.1 x.2.1.2.1 x.2.1.2.2.1 r h⟩
end Go.Proofs.Ytnojehmbiceceaa.P
end
section
set_option linter.unusedVariables false
set_option linter.unusedSimpArgs false
set_option maxRecDepth 100000
namespace Go.Proofs.Ytnojehmbiceceaa.E
open Go.Ev
noncomputable def en30 : Entry := ⟨Try.f30, [(0, mb 68 0 [3, 4, 8, 30, 31, 32]), (1000001, mb 68 0 [4, 8]), (1000002, mb 68 0 [3, 4, 8, 30, 31, 32]), (1000000, mb 68 0 [4, 5])]⟩
theorem mk30_0 (vs : List V) : mask (maskOf en30.ms 0) vs = km 68 0 [3, 4, 8, 30, 31, 32] vs := mask_mb _ _ _ _
theorem mk30_1000001 (vs : List V) : mask (maskOf en30.ms 1000001) vs = km 68 0 [4, 8] vs := mask_mb _ _ _ _
theorem mk30_1000002 (vs : List V) : mask (maskOf en30.ms 1000002) vs = km 68 0 [3, 4, 8, 30, 31, 32] vs := mask_mb _ _ _ _
theorem mk30_1000000 (vs : List V) : mask (maskOf en30.ms 1000000) vs = km 68 0 [4, 5] vs := mask_mb _ _ _ _
theorem fz30_0 (lv : Nat) (f : Run) : frzF en30.ms lv 0 f = f := nr rfl
noncomputable def lb30_0 : Code := loopN Try.f30 0
end Go.Proofs.Ytnojehmbiceceaa.E
end
