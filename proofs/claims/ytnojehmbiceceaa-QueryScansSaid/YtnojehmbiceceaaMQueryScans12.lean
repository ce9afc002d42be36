/- Parts of one proof, joined: G34, G8. -/
import Derived.Test.YtnojehmbiceceaaMQueryScans11
section
set_option linter.unusedVariables false
set_option linter.unusedSimpArgs false
set_option maxRecDepth 100000
set_option maxHeartbeats 4000000
namespace Go.Proofs.Ytnojehmbiceceaa.P
open Go.Ev Go.IntKind Go.Proofs.Ytnojehmbiceceaa Go.Proofs.Ytnojehmbiceceaa.Ty Go.Proofs.Ytnojehmbiceceaa.E
def p_spyref3_Close_l2 (L : Nat) (x379 : Int) : List Int → (List Int) → Option (List Int)
  | [], s421 => some s421
  | x418 :: tl, s421 => rq (s421.length + 1 ≤ maxRow) <| rq ((s421.length + 1) * 8 ≤ maxRow) <| p_spyref3_Close_l2 L x379 tl (s421 ++ [(i64.wrap (x379 * x418))])
def p_spyref3_Close_l3 (L : Nat) (x379 : Int) : List Int → (List Int) → Option (List Int)
  | [], s427 => some s427
  | x424 :: tl, s427 => rq (s427.length + 1 ≤ maxRow) <| rq ((s427.length + 1) * 8 ≤ maxRow) <| p_spyref3_Close_l3 L x379 tl (s427 ++ [(i64.wrap (x379 * x424))])
def p_spyref3_Close_l4 (L : Nat) (x379 : Int) : List Int → (List Int) → Option (List Int)
  | [], s433 => some s433
  | x430 :: tl, s433 => rq (s433.length + 1 ≤ maxRow) <| rq ((s433.length + 1) * 8 ≤ maxRow) <| p_spyref3_Close_l4 L x379 tl (s433 ++ [(i64.wrap (x379 * x430))])
def p_spyref3_Close_l1 (L : Nat) (s4 : Int) (a8 : List Int) (a9 : List Int) (a10 : List Int) : List Int → (List Int) → Option (List Int)
  | [], s399 => some s399
  | x379 :: tl, s399 => cb (decide (s4 = 0)) (rq (a8.length < L) <| bnd (p_spyref3_Close_l2 L x379 a8 s399) fun o422 => p_spyref3_Close_l1 L s4 a8 a9 a10 tl o422) (cb (decide (s4 = 1)) (rq (a9.length < L) <| bnd (p_spyref3_Close_l3 L x379 a9 s399) fun o428 => p_spyref3_Close_l1 L s4 a8 a9 a10 tl o428) (cb (decide (s4 = 2)) (rq (a10.length < L) <| bnd (p_spyref3_Close_l4 L x379 a10 s399) fun o434 => p_spyref3_Close_l1 L s4 a8 a9 a10 tl o434) (none)))
def p_spyref3_Close_l6 (L : Nat) (x440 : Int) : List Int → (List Int) → Option (List Int)
  | [], s482 => some s482
  | x479 :: tl, s482 => rq (s482.length + 1 ≤ maxRow) <| rq ((s482.length + 1) * 8 ≤ maxRow) <| p_spyref3_Close_l6 L x440 tl (s482 ++ [(i64.wrap (x440 * x479))])
def p_spyref3_Close_l7 (L : Nat) (x440 : Int) : List Int → (List Int) → Option (List Int)
  | [], s488 => some s488
  | x485 :: tl, s488 => rq (s488.length + 1 ≤ maxRow) <| rq ((s488.length + 1) * 8 ≤ maxRow) <| p_spyref3_Close_l7 L x440 tl (s488 ++ [(i64.wrap (x440 * x485))])
def p_spyref3_Close_l8 (L : Nat) (x440 : Int) : List Int → (List Int) → Option (List Int)
  | [], s494 => some s494
  | x491 :: tl, s494 => rq (s494.length + 1 ≤ maxRow) <| rq ((s494.length + 1) * 8 ≤ maxRow) <| p_spyref3_Close_l8 L x440 tl (s494 ++ [(i64.wrap (x440 * x491))])
def p_spyref3_Close_l5 (L : Nat) (s4 : Int) (a8 : List Int) (a9 : List Int) (a10 : List Int) : List Int → (List Int) → Option (List Int)
  | [], s460 => some s460
  | x440 :: tl, s460 => cb (decide (s4 = 0)) (rq (a8.length < L) <| bnd (p_spyref3_Close_l6 L x440 a8 s460) fun o483 => p_spyref3_Close_l5 L s4 a8 a9 a10 tl o483) (cb (decide (s4 = 1)) (rq (a9.length < L) <| bnd (p_spyref3_Close_l7 L x440 a9 s460) fun o489 => p_spyref3_Close_l5 L s4 a8 a9 a10 tl o489) (cb (decide (s4 = 2)) (rq (a10.length < L) <| bnd (p_spyref3_Close_l8 L x440 a10 s460) fun o495 => p_spyref3_Close_l5 L s4 a8 a9 a10 tl o495) (none)))
def p_spyref3_Close_l10 (L : Nat) (x501 : Int) : List Int → (List Int) → Option (List Int)
  | [], s543 => some s543
  | x540 :: tl, s543 => rq (s543.length + 1 ≤ maxRow) <| rq ((s543.length + 1) * 8 ≤ maxRow) <| p_spyref3_Close_l10 L x501 tl (s543 ++ [(i64.wrap (x501 * x540))])
def p_spyref3_Close_l11 (L : Nat) (x501 : Int) : List Int → (List Int) → Option (List Int)
  | [], s549 => some s549
  | x546 :: tl, s549 => rq (s549.length + 1 ≤ maxRow) <| rq ((s549.length + 1) * 8 ≤ maxRow) <| p_spyref3_Close_l11 L x501 tl (s549 ++ [(i64.wrap (x501 * x546))])
def p_spyref3_Close_l12 (L : Nat) (x501 : Int) : List Int → (List Int) → Option (List Int)
  | [], s555 => some s555
  | x552 :: tl, s555 => rq (s555.length + 1 ≤ maxRow) <| rq ((s555.length + 1) * 8 ≤ maxRow) <| p_spyref3_Close_l12 L x501 tl (s555 ++ [(i64.wrap (x501 * x552))])
def p_spyref3_Close_l9 (L : Nat) (s4 : Int) (a8 : List Int) (a9 : List Int) (a10 : List Int) : List Int → (List Int) → Option (List Int)
  | [], s521 => some s521
  | x501 :: tl, s521 => cb (decide (s4 = 0)) (rq (a8.length < L) <| bnd (p_spyref3_Close_l10 L x501 a8 s521) fun o544 => p_spyref3_Close_l9 L s4 a8 a9 a10 tl o544) (cb (decide (s4 = 1)) (rq (a9.length < L) <| bnd (p_spyref3_Close_l11 L x501 a9 s521) fun o550 => p_spyref3_Close_l9 L s4 a8 a9 a10 tl o550) (cb (decide (s4 = 2)) (rq (a10.length < L) <| bnd (p_spyref3_Close_l12 L x501 a10 s521) fun o556 => p_spyref3_Close_l9 L s4 a8 a9 a10 tl o556) (none)))
def p_spyref3_Close_l0 (L : Nat) (a5 : List Int) (a6 : List Int) (a7 : List Int) (a8 : List Int) (a9 : List Int) (a10 : List Int) : Nat → Int → Int → Int → Option (Int × Int)
  | 0, s4, s194, s195 => some (s194, s195)
  | tl + 1, s4, s194, s195 => cb (decide (s4 = 0)) (rq (a5.length < L) <| bnd (p_spyref3_Close_l1 L s4 a8 a9 a10 a5 ([])) fun o436 => bnd (p_slices_Min_int64 L o436) fun r438 => bnd (p_slices_Max_int64 L o436) fun r439 => p_spyref3_Close_l0 L a5 a6 a7 a8 a9 a10 tl (s4 + 1) (i64.wrap (s194 + r438)) (i64.wrap (s195 + r439))) (cb (decide (s4 = 1)) (rq (a6.length < L) <| bnd (p_spyref3_Close_l5 L s4 a8 a9 a10 a6 ([])) fun o497 => bnd (p_slices_Min_int64 L o497) fun r499 => bnd (p_slices_Max_int64 L o497) fun r500 => p_spyref3_Close_l0 L a5 a6 a7 a8 a9 a10 tl (s4 + 1) (i64.wrap (s194 + r499)) (i64.wrap (s195 + r500))) (cb (decide (s4 = 2)) (rq (a7.length < L) <| bnd (p_spyref3_Close_l9 L s4 a8 a9 a10 a7 ([])) fun o558 => bnd (p_slices_Min_int64 L o558) fun r560 => bnd (p_slices_Max_int64 L o558) fun r561 => p_spyref3_Close_l0 L a5 a6 a7 a8 a9 a10 tl (s4 + 1) (i64.wrap (s194 + r560)) (i64.wrap (s195 + r561))) (none)))
def p_spyref3_Close (L : Nat) (a0_0_0 : Int) (a0_0_1 : Int) (a0_0_2 : Bool) (a0_1_0 : Int) (a0_1_1 : Int) (a0_1_2 : Bool) (a0_2_0 : Int) (a0_2_1 : Int) (a0_2_2 : Bool) (a1_0_0 : Int) (a1_0_1 : Int) (a1_0_2 : Bool) (a1_1_0 : Int) (a1_1_1 : Int) (a1_1_2 : Bool) (a1_2_0 : Int) (a1_2_1 : Int) (a1_2_2 : Bool) (a2 : Int) : Option Int := if a2 < 0 then (some 0) else (if a2 > 1073741824 then (some 0) else (bnd (p_spyref3_ends L a0_0_0 a0_0_1 a0_0_2 a0_1_0 a0_1_1 a0_1_2 a0_2_0 a0_2_1 a0_2_2) fun r1 => bnd (p_spyref3_ends L a1_0_0 a1_0_1 a1_0_2 a1_1_0 a1_1_1 a1_1_2 a1_2_0 a1_2_1 a1_2_2) fun r2 => cb r1.2.2.2 (cb r2.2.2.2 (rq (3 < L) <| bnd (p_spyref3_Close_l0 L r1.1 r1.2.1 r1.2.2.1 r2.1 r2.2.1 r2.2.2.1 3 0 0 0) fun o562 => bnd (p_spyref3_squares L r1.1 r1.2.1 r1.2.2.1) fun r564 => bnd (p_spyref3_squares L r2.1 r2.2.1 r2.2.2.1) fun r565 => if r564.1 > 0 then (if r565.1 > 0 then (bnd (p_spyref3_RootUp L r564.2 r565.2) fun r566 => bnd (p_spyref3_Cmp L o562.1 1073741824 a2 r566) fun r567 => if r567 ≥ 0 then (some 2) else (bnd (p_spyref3_Root L r564.1 r565.1) fun r568 => bnd (p_spyref3_Cmp L o562.2 1073741824 a2 r568) fun r569 => if r569 < 0 then (some 0) else (some 1))) else (bnd (p_spyref3_Root L r564.1 r565.1) fun r570 => bnd (p_spyref3_Cmp L o562.2 1073741824 a2 r570) fun r571 => if r571 < 0 then (some 0) else (some 1))) else (bnd (p_spyref3_Root L r564.1 r565.1) fun r572 => bnd (p_spyref3_Cmp L o562.2 1073741824 a2 r572) fun r573 => if r573 < 0 then (some 0) else (some 1))) (some 1)) (some 1)))
attribute [local go_sem] Ev.putR_s Ev.putR_0 Ev.thenO_s Ev.thenO_0 Ev.seqR_n Ev.seqR_e Ev.seqR_r Ev.seqR_0 Ev.blkR_e Ev.blkR_n Ev.blkR_r Ev.blkR_0 Ev.normR_s Ev.normR_0 Ev.outR_r Ev.outR_n Ev.outR_0 Ev.retS_s Ev.retS_0 Ev.pureO_s Ev.pureO_0 Ev.topR_0 Ev.topR_t Ev.topR_t0 Ev.oneL_0 Ev.oneL_s Ev.topR_d Ev.topR_nils Ev.topR_agg Ev.topR_rs Ev.evOp_move Ev.evOp_assign Ev.evOp_pick Ev.evOp_alloc Ev.evOp_box Ev.evOp_build Ev.evOp_buildSlice Ev.evOp_load Ev.evOp_store Ev.evOp_makeMap Ev.evOp_lookup Ev.evOp_mapUpdate Ev.evOp_insert Ev.evOp_nilCheck Ev.evOp_binOp Ev.evOp_unOp Ev.evOp_convert Ev.evOp_makeFunc Ev.evOp_makeSlice Ev.evOp_slice Ev.evOp_fieldAddr Ev.evOp_field Ev.evOp_indexAddr Ev.evOp_index Ev.evOp_extract Ev.evOp_call Ev.evOp_append Ev.evOp_clear Ev.evOp_len Ev.evOp_min Ev.evOp_max Ev.condR_b Ev.condR_t Ev.evOps_nil Ev.evOps_plain Ev.evOps_guard Ev.runG_eq Ev.skipG_eq Ev.condL_tt Ev.condL_ff Ev.condL_tf Ev.condL_ft Ev.condL_u Ev.condC_t Ev.condC_f Ev.evC_skip Ev.evC_ret Ev.evC_exit Ev.evC_label Ev.evC_region Ev.evC_draw Ev.evC_seq Ev.evC_cond Ev.evC_block Ev.evC_loop Ev.fin_d Ev.fin_nils Ev.fin_agg_ Ev.fin_rs Ev.finS_s Ev.mapO_fin Ev.upd_upd Ev.argv_d Ev.argv_nils Ev.argv_agg Ev.argv_rs Ev.argv_p Ev.fk_low Ev.appendTo_nils Ev.appendTo_rs Ev.consV_d Ev.consV_agg Ev.consV_p Ev.consV_rs Ev.consV_nils Ev.consV_fn Ev.consV_und Ev.consV_jk Ev.consV_grown Ev.topR_grown Ev.len_grown Ev.consV_mp Ev.sameK_i Ev.sameK_s Ev.mget_0 Ev.mget_hit Ev.mget_miss Ev.mput_0 Ev.mput_hit Ev.mput_miss Ev.apartAll Ev.apartL Ev.apartV Ev.freeAll Ev.sel Ev.keyOfV Ev.evLookup Ev.evPut Ev.hintOk Ev.keyOk Ev.consP Ev.lookV Ev.guardV Ev.dstAt Ev.evPure Ev.evStore Ev.evBin Ev.evBinO Ev.evNil Ev.isNilC Ev.evUn Ev.evConv Ev.evSlice Ev.optI Ev.foldI Ev.capsOk Ev.noTup Ev.nth Ev.setN Ev.killAt Ev.pad Ev.V.get Ev.V.put Ev.putD Ev.newBlk Ev.upd Ev.keq Ev.empty Ev.evCall Ev.V.args Ev.argP Ev.callOf Ev.evNilP Ev.isNilP Ev.look Ev.V.view.views Ev.V.view Ev.V.toD Ev.V.toD.V.toDs Ev.V.pure.pures Ev.V.pure Ev.D.flat.flats Ev.D.flat Ev.mkAgg Ev.allD Ev.aggParts Ev.setParts Ev.setElems Ev.getPath Ev.setPath Ev.subL Ev.eqD Ev.eqD.eqDs Ev.and2 Ev.strCut Ev.evalT Ev.constT Ev.evArgs Ev.mask Ev.maskOf Ev.tableOf Ev.compT Ev.resV Ev.retV Ev.mapO Ev.frzO_n Ev.frzO_e Ev.frzO_r Ev.frzO_0 Ev.mb_z Ev.mb_0 Ev.mb_s Ev.frzL_t Ev.frzL_f Ev.frzL_0 Ev.frzT_nils Ev.frzT_rs Ev.frzT_p Ev.frzK_i Ev.keyIn_i Ev.rI_nil Ev.rI_cons Ev.rI_row Ev.rI_app Ev.r_d Ev.r_nils Ev.r_agg Ev.r_rs Ev.r_gl Ev.vw_row Ev.vw_app Ev.appO_s Ev.frzT_gl Ev.allD_gl Ev.killAt_i Ev.tkOne_i Ev.hT_agg Ev.hT_vagg Ev.hT_int Ev.hT_bool Ev.hT_str Ev.hT_sl Ev.hT_ptr Ev.hT_np Ev.hT_p Ev.hT_rs Ev.hT_mp Ev.hT_nils Ev.hT_fn Ev.hT_jk Ev.hT_gl Ev.eO_sl Ev.eO_nils Ev.eO_rs Ev.eT_sl Ev.eT_rs Ev.pL_str Ev.pL_sl Ev.pL_rs Ev.pL_nils Ev.pL_min Ev.pL_max Ev.len_glB Ev.noTup_gl Ev.rowV_len Ev.rowV_nil Ev.rowV_cons Ev.rowV_append Ev.rowV_set Ev.rowV_replicate Ev.nth_row Ev.row_take Ev.row_drop Ev.toDs_row Ev.fin_row Ev.map_row Ev.map_take_ Ev.map_drop_ Ev.Bk_i Ev.GlB_0 Ev.GlB_mk Ev.gl_nil Ev.gl_cons Ev.gl_snoc Ev.gl_setN Ev.appendTo_gl Ev.consV_gl Ev.elems_gl Ev.fin_gl Ev.view_gl Ev.argv_gl Ev.topR_gl Ev.sp_z Ev.sp_0 Ev.sp_s Ev.km_z Ev.km_0 Ev.km_s Ev.beq_toList Ev.nc0 Ev.bq_t Ev.bq_f Ev.bodyN Ev.le_maxRow Int.cast_ofNat_Int IntWalk.i64_in IntWalk.u64_in IntWalk.u8_in beq_self_eq_true Bool.true_beq Bool.false_beq Bool.and_true Bool.true_and Bool.false_and Bool.and_false Bool.and_self Bool.not_true Bool.not_false Bool.not_eq_true cond_true cond_false if_true if_false and_true true_and and_self decide_true decide_false Bool.or_true Bool.true_or Bool.or_false Bool.false_or List.isEmpty List.isEmpty_nil List.size_toArray List.map List.length_map List.length_cons List.length_nil Option.map Option.bind Option.getD Option.isSome List.replicate Bool.false_eq_true implies_true false_implies forall_const Array.toList Array.isEmpty List.append List.nil_append List.cons_append List.drop_zero List.take_length List.take_succ_cons List.take_zero List.take_nil List.getElem?_map List.getElem?_cons_zero List.getElem?_cons_succ List.getElem?_nil List.append_nil eq_self Int.toNat_natCast List.length_append Nat.zero_add Nat.add_zero List.length_replicate Nat.sub_zero Option.map_some Option.map_none Int.le_refl Nat.le_refl Int.natCast_nonneg List.map_append
attribute [local go_sem_proc] Nat.reduceAdd Nat.reduceSub Nat.reduceMul Nat.reduceEqDiff Nat.reduceBEq Nat.reduceLT Nat.reduceLeDiff Nat.reducePow Int.reduceToNat Int.reduceLT Int.reduceLE Int.reduceGT Int.reduceGE Int.reduceEq Int.reduceNeg Int.reduceAdd Int.reduceSub Int.reduceMul reduceCtorEq
attribute [local go_sem_proc ↓] reduceIte
noncomputable def G_spyref3_Close (L : Nat) : Specs := [(112, s_spyref3_ends L), (113, s_slices_Min_int64 L), (114, s_slices_Max_int64 L), (115, s_spyref3_squares L), (116, s_spyref3_Cmp L), (117, s_spyref3_RootUp L), (118, s_spyref3_Root L)]
noncomputable def T_spyref3_Close : Table := tableOf [(34, en34)]
theorem Go_spyref3_Close (L : Nat) (hL : L ≤ 4611686018427387904) : ∀ g s, Ev.look (G_spyref3_Close L) g = some s → SpecOk Try.prog g s := (specs_cons (ok_spyref3_ends L hL) (specs_cons (ok_slices_Min_int64 L hL) (specs_cons (ok_slices_Max_int64 L hL) (specs_cons (ok_spyref3_squares L hL) (specs_cons (ok_spyref3_Cmp L hL) (specs_cons (ok_spyref3_RootUp L hL) (specs_cons (ok_spyref3_Root L hL) specs_nil)))))))
theorem To_spyref3_Close (L : Nat) : TableOk Try.prog ((G_spyref3_Close L).map (·.1)) T_spyref3_Close := (table_cons Try.func34 (by kernel_rfl) (by kernel_rfl) table_nil)
theorem lk_spyref3_Close_112 (L : Nat) : Ev.look (G_spyref3_Close L) 112 = some (s_spyref3_ends L) := nr rfl
theorem lk_spyref3_Close_113 (L : Nat) : Ev.look (G_spyref3_Close L) 113 = some (s_slices_Min_int64 L) := nr rfl
theorem lk_spyref3_Close_114 (L : Nat) : Ev.look (G_spyref3_Close L) 114 = some (s_slices_Max_int64 L) := nr rfl
theorem lk_spyref3_Close_115 (L : Nat) : Ev.look (G_spyref3_Close L) 115 = some (s_spyref3_squares L) := nr rfl
theorem lk_spyref3_Close_116 (L : Nat) : Ev.look (G_spyref3_Close L) 116 = some (s_spyref3_Cmp L) := nr rfl
theorem lk_spyref3_Close_117 (L : Nat) : Ev.look (G_spyref3_Close L) 117 = some (s_spyref3_RootUp L) := nr rfl
theorem lk_spyref3_Close_118 (L : Nat) : Ev.look (G_spyref3_Close L) 118 = some (s_spyref3_Root L) := nr rfl
attribute [local go_sem] Ty.tk2 Ty.ik2 Ty.ek2 Ty.zv2 Ty.by2 Ty.so2 Ty.tk3 Ty.ik3 Ty.ek3 Ty.zv3 Ty.by3 Ty.so3 Ty.tk4 Ty.ub4 Ty.ek4 Ty.zv4 Ty.by4 Ty.so4 Ty.tk62 Ty.ik62 Ty.ek62 Ty.zv62 Ty.by62 Ty.so62 Ty.tk64 Ty.ct64 Ty.ek64 Ty.zv64 Ty.by64 Ty.so64 Ty.tk66 Ty.ct66 Ty.ek66 Ty.zv66 Ty.by66 Ty.so66 Ty.tk67 Ty.ik67 Ty.ek67 Ty.zv67 Ty.by67 Ty.so67 Ty.tk179 Ty.zv179 Ty.by179 Ty.so179 Ty.tk180 Ty.ct180 Ty.zv180 Ty.by180 Ty.so180 Ty.k64_e Ty.k66_e Ty.k179_e Ty.k180_e E.mk34_0 E.mk34_2 E.mk34_4 E.mk34_1000001 E.mk34_1000002 E.mk34_1000003 E.mk34_1000004 E.mk34_1000005 E.mk34_1000006 E.mk34_1000000 E.fz34_0 E.fi34_0 E.fz34_2 E.fi34_2 E.fz34_4 E.fi34_4 E.lb34_0 E.lb34_2 E.lb34_4 lk_spyref3_Close_112 lk_spyref3_Close_113 lk_spyref3_Close_114 lk_spyref3_Close_115 lk_spyref3_Close_116 lk_spyref3_Close_117 lk_spyref3_Close_118 s_spyref3_ends_run s_slices_Min_int64_run s_slices_Max_int64_run s_spyref3_squares_run s_spyref3_Cmp_run s_spyref3_RootUp_run s_spyref3_Root_run loopN loops Try.f34
def Q0_p_spyref3_Close_l2 (a2 : Int) (s194 : Int) (s195 : Int) (s4 : Int) (x379 : Int) (a5 : List Int) (a419 : Int) (s380 : Int) (a8 : List Int) (a6 : List Int) (a7 : List Int) (a9 : List Int) (a10 : List Int) (u : List Int) (z : Out) : Prop := ∃ env st, z = some (.exit 4, env, st) ∧ env = sp 113 0 [(2, .d (.int .i64 a2)), (7, .p (0, 7) (st (0, 7)).ver 0 []), (9, .p (0, 9) (st (0, 9)).ver 0 []), (11, .d (.int .i64 s194)), (12, .d (.int .i64 s195)), (13, .d (.int .i64 s4)), (14, gl 2 (0, 69) (st (0, 69)).ver (rowV (D.int .i64) u)), (45, .d (.int .i64 s4)), (50, .d (.sl 2 (a5.map (D.int .i64)))), (51, .d (.int .i64 a419)), (52, .d (.int .i64 s380))] ∧ Bk (st (0, 7)) 180 [.d (.agg 180 [.sl 2 (a5.map (D.int .i64)), .sl 2 (a6.map (D.int .i64)), .sl 2 (a7.map (D.int .i64))])] ∧ Bk (st (0, 9)) 180 [.d (.agg 180 [.sl 2 (a8.map (D.int .i64)), .sl 2 (a9.map (D.int .i64)), .sl 2 (a10.map (D.int .i64))])] ∧ GlB (st (0, 69)) 2 (rowV (D.int .i64) u)
abbrev Q_p_spyref3_Close_l2 (a2 : Int) (s194 : Int) (s195 : Int) (s4 : Int) (x379 : Int) (a5 : List Int) (a419 : Int) (s380 : Int) (a8 : List Int) (a6 : List Int) (a7 : List Int) (a9 : List Int) (a10 : List Int) (o : List Int) (z : Out) : Prop := Q0_p_spyref3_Close_l2 a2 s194 s195 s4 x379 a5 a419 s380 a8 a6 a7 a9 a10 o z
theorem l_p_spyref3_Close_l2 (L : Nat) (hL : L ≤ 4611686018427387904) (a2 : Int) (s194 : Int) (s195 : Int) (s4 : Int) (x379 : Int) (a5 : List Int) (a419 : Int) (s380 : Int) (a8 : List Int) (a6 : List Int) (a7 : List Int) (a9 : List Int) (a10 : List Int) : ∀ (tl : List Int) (n : Nat) (s420 : Int) (s421 : List Int) (env : List V) (st : Store) (o : List Int), tl.length < n → Rng a8 s420 tl → mask (maskOf en34.ms 4) env = sp 113 0 [(2, .d (.int .i64 a2)), (7, .p (0, 7) (st (0, 7)).ver 0 []), (9, .p (0, 9) (st (0, 9)).ver 0 []), (11, .d (.int .i64 s194)), (12, .d (.int .i64 s195)), (13, .d (.int .i64 s4)), (14, gl 2 (0, 69) (st (0, 69)).ver (rowV (D.int .i64) s421)), (16, .d (.int .i64 x379)), (45, .d (.int .i64 s4)), (50, .d (.sl 2 (a5.map (D.int .i64)))), (51, .d (.int .i64 a419)), (52, .d (.int .i64 s380)), (58, .d (.sl 2 (a8.map (D.int .i64)))), (59, .d (.int .i64 (a8.length : Int))), (60, .d (.int .i64 s420))] → Bk (st (0, 7)) 180 [.d (.agg 180 [.sl 2 (a5.map (D.int .i64)), .sl 2 (a6.map (D.int .i64)), .sl 2 (a7.map (D.int .i64))])] → Bk (st (0, 9)) 180 [.d (.agg 180 [.sl 2 (a8.map (D.int .i64)), .sl 2 (a9.map (D.int .i64)), .sl 2 (a10.map (D.int .i64))])] → GlB (st (0, 69)) 2 (rowV (D.int .i64) s421) → p_spyref3_Close_l2 L x379 tl s421 = some o →
    Q_p_spyref3_Close_l2 a2 s194 s195 s4 x379 a5 a419 s380 a8 a6 a7 a9 a10 o (iter (evC Try.prog (G_spyref3_Close L) (evF Try.prog (G_spyref3_Close L) T_spyref3_Close L 0) L en34.ms 0 4 lb34_4) (maskOf en34.ms 4) n env st) := by
  intro tl
  induction tl with
  | nil =>
    intro n s420 s421 env st o hn hR he hb0 hb1 hb2 h
    obtain ⟨n, rfl⟩ : ∃ m, n = m + 1 := ⟨n - 1, by omega⟩
    obtain ⟨be0, bv0, bl0⟩ := hb0
    obtain ⟨be1, bv1, bl1⟩ := hb1
    have g0 := rng_nil hR
    rw [iter, he]
    clear he
    generalize hK : iter _ _ n = K
    rw [p_spyref3_Close_l2] at h
    revert h
    rintro ⟨⟩
    simp only [go_sem, *]
    refine (⟨_, _, rfl, ?_, ?_, ?_, ?_⟩ : Q0_p_spyref3_Close_l2 _ _ _ _ _ _ _ _ _ _ _ _ _ _ _)
    all_goals simp only [go_sem, *]
  | cons x418 tl ih =>
    intro n s420 s421 env st o hn hR he hb0 hb1 hb2 h
    obtain ⟨n, rfl⟩ : ∃ m, n = m + 1 := ⟨n - 1, by omega⟩
    obtain ⟨be0, bv0, bl0⟩ := hb0
    obtain ⟨be1, bv1, bl1⟩ := hb1
    replace ih : Hold _ := ih
    replace hR := rng_s hR
    obtain ⟨g0, g1, g2, g3, hR⟩ := hR
    rw [iter, he]
    clear he
    generalize hK : iter _ _ n = K
    rw [p_spyref3_Close_l2] at h
    revert h
    refine rq_i fun c1 => ?_
    refine rq_i fun c2 => ?_
    intro h
    simp only [go_sem, *]
    subst hK
    refine ih n (s420 + 1) (s421 ++ [(i64.wrap (x379 * x418))]) _ _ _ (by simp only [List.length_cons] at hn; omega) hR ?_ ?_ ?_ ?_ h
    all_goals simp only [go_sem, *]
def Q0_p_spyref3_Close_l3 (a2 : Int) (s194 : Int) (s195 : Int) (s4 : Int) (x379 : Int) (a5 : List Int) (a425 : Int) (s380 : Int) (a9 : List Int) (a6 : List Int) (a7 : List Int) (a8 : List Int) (a10 : List Int) (u : List Int) (z : Out) : Prop := ∃ env st, z = some (.exit 4, env, st) ∧ env = sp 113 0 [(2, .d (.int .i64 a2)), (7, .p (0, 7) (st (0, 7)).ver 0 []), (9, .p (0, 9) (st (0, 9)).ver 0 []), (11, .d (.int .i64 s194)), (12, .d (.int .i64 s195)), (13, .d (.int .i64 s4)), (14, gl 2 (0, 69) (st (0, 69)).ver (rowV (D.int .i64) u)), (45, .d (.int .i64 s4)), (50, .d (.sl 2 (a5.map (D.int .i64)))), (51, .d (.int .i64 a425)), (52, .d (.int .i64 s380))] ∧ Bk (st (0, 7)) 180 [.d (.agg 180 [.sl 2 (a5.map (D.int .i64)), .sl 2 (a6.map (D.int .i64)), .sl 2 (a7.map (D.int .i64))])] ∧ Bk (st (0, 9)) 180 [.d (.agg 180 [.sl 2 (a8.map (D.int .i64)), .sl 2 (a9.map (D.int .i64)), .sl 2 (a10.map (D.int .i64))])] ∧ GlB (st (0, 69)) 2 (rowV (D.int .i64) u)
abbrev Q_p_spyref3_Close_l3 (a2 : Int) (s194 : Int) (s195 : Int) (s4 : Int) (x379 : Int) (a5 : List Int) (a425 : Int) (s380 : Int) (a9 : List Int) (a6 : List Int) (a7 : List Int) (a8 : List Int) (a10 : List Int) (o : List Int) (z : Out) : Prop := Q0_p_spyref3_Close_l3 a2 s194 s195 s4 x379 a5 a425 s380 a9 a6 a7 a8 a10 o z
theorem l_p_spyref3_Close_l3 (L : Nat) (hL : L ≤ 4611686018427387904) (a2 : Int) (s194 : Int) (s195 : Int) (s4 : Int) (x379 : Int) (a5 : List Int) (a425 : Int) (s380 : Int) (a9 : List Int) (a6 : List Int) (a7 : List Int) (a8 : List Int) (a10 : List Int) : ∀ (tl : List Int) (n : Nat) (s426 : Int) (s427 : List Int) (env : List V) (st : Store) (o : List Int), tl.length < n → Rng a9 s426 tl → mask (maskOf en34.ms 4) env = sp 113 0 [(2, .d (.int .i64 a2)), (7, .p (0, 7) (st (0, 7)).ver 0 []), (9, .p (0, 9) (st (0, 9)).ver 0 []), (11, .d (.int .i64 s194)), (12, .d (.int .i64 s195)), (13, .d (.int .i64 s4)), (14, gl 2 (0, 69) (st (0, 69)).ver (rowV (D.int .i64) s427)), (16, .d (.int .i64 x379)), (45, .d (.int .i64 s4)), (50, .d (.sl 2 (a5.map (D.int .i64)))), (51, .d (.int .i64 a425)), (52, .d (.int .i64 s380)), (58, .d (.sl 2 (a9.map (D.int .i64)))), (59, .d (.int .i64 (a9.length : Int))), (60, .d (.int .i64 s426))] → Bk (st (0, 7)) 180 [.d (.agg 180 [.sl 2 (a5.map (D.int .i64)), .sl 2 (a6.map (D.int .i64)), .sl 2 (a7.map (D.int .i64))])] → Bk (st (0, 9)) 180 [.d (.agg 180 [.sl 2 (a8.map (D.int .i64)), .sl 2 (a9.map (D.int .i64)), .sl 2 (a10.map (D.int .i64))])] → GlB (st (0, 69)) 2 (rowV (D.int .i64) s427) → p_spyref3_Close_l3 L x379 tl s427 = some o →
    Q_p_spyref3_Close_l3 a2 s194 s195 s4 x379 a5 a425 s380 a9 a6 a7 a8 a10 o (iter (evC Try.prog (G_spyref3_Close L) (evF Try.prog (G_spyref3_Close L) T_spyref3_Close L 0) L en34.ms 0 4 lb34_4) (maskOf en34.ms 4) n env st) := by
  intro tl
  induction tl with
  | nil =>
    intro n s426 s427 env st o hn hR he hb0 hb1 hb2 h
    obtain ⟨n, rfl⟩ : ∃ m, n = m + 1 := ⟨n - 1, by omega⟩
    obtain ⟨be0, bv0, bl0⟩ := hb0
    obtain ⟨be1, bv1, bl1⟩ := hb1
    have g0 := rng_nil hR
    rw [iter, he]
    clear he
    generalize hK : iter _ _ n = K
    rw [p_spyref3_Close_l3] at h
    revert h
    rintro ⟨⟩
    simp only [go_sem, *]
    refine (⟨_, _, rfl, ?_, ?_, ?_, ?_⟩ : Q0_p_spyref3_Close_l3 _ _ _ _ _ _ _ _ _ _ _ _ _ _ _)
    all_goals simp only [go_sem, *]
  | cons x424 tl ih =>
    intro n s426 s427 env st o hn hR he hb0 hb1 hb2 h
    obtain ⟨n, rfl⟩ : ∃ m, n = m + 1 := ⟨n - 1, by omega⟩
    obtain ⟨be0, bv0, bl0⟩ := hb0
    obtain ⟨be1, bv1, bl1⟩ := hb1
    replace ih : Hold _ := ih
    replace hR := rng_s hR
    obtain ⟨g0, g1, g2, g3, hR⟩ := hR
    rw [iter, he]
    clear he
    generalize hK : iter _ _ n = K
    rw [p_spyref3_Close_l3] at h
    revert h
    refine rq_i fun c1 => ?_
    refine rq_i fun c2 => ?_
    intro h
    simp only [go_sem, *]
    subst hK
    refine ih n (s426 + 1) (s427 ++ [(i64.wrap (x379 * x424))]) _ _ _ (by simp only [List.length_cons] at hn; omega) hR ?_ ?_ ?_ ?_ h
    all_goals simp only [go_sem, *]
def Q0_p_spyref3_Close_l4 (a2 : Int) (s194 : Int) (s195 : Int) (s4 : Int) (x379 : Int) (a5 : List Int) (a431 : Int) (s380 : Int) (a10 : List Int) (a6 : List Int) (a7 : List Int) (a8 : List Int) (a9 : List Int) (u : List Int) (z : Out) : Prop := ∃ env st, z = some (.exit 4, env, st) ∧ env = sp 113 0 [(2, .d (.int .i64 a2)), (7, .p (0, 7) (st (0, 7)).ver 0 []), (9, .p (0, 9) (st (0, 9)).ver 0 []), (11, .d (.int .i64 s194)), (12, .d (.int .i64 s195)), (13, .d (.int .i64 s4)), (14, gl 2 (0, 69) (st (0, 69)).ver (rowV (D.int .i64) u)), (45, .d (.int .i64 s4)), (50, .d (.sl 2 (a5.map (D.int .i64)))), (51, .d (.int .i64 a431)), (52, .d (.int .i64 s380))] ∧ Bk (st (0, 7)) 180 [.d (.agg 180 [.sl 2 (a5.map (D.int .i64)), .sl 2 (a6.map (D.int .i64)), .sl 2 (a7.map (D.int .i64))])] ∧ Bk (st (0, 9)) 180 [.d (.agg 180 [.sl 2 (a8.map (D.int .i64)), .sl 2 (a9.map (D.int .i64)), .sl 2 (a10.map (D.int .i64))])] ∧ GlB (st (0, 69)) 2 (rowV (D.int .i64) u)
abbrev Q_p_spyref3_Close_l4 (a2 : Int) (s194 : Int) (s195 : Int) (s4 : Int) (x379 : Int) (a5 : List Int) (a431 : Int) (s380 : Int) (a10 : List Int) (a6 : List Int) (a7 : List Int) (a8 : List Int) (a9 : List Int) (o : List Int) (z : Out) : Prop := Q0_p_spyref3_Close_l4 a2 s194 s195 s4 x379 a5 a431 s380 a10 a6 a7 a8 a9 o z
theorem l_p_spyref3_Close_l4 (L : Nat) (hL : L ≤ 4611686018427387904) (a2 : Int) (s194 : Int) (s195 : Int) (s4 : Int) (x379 : Int) (a5 : List Int) (a431 : Int) (s380 : Int) (a10 : List Int) (a6 : List Int) (a7 : List Int) (a8 : List Int) (a9 : List Int) : ∀ (tl : List Int) (n : Nat) (s432 : Int) (s433 : List Int) (env : List V) (st : Store) (o : List Int), tl.length < n → Rng a10 s432 tl → mask (maskOf en34.ms 4) env = sp 113 0 [(2, .d (.int .i64 a2)), (7, .p (0, 7) (st (0, 7)).ver 0 []), (9, .p (0, 9) (st (0, 9)).ver 0 []), (11, .d (.int .i64 s194)), (12, .d (.int .i64 s195)), (13, .d (.int .i64 s4)), (14, gl 2 (0, 69) (st (0, 69)).ver (rowV (D.int .i64) s433)), (16, .d (.int .i64 x379)), (45, .d (.int .i64 s4)), (50, .d (.sl 2 (a5.map (D.int .i64)))), (51, .d (.int .i64 a431)), (52, .d (.int .i64 s380)), (58, .d (.sl 2 (a10.map (D.int .i64)))), (59, .d (.int .i64 (a10.length : Int))), (60, .d (.int .i64 s432))] → Bk (st (0, 7)) 180 [.d (.agg 180 [.sl 2 (a5.map (D.int .i64)), .sl 2 (a6.map (D.int .i64)), .sl 2 (a7.map (D.int .i64))])] → Bk (st (0, 9)) 180 [.d (.agg 180 [.sl 2 (a8.map (D.int .i64)), .sl 2 (a9.map (D.int .i64)), .sl 2 (a10.map (D.int .i64))])] → GlB (st (0, 69)) 2 (rowV (D.int .i64) s433) → p_spyref3_Close_l4 L x379 tl s433 = some o →
    Q_p_spyref3_Close_l4 a2 s194 s195 s4 x379 a5 a431 s380 a10 a6 a7 a8 a9 o (iter (evC Try.prog (G_spyref3_Close L) (evF Try.prog (G_spyref3_Close L) T_spyref3_Close L 0) L en34.ms 0 4 lb34_4) (maskOf en34.ms 4) n env st) := by
  intro tl
  induction tl with
  | nil =>
    intro n s432 s433 env st o hn hR he hb0 hb1 hb2 h
    obtain ⟨n, rfl⟩ : ∃ m, n = m + 1 := ⟨n - 1, by omega⟩
    obtain ⟨be0, bv0, bl0⟩ := hb0
    obtain ⟨be1, bv1, bl1⟩ := hb1
    have g0 := rng_nil hR
    rw [iter, he]
    clear he
    generalize hK : iter _ _ n = K
    rw [p_spyref3_Close_l4] at h
    revert h
    rintro ⟨⟩
    simp only [go_sem, *]
    refine (⟨_, _, rfl, ?_, ?_, ?_, ?_⟩ : Q0_p_spyref3_Close_l4 _ _ _ _ _ _ _ _ _ _ _ _ _ _ _)
    all_goals simp only [go_sem, *]
  | cons x430 tl ih =>
    intro n s432 s433 env st o hn hR he hb0 hb1 hb2 h
    obtain ⟨n, rfl⟩ : ∃ m, n = m + 1 := ⟨n - 1, by omega⟩
    obtain ⟨be0, bv0, bl0⟩ := hb0
    obtain ⟨be1, bv1, bl1⟩ := hb1
    replace ih : Hold _ := ih
    replace hR := rng_s hR
    obtain ⟨g0, g1, g2, g3, hR⟩ := hR
    rw [iter, he]
    clear he
    generalize hK : iter _ _ n = K
    rw [p_spyref3_Close_l4] at h
    revert h
    refine rq_i fun c1 => ?_
    refine rq_i fun c2 => ?_
    intro h
    simp only [go_sem, *]
    subst hK
    refine ih n (s432 + 1) (s433 ++ [(i64.wrap (x379 * x430))]) _ _ _ (by simp only [List.length_cons] at hn; omega) hR ?_ ?_ ?_ ?_ h
    all_goals simp only [go_sem, *]
def Q0_p_spyref3_Close_l1 (a2 : Int) (s194 : Int) (s195 : Int) (s4 : Int) (a5 : List Int) (a6 : List Int) (a7 : List Int) (a8 : List Int) (a9 : List Int) (a10 : List Int) (u : List Int) (z : Out) : Prop := ∃ env st, z = some (.exit 2, env, st) ∧ env = sp 113 0 [(2, .d (.int .i64 a2)), (7, .p (0, 7) (st (0, 7)).ver 0 []), (9, .p (0, 9) (st (0, 9)).ver 0 []), (11, .d (.int .i64 s194)), (12, .d (.int .i64 s195)), (14, gl 2 (0, 69) (st (0, 69)).ver (rowV (D.int .i64) u)), (45, .d (.int .i64 s4))] ∧ Bk (st (0, 7)) 180 [.d (.agg 180 [.sl 2 (a5.map (D.int .i64)), .sl 2 (a6.map (D.int .i64)), .sl 2 (a7.map (D.int .i64))])] ∧ Bk (st (0, 9)) 180 [.d (.agg 180 [.sl 2 (a8.map (D.int .i64)), .sl 2 (a9.map (D.int .i64)), .sl 2 (a10.map (D.int .i64))])] ∧ GlB (st (0, 69)) 2 (rowV (D.int .i64) u)
abbrev Q_p_spyref3_Close_l1 (a2 : Int) (s194 : Int) (s195 : Int) (s4 : Int) (a5 : List Int) (a6 : List Int) (a7 : List Int) (a8 : List Int) (a9 : List Int) (a10 : List Int) (o : List Int) (z : Out) : Prop := Q0_p_spyref3_Close_l1 a2 s194 s195 s4 a5 a6 a7 a8 a9 a10 o z
theorem l_p_spyref3_Close_l1 (L : Nat) (hL : L ≤ 4611686018427387904) (a2 : Int) (s194 : Int) (s195 : Int) (s4 : Int) (a5 : List Int) (a6 : List Int) (a7 : List Int) (a8 : List Int) (a9 : List Int) (a10 : List Int) : ∀ (tl : List Int) (n : Nat) (s380 : Int) (s399 : List Int) (env : List V) (st : Store) (o : List Int), tl.length < n → Rng a5 s380 tl → mask (maskOf en34.ms 2) env = sp 113 0 [(2, .d (.int .i64 a2)), (7, .p (0, 7) (st (0, 7)).ver 0 []), (9, .p (0, 9) (st (0, 9)).ver 0 []), (11, .d (.int .i64 s194)), (12, .d (.int .i64 s195)), (13, .d (.int .i64 s4)), (14, gl 2 (0, 69) (st (0, 69)).ver (rowV (D.int .i64) s399)), (45, .d (.int .i64 s4)), (50, .d (.sl 2 (a5.map (D.int .i64)))), (51, .d (.int .i64 (a5.length : Int))), (52, .d (.int .i64 s380))] → Bk (st (0, 7)) 180 [.d (.agg 180 [.sl 2 (a5.map (D.int .i64)), .sl 2 (a6.map (D.int .i64)), .sl 2 (a7.map (D.int .i64))])] → Bk (st (0, 9)) 180 [.d (.agg 180 [.sl 2 (a8.map (D.int .i64)), .sl 2 (a9.map (D.int .i64)), .sl 2 (a10.map (D.int .i64))])] → GlB (st (0, 69)) 2 (rowV (D.int .i64) s399) → p_spyref3_Close_l1 L s4 a8 a9 a10 tl s399 = some o →
    Q_p_spyref3_Close_l1 a2 s194 s195 s4 a5 a6 a7 a8 a9 a10 o (iter (evC Try.prog (G_spyref3_Close L) (evF Try.prog (G_spyref3_Close L) T_spyref3_Close L 0) L en34.ms 0 2 lb34_2) (maskOf en34.ms 2) n env st) := by
  intro tl
  induction tl with
  | nil =>
    intro n s380 s399 env st o hn hR he hb0 hb1 hb2 h
    obtain ⟨n, rfl⟩ : ∃ m, n = m + 1 := ⟨n - 1, by omega⟩
    obtain ⟨be0, bv0, bl0⟩ := hb0
    obtain ⟨be1, bv1, bl1⟩ := hb1
    have g0 := rng_nil hR
    rw [iter, he]
    clear he
    generalize hK : iter _ _ n = K
    rw [p_spyref3_Close_l1] at h
    revert h
    rintro ⟨⟩
    simp only [go_sem, *]
    refine (⟨_, _, rfl, ?_, ?_, ?_, ?_⟩ : Q0_p_spyref3_Close_l1 _ _ _ _ _ _ _ _ _ _ _ _)
    all_goals simp only [go_sem, *]
  | cons x379 tl ih =>
    intro n s380 s399 env st o hn hR he hb0 hb1 hb2 h
    obtain ⟨n, rfl⟩ : ∃ m, n = m + 1 := ⟨n - 1, by omega⟩
    obtain ⟨be0, bv0, bl0⟩ := hb0
    obtain ⟨be1, bv1, bl1⟩ := hb1
    replace ih : Hold _ := ih
    replace hR := rng_s hR
    obtain ⟨g0, g1, g2, g3, hR⟩ := hR
    rw [iter, he]
    clear he
    generalize hK : iter _ _ n = K
    rw [p_spyref3_Close_l1] at h
    revert h
    refine cb_i (fun c1 => ?_) (fun c1 => ?_)
    · have c2 : 0 ≤ s4 := by have := of_decide_eq_true c1; omega
      have c3 : s4 < 3 := by have := of_decide_eq_true c1; omega
      have c4 : s4.toNat = 0 := by have := of_decide_eq_true c1; omega
      refine rq_i fun c5 => ?_
      refine bnd_i fun o422 ho6 => ?_
      intro h
      simp only [go_sem, *]
      generalize hz8 : iter _ _ _ _ _ = z7
      have hq9 : Q_p_spyref3_Close_l2 a2 s194 s195 s4 x379 a5 (a5.length : Int) s380 a8 a6 a7 a9 a10 o422 z7 := by
        rw [← hz8]
        refine l_p_spyref3_Close_l2 L hL a2 s194 s195 s4 x379 a5 (a5.length : Int) s380 a8 a6 a7 a9 a10 a8 L 0 s399 _ _ _ c5 (rng_0 c5 hL) ?_ ?_ ?_ ?_ ho6
        all_goals simp only [go_sem, *]
      clear hz8 ho6
      obtain ⟨_, st423, rfl, rfl, ⟨k101, k102, k103⟩, ⟨k111, k112, k113⟩, k12⟩ := hq9
      revert h
      intro h
      simp only [go_sem, *]
      subst hK
      refine ih n (s380 + 1) o422 _ _ _ (by simp only [List.length_cons] at hn; omega) hR ?_ ?_ ?_ ?_ h
      all_goals simp only [go_sem, *]
    · refine cb_i (fun c13 => ?_) (fun c13 => ?_)
      · have c14 : 0 ≤ s4 := by have := of_decide_eq_true c13; omega
        have c15 : s4 < 3 := by have := of_decide_eq_true c13; omega
        have c16 : s4.toNat = 1 := by have := of_decide_eq_true c13; omega
        refine rq_i fun c17 => ?_
        refine bnd_i fun o428 ho18 => ?_
        intro h
        simp only [go_sem, *]
        generalize hz20 : iter _ _ _ _ _ = z19
        have hq21 : Q_p_spyref3_Close_l3 a2 s194 s195 s4 x379 a5 (a5.length : Int) s380 a9 a6 a7 a8 a10 o428 z19 := by
          rw [← hz20]
          refine l_p_spyref3_Close_l3 L hL a2 s194 s195 s4 x379 a5 (a5.length : Int) s380 a9 a6 a7 a8 a10 a9 L 0 s399 _ _ _ c17 (rng_0 c17 hL) ?_ ?_ ?_ ?_ ho18
          all_goals simp only [go_sem, *]
        clear hz20 ho18
        obtain ⟨_, st429, rfl, rfl, ⟨k221, k222, k223⟩, ⟨k231, k232, k233⟩, k24⟩ := hq21
        revert h
        intro h
        simp only [go_sem, *]
        subst hK
        refine ih n (s380 + 1) o428 _ _ _ (by simp only [List.length_cons] at hn; omega) hR ?_ ?_ ?_ ?_ h
        all_goals simp only [go_sem, *]
      · refine cb_i (fun c25 => ?_) (fun c25 => ?_)
        · have c26 : 0 ≤ s4 := by have := of_decide_eq_true c25; omega
          have c27 : s4 < 3 := by have := of_decide_eq_true c25; omega
          have c28 : s4.toNat = 2 := by have := of_decide_eq_true c25; omega
          refine rq_i fun c29 => ?_
          refine bnd_i fun o434 ho30 => ?_
          intro h
          simp only [go_sem, *]
          generalize hz32 : iter _ _ _ _ _ = z31
          have hq33 : Q_p_spyref3_Close_l4 a2 s194 s195 s4 x379 a5 (a5.length : Int) s380 a10 a6 a7 a8 a9 o434 z31 := by
            rw [← hz32]
            refine l_p_spyref3_Close_l4 L hL a2 s194 s195 s4 x379 a5 (a5.length : Int) s380 a10 a6 a7 a8 a9 a10 L 0 s399 _ _ _ c29 (rng_0 c29 hL) ?_ ?_ ?_ ?_ ho30
            all_goals simp only [go_sem, *]
          clear hz32 ho30
          obtain ⟨_, st435, rfl, rfl, ⟨k341, k342, k343⟩, ⟨k351, k352, k353⟩, k36⟩ := hq33
          revert h
          intro h
          simp only [go_sem, *]
          subst hK
          refine ih n (s380 + 1) o434 _ _ _ (by simp only [List.length_cons] at hn; omega) hR ?_ ?_ ?_ ?_ h
          all_goals simp only [go_sem, *]
        · intro h; cases h
def Q0_p_spyref3_Close_l6 (a2 : Int) (s194 : Int) (s195 : Int) (s4 : Int) (x440 : Int) (a6 : List Int) (a480 : Int) (s441 : Int) (a8 : List Int) (a5 : List Int) (a7 : List Int) (a9 : List Int) (a10 : List Int) (u : List Int) (z : Out) : Prop := ∃ env st, z = some (.exit 4, env, st) ∧ env = sp 113 0 [(2, .d (.int .i64 a2)), (7, .p (0, 7) (st (0, 7)).ver 0 []), (9, .p (0, 9) (st (0, 9)).ver 0 []), (11, .d (.int .i64 s194)), (12, .d (.int .i64 s195)), (13, .d (.int .i64 s4)), (14, gl 2 (0, 69) (st (0, 69)).ver (rowV (D.int .i64) u)), (45, .d (.int .i64 s4)), (50, .d (.sl 2 (a6.map (D.int .i64)))), (51, .d (.int .i64 a480)), (52, .d (.int .i64 s441))] ∧ Bk (st (0, 7)) 180 [.d (.agg 180 [.sl 2 (a5.map (D.int .i64)), .sl 2 (a6.map (D.int .i64)), .sl 2 (a7.map (D.int .i64))])] ∧ Bk (st (0, 9)) 180 [.d (.agg 180 [.sl 2 (a8.map (D.int .i64)), .sl 2 (a9.map (D.int .i64)), .sl 2 (a10.map (D.int .i64))])] ∧ GlB (st (0, 69)) 2 (rowV (D.int .i64) u)
abbrev Q_p_spyref3_Close_l6 (a2 : Int) (s194 : Int) (s195 : Int) (s4 : Int) (x440 : Int) (a6 : List Int) (a480 : Int) (s441 : Int) (a8 : List Int) (a5 : List Int) (a7 : List Int) (a9 : List Int) (a10 : List Int) (o : List Int) (z : Out) : Prop := Q0_p_spyref3_Close_l6 a2 s194 s195 s4 x440 a6 a480 s441 a8 a5 a7 a9 a10 o z
theorem l_p_spyref3_Close_l6 (L : Nat) (hL : L ≤ 4611686018427387904) (a2 : Int) (s194 : Int) (s195 : Int) (s4 : Int) (x440 : Int) (a6 : List Int) (a480 : Int) (s441 : Int) (a8 : List Int) (a5 : List Int) (a7 : List Int) (a9 : List Int) (a10 : List Int) : ∀ (tl : List Int) (n : Nat) (s481 : Int) (s482 : List Int) (env : List V) (st : Store) (o : List Int), tl.length < n → Rng a8 s481 tl → mask (maskOf en34.ms 4) env = sp 113 0 [(2, .d (.int .i64 a2)), (7, .p (0, 7) (st (0, 7)).ver 0 []), (9, .p (0, 9) (st (0, 9)).ver 0 []), (11, .d (.int .i64 s194)), (12, .d (.int .i64 s195)), (13, .d (.int .i64 s4)), (14, gl 2 (0, 69) (st (0, 69)).ver (rowV (D.int .i64) s482)), (16, .d (.int .i64 x440)), (45, .d (.int .i64 s4)), (50, .d (.sl 2 (a6.map (D.int .i64)))), (51, .d (.int .i64 a480)), (52, .d (.int .i64 s441)), (58, .d (.sl 2 (a8.map (D.int .i64)))), (59, .d (.int .i64 (a8.length : Int))), (60, .d (.int .i64 s481))] → Bk (st (0, 7)) 180 [.d (.agg 180 [.sl 2 (a5.map (D.int .i64)), .sl 2 (a6.map (D.int .i64)), .sl 2 (a7.map (D.int .i64))])] → Bk (st (0, 9)) 180 [.d (.agg 180 [.sl 2 (a8.map (D.int .i64)), .sl 2 (a9.map (D.int .i64)), .sl 2 (a10.map (D.int .i64))])] → GlB (st (0, 69)) 2 (rowV (D.int .i64) s482) → p_spyref3_Close_l6 L x440 tl s482 = some o →
    Q_p_spyref3_Close_l6 a2 s194 s195 s4 x440 a6 a480 s441 a8 a5 a7 a9 a10 o (iter (evC Try.prog (G_spyref3_Close L) (evF Try.prog (G_spyref3_Close L) T_spyref3_Close L 0) L en34.ms 0 4 lb34_4) (maskOf en34.ms 4) n env st) := by
  intro tl
  induction tl with
  | nil =>
    intro n s481 s482 env st o hn hR he hb0 hb1 hb2 h
    obtain ⟨n, rfl⟩ : ∃ m, n = m + 1 := ⟨n - 1, by omega⟩
    obtain ⟨be0, bv0, bl0⟩ := hb0
    obtain ⟨be1, bv1, bl1⟩ := hb1
    have g0 := rng_nil hR
    rw [iter, he]
    clear he
    generalize hK : iter _ _ n = K
    rw [p_spyref3_Close_l6] at h
    revert h
    rintro ⟨⟩
    simp only [go_sem, *]
    refine (⟨_, _, rfl, ?_, ?_, ?_, ?_⟩ : Q0_p_spyref3_Close_l6 _ _ _ _ _ _ _ _ _ _ _ _ _ _ _)
    all_goals simp only [go_sem, *]
  | cons x479 tl ih =>
    intro n s481 s482 env st o hn hR he hb0 hb1 hb2 h
    obtain ⟨n, rfl⟩ : ∃ m, n = m + 1 := ⟨n - 1, by omega⟩
    obtain ⟨be0, bv0, bl0⟩ := hb0
    obtain ⟨be1, bv1, bl1⟩ := hb1
    replace ih : Hold _ := ih
    replace hR := rng_s hR
    obtain ⟨g0, g1, g2, g3, hR⟩ := hR
    rw [iter, he]
    clear he
    generalize hK : iter _ _ n = K
    rw [p_spyref3_Close_l6] at h
    revert h
    refine rq_i fun c1 => ?_
    refine rq_i fun c2 => ?_
    intro h
    simp only [go_sem, *]
    subst hK
    refine ih n (s481 + 1) (s482 ++ [(i64.wrap (x440 * x479))]) _ _ _ (by simp only [List.length_cons] at hn; omega) hR ?_ ?_ ?_ ?_ h
    all_goals simp only [go_sem, *]
def Q0_p_spyref3_Close_l7 (a2 : Int) (s194 : Int) (s195 : Int) (s4 : Int) (x440 : Int) (a6 : List Int) (a486 : Int) (s441 : Int) (a9 : List Int) (a5 : List Int) (a7 : List Int) (a8 : List Int) (a10 : List Int) (u : List Int) (z : Out) : Prop := ∃ env st, z = some (.exit 4, env, st) ∧ env = sp 113 0 [(2, .d (.int .i64 a2)), (7, .p (0, 7) (st (0, 7)).ver 0 []), (9, .p (0, 9) (st (0, 9)).ver 0 []), (11, .d (.int .i64 s194)), (12, .d (.int .i64 s195)), (13, .d (.int .i64 s4)), (14, gl 2 (0, 69) (st (0, 69)).ver (rowV (D.int .i64) u)), (45, .d (.int .i64 s4)), (50, .d (.sl 2 (a6.map (D.int .i64)))), (51, .d (.int .i64 a486)), (52, .d (.int .i64 s441))] ∧ Bk (st (0, 7)) 180 [.d (.agg 180 [.sl 2 (a5.map (D.int .i64)), .sl 2 (a6.map (D.int .i64)), .sl 2 (a7.map (D.int .i64))])] ∧ Bk (st (0, 9)) 180 [.d (.agg 180 [.sl 2 (a8.map (D.int .i64)), .sl 2 (a9.map (D.int .i64)), .sl 2 (a10.map (D.int .i64))])] ∧ GlB (st (0, 69)) 2 (rowV (D.int .i64) u)
abbrev Q_p_spyref3_Close_l7 (a2 : Int) (s194 : Int) (s195 : Int) (s4 : Int) (x440 : Int) (a6 : List Int) (a486 : Int) (s441 : Int) (a9 : List Int) (a5 : List Int) (a7 : List Int) (a8 : List Int) (a10 : List Int) (o : List Int) (z : Out) : Prop := Q0_p_spyref3_Close_l7 a2 s194 s195 s4 x440 a6 a486 s441 a9 a5 a7 a8 a10 o z
theorem l_p_spyref3_Close_l7 (L : Nat) (hL : L ≤ 4611686018427387904) (a2 : Int) (s194 : Int) (s195 : Int) (s4 : Int) (x440 : Int) (a6 : List Int) (a486 : Int) (s441 : Int) (a9 : List Int) (a5 : List Int) (a7 : List Int) (a8 : List Int) (a10 : List Int) : ∀ (tl : List Int) (n : Nat) (s487 : Int) (s488 : List Int) (env : List V) (st : Store) (o : List Int), tl.length < n → Rng a9 s487 tl → mask (maskOf en34.ms 4) env = sp 113 0 [(2, .d (.int .i64 a2)), (7, .p (0, 7) (st (0, 7)).ver 0 []), (9, .p (0, 9) (st (0, 9)).ver 0 []), (11, .d (.int .i64 s194)), (12, .d (.int .i64 s195)), (13, .d (.int .i64 s4)), (14, gl 2 (0, 69) (st (0, 69)).ver (rowV (D.int .i64) s488)), (16, .d (.int .i64 x440)), (45, .d (.int .i64 s4)), (50, .d (.sl 2 (a6.map (D.int .i64)))), (51, .d (.int .i64 a486)), (52, .d (.int .i64 s441)), (58, .d (.sl 2 (a9.map (D.int .i64)))), (59, .d (.int .i64 (a9.length : Int))), (60, .d (.int .i64 s487))] → Bk (st (0, 7)) 180 [.d (.agg 180 [.sl 2 (a5.map (D.int .i64)), .sl 2 (a6.map (D.int .i64)), .sl 2 (a7.map (D.int .i64))])] → Bk (st (0, 9)) 180 [.d (.agg 180 [.sl 2 (a8.map (D.int .i64)), .sl 2 (a9.map (D.int .i64)), .sl 2 (a10.map (D.int .i64))])] → GlB (st (0, 69)) 2 (rowV (D.int .i64) s488) → p_spyref3_Close_l7 L x440 tl s488 = some o →
    Q_p_spyref3_Close_l7 a2 s194 s195 s4 x440 a6 a486 s441 a9 a5 a7 a8 a10 o (iter (evC Try.prog (G_spyref3_Close L) (evF Try.prog (G_spyref3_Close L) T_spyref3_Close L 0) L en34.ms 0 4 lb34_4) (maskOf en34.ms 4) n env st) := by
  intro tl
  induction tl with
  | nil =>
    intro n s487 s488 env st o hn hR he hb0 hb1 hb2 h
    obtain ⟨n, rfl⟩ : ∃ m, n = m + 1 := ⟨n - 1, by omega⟩
    obtain ⟨be0, bv0, bl0⟩ := hb0
    obtain ⟨be1, bv1, bl1⟩ := hb1
    have g0 := rng_nil hR
    rw [iter, he]
    clear he
    generalize hK : iter _ _ n = K
    rw [p_spyref3_Close_l7] at h
    revert h
    rintro ⟨⟩
    simp only [go_sem, *]
    refine (⟨_, _, rfl, ?_, ?_, ?_, ?_⟩ : Q0_p_spyref3_Close_l7 _ _ _ _ _ _ _ _ _ _ _ _ _ _ _)
    all_goals simp only [go_sem, *]
  | cons x485 tl ih =>
    intro n s487 s488 env st o hn hR he hb0 hb1 hb2 h
    obtain ⟨n, rfl⟩ : ∃ m, n = m + 1 := ⟨n - 1, by omega⟩
    obtain ⟨be0, bv0, bl0⟩ := hb0
    obtain ⟨be1, bv1, bl1⟩ := hb1
    replace ih : Hold _ := ih
    replace hR := rng_s hR
    obtain ⟨g0, g1, g2, g3, hR⟩ := hR
    rw [iter, he]
    clear he
    generalize hK : iter _ _ n = K
    rw [p_spyref3_Close_l7] at h
    revert h
    refine rq_i fun c1 => ?_
    refine rq_i fun c2 => ?_
    intro h
    simp only [go_sem, *]
    subst hK
    refine ih n (s487 + 1) (s488 ++ [(i64.wrap (x440 * x485))]) _ _ _ (by simp only [List.length_cons] at hn; omega) hR ?_ ?_ ?_ ?_ h
    all_goals simp only [go_sem, *]
def Q0_p_spyref3_Close_l8 (a2 : Int) (s194 : Int) (s195 : Int) (s4 : Int) (x440 : Int) (a6 : List Int) (a492 : Int) (s441 : Int) (a10 : List Int) (a5 : List Int) (a7 : List Int) (a8 : List Int) (a9 : List Int) (u : List Int) (z : Out) : Prop := ∃ env st, z = some (.exit 4, env, st) ∧ env = sp 113 0 [(2, .d (.int .i64 a2)), (7, .p (0, 7) (st (0, 7)).ver 0 []), (9, .p (0, 9) (st (0, 9)).ver 0 []), (11, .d (.int .i64 s194)), (12, .d (.int .i64 s195)), (13, .d (.int .i64 s4)), (14, gl 2 (0, 69) (st (0, 69)).ver (rowV (D.int .i64) u)), (45, .d (.int .i64 s4)), (50, .d (.sl 2 (a6.map (D.int .i64)))), (51, .d (.int .i64 a492)), (52, .d (.int .i64 s441))] ∧ Bk (st (0, 7)) 180 [.d (.agg 180 [.sl 2 (a5.map (D.int .i64)), .sl 2 (a6.map (D.int .i64)), .sl 2 (a7.map (D.int .i64))])] ∧ Bk (st (0, 9)) 180 [.d (.agg 180 [.sl 2 (a8.map (D.int .i64)), .sl 2 (a9.map (D.int .i64)), .sl 2 (a10.map (D.int .i64))])] ∧ GlB (st (0, 69)) 2 (rowV (D.int .i64) u)
abbrev Q_p_spyref3_Close_l8 (a2 : Int) (s194 : Int) (s195 : Int) (s4 : Int) (x440 : Int) (a6 : List Int) (a492 : Int) (s441 : Int) (a10 : List Int) (a5 : List Int) (a7 : List Int) (a8 : List Int) (a9 : List Int) (o : List Int) (z : Out) : Prop := Q0_p_spyref3_Close_l8 a2 s194 s195 s4 x440 a6 a492 s441 a10 a5 a7 a8 a9 o z
theorem l_p_spyref3_Close_l8 (L : Nat) (hL : L ≤ 4611686018427387904) (a2 : Int) (s194 : Int) (s195 : Int) (s4 : Int) (x440 : Int) (a6 : List Int) (a492 : Int) (s441 : Int) (a10 : List Int) (a5 : List Int) (a7 : List Int) (a8 : List Int) (a9 : List Int) : ∀ (tl : List Int) (n : Nat) (s493 : Int) (s494 : List Int) (env : List V) (st : Store) (o : List Int), tl.length < n → Rng a10 s493 tl → mask (maskOf en34.ms 4) env = sp 113 0 [(2, .d (.int .i64 a2)), (7, .p (0, 7) (st (0, 7)).ver 0 []), (9, .p (0, 9) (st (0, 9)).ver 0 []), (11, .d (.int .i64 s194)), (12, .d (.int .i64 s195)), (13, .d (.int .i64 s4)), (14, gl 2 (0, 69) (st (0, 69)).ver (rowV (D.int .i64) s494)), (16, .d (.int .i64 x440)), (45, .d (.int .i64 s4)), (50, .d (.sl 2 (a6.map (D.int .i64)))), (51, .d (.int .i64 a492)), (52, .d (.int .i64 s441)), (58, .d (.sl 2 (a10.map (D.int .i64)))), (59, .d (.int .i64 (a10.length : Int))), (60, .d (.int .i64 s493))] → Bk (st (0, 7)) 180 [.d (.agg 180 [.sl 2 (a5.map (D.int .i64)), .sl 2 (a6.map (D.int .i64)), .sl 2 (a7.map (D.int .i64))])] → Bk (st (0, 9)) 180 [.d (.agg 180 [.sl 2 (a8.map (D.int .i64)), .sl 2 (a9.map (D.int .i64)), .sl 2 (a10.map (D.int .i64))])] → GlB (st (0, 69)) 2 (rowV (D.int .i64) s494) → p_spyref3_Close_l8 L x440 tl s494 = some o →
    Q_p_spyref3_Close_l8 a2 s194 s195 s4 x440 a6 a492 s441 a10 a5 a7 a8 a9 o (iter (evC Try.prog (G_spyref3_Close L) (evF Try.prog (G_spyref3_Close L) T_spyref3_Close L 0) L en34.ms 0 4 lb34_4) (maskOf en34.ms 4) n env st) := by
  intro tl
  induction tl with
  | nil =>
    intro n s493 s494 env st o hn hR he hb0 hb1 hb2 h
    obtain ⟨n, rfl⟩ : ∃ m, n = m + 1 := ⟨n - 1, by omega⟩
    obtain ⟨be0, bv0, bl0⟩ := hb0
    obtain ⟨be1, bv1, bl1⟩ := hb1
    have g0 := rng_nil hR
    rw [iter, he]
    clear he
    generalize hK : iter _ _ n = K
    rw [p_spyref3_Close_l8] at h
    revert h
    rintro ⟨⟩
    simp only [go_sem, *]
    refine (⟨_, _, rfl, ?_, ?_, ?_, ?_⟩ : Q0_p_spyref3_Close_l8 _ _ _ _ _ _ _ _ _ _ _ _ _ _ _)
    all_goals simp only [go_sem, *]
  | cons x491 tl ih =>
    intro n s493 s494 env st o hn hR he hb0 hb1 hb2 h
    obtain ⟨n, rfl⟩ : ∃ m, n = m + 1 := ⟨n - 1, by omega⟩
    obtain ⟨be0, bv0, bl0⟩ := hb0
    obtain ⟨be1, bv1, bl1⟩ := hb1
    replace ih : Hold _ := ih
    replace hR := rng_s hR
    obtain ⟨g0, g1, g2, g3, hR⟩ := hR
    rw [iter, he]
    clear he
    generalize hK : iter _ _ n = K
    rw [p_spyref3_Close_l8] at h
    revert h
    refine rq_i fun c1 => ?_
    refine rq_i fun c2 => ?_
    intro h
    simp only [go_sem, *]
    subst hK
    refine ih n (s493 + 1) (s494 ++ [(i64.wrap (x440 * x491))]) _ _ _ (by simp only [List.length_cons] at hn; omega) hR ?_ ?_ ?_ ?_ h
    all_goals simp only [go_sem, *]
def Q0_p_spyref3_Close_l5 (a2 : Int) (s194 : Int) (s195 : Int) (s4 : Int) (a6 : List Int) (a5 : List Int) (a7 : List Int) (a8 : List Int) (a9 : List Int) (a10 : List Int) (u : List Int) (z : Out) : Prop := ∃ env st, z = some (.exit 2, env, st) ∧ env = sp 113 0 [(2, .d (.int .i64 a2)), (7, .p (0, 7) (st (0, 7)).ver 0 []), (9, .p (0, 9) (st (0, 9)).ver 0 []), (11, .d (.int .i64 s194)), (12, .d (.int .i64 s195)), (14, gl 2 (0, 69) (st (0, 69)).ver (rowV (D.int .i64) u)), (45, .d (.int .i64 s4))] ∧ Bk (st (0, 7)) 180 [.d (.agg 180 [.sl 2 (a5.map (D.int .i64)), .sl 2 (a6.map (D.int .i64)), .sl 2 (a7.map (D.int .i64))])] ∧ Bk (st (0, 9)) 180 [.d (.agg 180 [.sl 2 (a8.map (D.int .i64)), .sl 2 (a9.map (D.int .i64)), .sl 2 (a10.map (D.int .i64))])] ∧ GlB (st (0, 69)) 2 (rowV (D.int .i64) u)
abbrev Q_p_spyref3_Close_l5 (a2 : Int) (s194 : Int) (s195 : Int) (s4 : Int) (a6 : List Int) (a5 : List Int) (a7 : List Int) (a8 : List Int) (a9 : List Int) (a10 : List Int) (o : List Int) (z : Out) : Prop := Q0_p_spyref3_Close_l5 a2 s194 s195 s4 a6 a5 a7 a8 a9 a10 o z
theorem l_p_spyref3_Close_l5 (L : Nat) (hL : L ≤ 4611686018427387904) (a2 : Int) (s194 : Int) (s195 : Int) (s4 : Int) (a6 : List Int) (a5 : List Int) (a7 : List Int) (a8 : List Int) (a9 : List Int) (a10 : List Int) : ∀ (tl : List Int) (n : Nat) (s441 : Int) (s460 : List Int) (env : List V) (st : Store) (o : List Int), tl.length < n → Rng a6 s441 tl → mask (maskOf en34.ms 2) env = sp 113 0 [(2, .d (.int .i64 a2)), (7, .p (0, 7) (st (0, 7)).ver 0 []), (9, .p (0, 9) (st (0, 9)).ver 0 []), (11, .d (.int .i64 s194)), (12, .d (.int .i64 s195)), (13, .d (.int .i64 s4)), (14, gl 2 (0, 69) (st (0, 69)).ver (rowV (D.int .i64) s460)), (45, .d (.int .i64 s4)), (50, .d (.sl 2 (a6.map (D.int .i64)))), (51, .d (.int .i64 (a6.length : Int))), (52, .d (.int .i64 s441))] → Bk (st (0, 7)) 180 [.d (.agg 180 [.sl 2 (a5.map (D.int .i64)), .sl 2 (a6.map (D.int .i64)), .sl 2 (a7.map (D.int .i64))])] → Bk (st (0, 9)) 180 [.d (.agg 180 [.sl 2 (a8.map (D.int .i64)), .sl 2 (a9.map (D.int .i64)), .sl 2 (a10.map (D.int .i64))])] → GlB (st (0, 69)) 2 (rowV (D.int .i64) s460) → p_spyref3_Close_l5 L s4 a8 a9 a10 tl s460 = some o →
    Q_p_spyref3_Close_l5 a2 s194 s195 s4 a6 a5 a7 a8 a9 a10 o (iter (evC Try.prog (G_spyref3_Close L) (evF Try.prog (G_spyref3_Close L) T_spyref3_Close L 0) L en34.ms 0 2 lb34_2) (maskOf en34.ms 2) n env st) := by
  intro tl
  induction tl with
  | nil =>
    intro n s441 s460 env st o hn hR he hb0 hb1 hb2 h
    obtain ⟨n, rfl⟩ : ∃ m, n = m + 1 := ⟨n - 1, by omega⟩
    obtain ⟨be0, bv0, bl0⟩ := hb0
    obtain ⟨be1, bv1, bl1⟩ := hb1
    have g0 := rng_nil hR
    rw [iter, he]
    clear he
    generalize hK : iter _ _ n = K
    rw [p_spyref3_Close_l5] at h
    revert h
    rintro ⟨⟩
    simp only [go_sem, *]
    refine (⟨_, _, rfl, ?_, ?_, ?_, ?_⟩ : Q0_p_spyref3_Close_l5 _ _ _ _ _ _ _ _ _ _ _ _)
    all_goals simp only [go_sem, *]
  | cons x440 tl ih =>
    intro n s441 s460 env st o hn hR he hb0 hb1 hb2 h
    obtain ⟨n, rfl⟩ : ∃ m, n = m + 1 := ⟨n - 1, by omega⟩
    obtain ⟨be0, bv0, bl0⟩ := hb0
    obtain ⟨be1, bv1, bl1⟩ := hb1
    replace ih : Hold _ := ih
    replace hR := rng_s hR
    obtain ⟨g0, g1, g2, g3, hR⟩ := hR
    rw [iter, he]
    clear he
    generalize hK : iter _ _ n = K
    rw [p_spyref3_Close_l5] at h
    revert h
    refine cb_i (fun c1 => ?_) (fun c1 => ?_)
    · have c2 : 0 ≤ s4 := by have := of_decide_eq_true c1; omega
      have c3 : s4 < 3 := by have := of_decide_eq_true c1; omega
      have c4 : s4.toNat = 0 := by have := of_decide_eq_true c1; omega
      refine rq_i fun c5 => ?_
      refine bnd_i fun o483 ho6 => ?_
      intro h
      simp only [go_sem, *]
      generalize hz8 : iter _ _ _ _ _ = z7
      have hq9 : Q_p_spyref3_Close_l6 a2 s194 s195 s4 x440 a6 (a6.length : Int) s441 a8 a5 a7 a9 a10 o483 z7 := by
        rw [← hz8]
        refine l_p_spyref3_Close_l6 L hL a2 s194 s195 s4 x440 a6 (a6.length : Int) s441 a8 a5 a7 a9 a10 a8 L 0 s460 _ _ _ c5 (rng_0 c5 hL) ?_ ?_ ?_ ?_ ho6
        all_goals simp only [go_sem, *]
      clear hz8 ho6
      obtain ⟨_, st484, rfl, rfl, ⟨k101, k102, k103⟩, ⟨k111, k112, k113⟩, k12⟩ := hq9
      revert h
      intro h
      simp only [go_sem, *]
      subst hK
      refine ih n (s441 + 1) o483 _ _ _ (by simp only [List.length_cons] at hn; omega) hR ?_ ?_ ?_ ?_ h
      all_goals simp only [go_sem, *]
    · refine cb_i (fun c13 => ?_) (fun c13 => ?_)
      · have c14 : 0 ≤ s4 := by have := of_decide_eq_true c13; omega
        have c15 : s4 < 3 := by have := of_decide_eq_true c13; omega
        have c16 : s4.toNat = 1 := by have := of_decide_eq_true c13; omega
        refine rq_i fun c17 => ?_
        refine bnd_i fun o489 ho18 => ?_
        intro h
        simp only [go_sem, *]
        generalize hz20 : iter _ _ _ _ _ = z19
        have hq21 : Q_p_spyref3_Close_l7 a2 s194 s195 s4 x440 a6 (a6.length : Int) s441 a9 a5 a7 a8 a10 o489 z19 := by
          rw [← hz20]
          refine l_p_spyref3_Close_l7 L hL a2 s194 s195 s4 x440 a6 (a6.length : Int) s441 a9 a5 a7 a8 a10 a9 L 0 s460 _ _ _ c17 (rng_0 c17 hL) ?_ ?_ ?_ ?_ ho18
          all_goals simp only [go_sem, *]
        clear hz20 ho18
        obtain ⟨_, st490, rfl, rfl, ⟨k221, k222, k223⟩, ⟨k231, k232, k233⟩, k24⟩ := hq21
        revert h
        intro h
        simp only [go_sem, *]
        subst hK
        refine ih n (s441 + 1) o489 _ _ _ (by simp only [List.length_cons] at hn; omega) hR ?_ ?_ ?_ ?_ h
        all_goals simp only [go_sem, *]
      · refine cb_i (fun c25 => ?_) (fun c25 => ?_)
        · have c26 : 0 ≤ s4 := by have := of_decide_eq_true c25; omega
          have c27 : s4 < 3 := by have := of_decide_eq_true c25; omega
          have c28 : s4.toNat = 2 := by have := of_decide_eq_true c25; omega
          refine rq_i fun c29 => ?_
          refine bnd_i fun o495 ho30 => ?_
          intro h
          simp only [go_sem, *]
          generalize hz32 : iter _ _ _ _ _ = z31
          have hq33 : Q_p_spyref3_Close_l8 a2 s194 s195 s4 x440 a6 (a6.length : Int) s441 a10 a5 a7 a8 a9 o495 z31 := by
            rw [← hz32]
            refine l_p_spyref3_Close_l8 L hL a2 s194 s195 s4 x440 a6 (a6.length : Int) s441 a10 a5 a7 a8 a9 a10 L 0 s460 _ _ _ c29 (rng_0 c29 hL) ?_ ?_ ?_ ?_ ho30
            all_goals simp only [go_sem, *]
          clear hz32 ho30
          obtain ⟨_, st496, rfl, rfl, ⟨k341, k342, k343⟩, ⟨k351, k352, k353⟩, k36⟩ := hq33
          revert h
          intro h
          simp only [go_sem, *]
          subst hK
          refine ih n (s441 + 1) o495 _ _ _ (by simp only [List.length_cons] at hn; omega) hR ?_ ?_ ?_ ?_ h
          all_goals simp only [go_sem, *]
        · intro h; cases h
def Q0_p_spyref3_Close_l10 (a2 : Int) (s194 : Int) (s195 : Int) (s4 : Int) (x501 : Int) (a7 : List Int) (a541 : Int) (s502 : Int) (a8 : List Int) (a5 : List Int) (a6 : List Int) (a9 : List Int) (a10 : List Int) (u : List Int) (z : Out) : Prop := ∃ env st, z = some (.exit 4, env, st) ∧ env = sp 113 0 [(2, .d (.int .i64 a2)), (7, .p (0, 7) (st (0, 7)).ver 0 []), (9, .p (0, 9) (st (0, 9)).ver 0 []), (11, .d (.int .i64 s194)), (12, .d (.int .i64 s195)), (13, .d (.int .i64 s4)), (14, gl 2 (0, 69) (st (0, 69)).ver (rowV (D.int .i64) u)), (45, .d (.int .i64 s4)), (50, .d (.sl 2 (a7.map (D.int .i64)))), (51, .d (.int .i64 a541)), (52, .d (.int .i64 s502))] ∧ Bk (st (0, 7)) 180 [.d (.agg 180 [.sl 2 (a5.map (D.int .i64)), .sl 2 (a6.map (D.int .i64)), .sl 2 (a7.map (D.int .i64))])] ∧ Bk (st (0, 9)) 180 [.d (.agg 180 [.sl 2 (a8.map (D.int .i64)), .sl 2 (a9.map (D.int .i64)), .sl 2 (a10.map (D.int .i64))])] ∧ GlB (st (0, 69)) 2 (rowV (D.int .i64) u)
abbrev Q_p_spyref3_Close_l10 (a2 : Int) (s194 : Int) (s195 : Int) (s4 : Int) (x501 : Int) (a7 : List Int) (a541 : Int) (s502 : Int) (a8 : List Int) (a5 : List Int) (a6 : List Int) (a9 : List Int) (a10 : List Int) (o : List Int) (z : Out) : Prop := Q0_p_spyref3_Close_l10 a2 s194 s195 s4 x501 a7 a541 s502 a8 a5 a6 a9 a10 o z
theorem l_p_spyref3_Close_l10 (L : Nat) (hL : L ≤ 4611686018427387904) (a2 : Int) (s194 : Int) (s195 : Int) (s4 : Int) (x501 : Int) (a7 : List Int) (a541 : Int) (s502 : Int) (a8 : List Int) (a5 : List Int) (a6 : List Int) (a9 : List Int) (a10 : List Int) : ∀ (tl : List Int) (n : Nat) (s542 : Int) (s543 : List Int) (env : List V) (st : Store) (o : List Int), tl.length < n → Rng a8 s542 tl → mask (maskOf en34.ms 4) env = sp 113 0 [(2, .d (.int .i64 a2)), (7, .p (0, 7) (st (0, 7)).ver 0 []), (9, .p (0, 9) (st (0, 9)).ver 0 []), (11, .d (.int .i64 s194)), (12, .d (.int .i64 s195)), (13, .d (.int .i64 s4)), (14, gl 2 (0, 69) (st (0, 69)).ver (rowV (D.int .i64) s543)), (16, .d (.int .i64 x501)), (45, .d (.int .i64 s4)), (50, .d (.sl 2 (a7.map (D.int .i64)))), (51, .d (.int .i64 a541)), (52, .d (.int .i64 s502)), (58, .d (.sl 2 (a8.map (D.int .i64)))), (59, .d (.int .i64 (a8.length : Int))), (60, .d (.int .i64 s542))] → Bk (st (0, 7)) 180 [.d (.agg 180 [.sl 2 (a5.map (D.int .i64)), .sl 2 (a6.map (D.int .i64)), .sl 2 (a7.map (D.int .i64))])] → Bk (st (0, 9)) 180 [.d (.agg 180 [.sl 2 (a8.map (D.int .i64)), .sl 2 (a9.map (D.int .i64)), .sl 2 (a10.map (D.int .i64))])] → GlB (st (0, 69)) 2 (rowV (D.int .i64) s543) → p_spyref3_Close_l10 L x501 tl s543 = some o →
    Q_p_spyref3_Close_l10 a2 s194 s195 s4 x501 a7 a541 s502 a8 a5 a6 a9 a10 o (iter (evC Try.prog (G_spyref3_Close L) (evF Try.prog (G_spyref3_Close L) T_spyref3_Close L 0) L en34.ms 0 4 lb34_4) (maskOf en34.ms 4) n env st) := by
  intro tl
  induction tl with
  | nil =>
    intro n s542 s543 env st o hn hR he hb0 hb1 hb2 h
    obtain ⟨n, rfl⟩ : ∃ m, n = m + 1 := ⟨n - 1, by omega⟩
    obtain ⟨be0, bv0, bl0⟩ := hb0
    obtain ⟨be1, bv1, bl1⟩ := hb1
    have g0 := rng_nil hR
    rw [iter, he]
    clear he
    generalize hK : iter _ _ n = K
    rw [p_spyref3_Close_l10] at h
    revert h
    rintro ⟨⟩
    simp only [go_sem, *]
    refine (⟨_, _, rfl, ?_, ?_, ?_, ?_⟩ : Q0_p_spyref3_Close_l10 _ _ _ _ _ _ _ _ _ _ _ _ _ _ _)
    all_goals simp only [go_sem, *]
  | cons x540 tl ih =>
    intro n s542 s543 env st o hn hR he hb0 hb1 hb2 h
    obtain ⟨n, rfl⟩ : ∃ m, n = m + 1 := ⟨n - 1, by omega⟩
    obtain ⟨be0, bv0, bl0⟩ := hb0
    obtain ⟨be1, bv1, bl1⟩ := hb1
    replace ih : Hold _ := ih
    replace hR := rng_s hR
    obtain ⟨g0, g1, g2, g3, hR⟩ := hR
    rw [iter, he]
    clear he
    generalize hK : iter _ _ n = K
    rw [p_spyref3_Close_l10] at h
    revert h
    refine rq_i fun c1 => ?_
    refine rq_i fun c2 => ?_
    intro h
    simp only [go_sem, *]
    subst hK
    refine ih n (s542 + 1) (s543 ++ [(i64.wrap (x501 * x540))]) _ _ _ (by simp only [List.length_cons] at hn; omega) hR ?_ ?_ ?_ ?_ h
    all_goals simp only [go_sem, *]
def Q0_p_spyref3_Close_l11 (a2 : Int) (s194 : Int) (s195 : Int) (s4 : Int) (x501 : Int) (a7 : List Int) (a547 : Int) (s502 : Int) (a9 : List Int) (a5 : List Int) (a6 : List Int) (a8 : List Int) (a10 : List Int) (u : List Int) (z : Out) : Prop := ∃ env st, z = some (.exit 4, env, st) ∧ env = sp 113 0 [(2, .d (.int .i64 a2)), (7, .p (0, 7) (st (0, 7)).ver 0 []), (9, .p (0, 9) (st (0, 9)).ver 0 []), (11, .d (.int .i64 s194)), (12, .d (.int .i64 s195)), (13, .d (.int .i64 s4)), (14, gl 2 (0, 69) (st (0, 69)).ver (rowV (D.int .i64) u)), (45, .d (.int .i64 s4)), (50, .d (.sl 2 (a7.map (D.int .i64)))), (51, .d (.int .i64 a547)), (52, .d (.int .i64 s502))] ∧ Bk (st (0, 7)) 180 [.d (.agg 180 [.sl 2 (a5.map (D.int .i64)), .sl 2 (a6.map (D.int .i64)), .sl 2 (a7.map (D.int .i64))])] ∧ Bk (st (0, 9)) 180 [.d (.agg 180 [.sl 2 (a8.map (D.int .i64)), .sl 2 (a9.map (D.int .i64)), .sl 2 (a10.map (D.int .i64))])] ∧ GlB (st (0, 69)) 2 (rowV (D.int .i64) u)
abbrev Q_p_spyref3_Close_l11 (a2 : Int) (s194 : Int) (s195 : Int) (s4 : Int) (x501 : Int) (a7 : List Int) (a547 : Int) (s502 : Int) (a9 : List Int) (a5 : List Int) (a6 : List Int) (a8 : List Int) (a10 : List Int) (o : List Int) (z : Out) : Prop := Q0_p_spyref3_Close_l11 a2 s194 s195 s4 x501 a7 a547 s502 a9 a5 a6 a8 a10 o z
theorem l_p_spyref3_Close_l11 (L : Nat) (hL : L ≤ 4611686018427387904) (a2 : Int) (s194 : Int) (s195 : Int) (s4 : Int) (x501 : Int) (a7 : List Int) (a547 : Int) (s502 : Int) (a9 : List Int) (a5 : List Int) (a6 : List Int) (a8 : List Int) (a10 : List Int) : ∀ (tl : List Int) (n : Nat) (s548 : Int) (s549 : List Int) (env : List V) (st : Store) (o : List Int), tl.length < n → Rng a9 s548 tl → mask (maskOf en34.ms 4) env = sp 113 0 [(2, .d (.int .i64 a2)), (7, .p (0, 7) (st (0, 7)).ver 0 []), (9, .p (0, 9) (st (0, 9)).ver 0 []), (11, .d (.int .i64 s194)), (12, .d (.int .i64 s195)), (13, .d (.int .i64 s4)), (14, gl 2 (0, 69) (st (0, 69)).ver (rowV (D.int .i64) s549)), (16, .d (.int .i64 x501)), (45, .d (.int .i64 s4)), (50, .d (.sl 2 (a7.map (D.int .i64)))), (51, .d (.int .i64 a547)), (52, .d (.int .i64 s502)), (58, .d (.sl 2 (a9.map (D.int .i64)))), (59, .d (.int .i64 (a9.length : Int))), (60, .d (.int .i64 s548))] → Bk (st (0, 7)) 180 [.d (.agg 180 [.sl 2 (a5.map (D.int .i64)), .sl 2 (a6.map (D.int .i64)), .sl 2 (a7.map (D.int .i64))])] → Bk (st (0, 9)) 180 [.d (.agg 180 [.sl 2 (a8.map (D.int .i64)), .sl 2 (a9.map (D.int .i64)), .sl 2 (a10.map (D.int .i64))])] → GlB (st (0, 69)) 2 (rowV (D.int .i64) s549) → p_spyref3_Close_l11 L x501 tl s549 = some o →
    Q_p_spyref3_Close_l11 a2 s194 s195 s4 x501 a7 a547 s502 a9 a5 a6 a8 a10 o (iter (evC Try.prog (G_spyref3_Close L) (evF Try.prog (G_spyref3_Close L) T_spyref3_Close L 0) L en34.ms 0 4 lb34_4) (maskOf en34.ms 4) n env st) := by
  intro tl
  induction tl with
  | nil =>
    intro n s548 s549 env st o hn hR he hb0 hb1 hb2 h
    obtain ⟨n, rfl⟩ : ∃ m, n = m + 1 := ⟨n - 1, by omega⟩
    obtain ⟨be0, bv0, bl0⟩ := hb0
    obtain ⟨be1, bv1, bl1⟩ := hb1
    have g0 := rng_nil hR
    rw [iter, he]
    clear he
    generalize hK : iter _ _ n = K
    rw [p_spyref3_Close_l11] at h
    revert h
    rintro ⟨⟩
    simp only [go_sem, *]
    refine (⟨_, _, rfl, ?_, ?_, ?_, ?_⟩ : Q0_p_spyref3_Close_l11 _ _ _ _ _ _ _ _ _ _ _ _ _ _ _)
    all_goals simp only [go_sem, *]
  | cons x546 tl ih =>
    intro n s548 s549 env st o hn hR he hb0 hb1 hb2 h
    obtain ⟨n, rfl⟩ : ∃ m, n = m + 1 := ⟨n - 1, by omega⟩
    obtain ⟨be0, bv0, bl0⟩ := hb0
    obtain ⟨be1, bv1, bl1⟩ := hb1
    replace ih : Hold _ := ih
    replace hR := rng_s hR
    obtain ⟨g0, g1, g2, g3, hR⟩ := hR
    rw [iter, he]
    clear he
    generalize hK : iter _ _ n = K
    rw [p_spyref3_Close_l11] at h
    revert h
    refine rq_i fun c1 => ?_
    refine rq_i fun c2 => ?_
    intro h
    simp only [go_sem, *]
    subst hK
    refine ih n (s548 + 1) (s549 ++ [(i64.wrap (x501 * x546))]) _ _ _ (by simp only [List.length_cons] at hn; omega) hR ?_ ?_ ?_ ?_ h
    all_goals simp only [go_sem, *]
def Q0_p_spyref3_Close_l12 (a2 : Int) (s194 : Int) (s195 : Int) (s4 : Int) (x501 : Int) (a7 : List Int) (a553 : Int) (s502 : Int) (a10 : List Int) (a5 : List Int) (a6 : List Int) (a8 : List Int) (a9 : List Int) (u : List Int) (z : Out) : Prop := ∃ env st, z = some (.exit 4, env, st) ∧ env = sp 113 0 [(2, .d (.int .i64 a2)), (7, .p (0, 7) (st (0, 7)).ver 0 []), (9, .p (0, 9) (st (0, 9)).ver 0 []), (11, .d (.int .i64 s194)), (12, .d (.int .i64 s195)), (13, .d (.int .i64 s4)), (14, gl 2 (0, 69) (st (0, 69)).ver (rowV (D.int .i64) u)), (45, .d (.int .i64 s4)), (50, .d (.sl 2 (a7.map (D.int .i64)))), (51, .d (.int .i64 a553)), (52, .d (.int .i64 s502))] ∧ Bk (st (0, 7)) 180 [.d (.agg 180 [.sl 2 (a5.map (D.int .i64)), .sl 2 (a6.map (D.int .i64)), .sl 2 (a7.map (D.int .i64))])] ∧ Bk (st (0, 9)) 180 [.d (.agg 180 [.sl 2 (a8.map (D.int .i64)), .sl 2 (a9.map (D.int .i64)), .sl 2 (a10.map (D.int .i64))])] ∧ GlB (st (0, 69)) 2 (rowV (D.int .i64) u)
abbrev Q_p_spyref3_Close_l12 (a2 : Int) (s194 : Int) (s195 : Int) (s4 : Int) (x501 : Int) (a7 : List Int) (a553 : Int) (s502 : Int) (a10 : List Int) (a5 : List Int) (a6 : List Int) (a8 : List Int) (a9 : List Int) (o : List Int) (z : Out) : Prop := Q0_p_spyref3_Close_l12 a2 s194 s195 s4 x501 a7 a553 s502 a10 a5 a6 a8 a9 o z
theorem l_p_spyref3_Close_l12 (L : Nat) (hL : L ≤ 4611686018427387904) (a2 : Int) (s194 : Int) (s195 : Int) (s4 : Int) (x501 : Int) (a7 : List Int) (a553 : Int) (s502 : Int) (a10 : List Int) (a5 : List Int) (a6 : List Int) (a8 : List Int) (a9 : List Int) : ∀ (tl : List Int) (n : Nat) (s554 : Int) (s555 : List Int) (env : List V) (st : Store) (o : List Int), tl.length < n → Rng a10 s554 tl → mask (maskOf en34.ms 4) env = sp 113 0 [(2, .d (.int .i64 a2)), (7, .p (0, 7) (st (0, 7)).ver 0 []), (9, .p (0, 9) (st (0, 9)).ver 0 []), (11, .d (.int .i64 s194)), (12, .d (.int .i64 s195)), (13, .d (.int .i64 s4)), (14, gl 2 (0, 69) (st (0, 69)).ver (rowV (D.int .i64) s555)), (16, .d (.int .i64 x501)), (45, .d (.int .i64 s4)), (50, .d (.sl 2 (a7.map (D.int .i64)))), (51, .d (.int .i64 a553)), (52, .d (.int .i64 s502)), (58, .d (.sl 2 (a10.map (D.int .i64)))), (59, .d (.int .i64 (a10.length : Int))), (60, .d (.int .i64 s554))] → Bk (st (0, 7)) 180 [.d (.agg 180 [.sl 2 (a5.map (D.int .i64)), .sl 2 (a6.map (D.int .i64)), .sl 2 (a7.map (D.int .i64))])] → Bk (st (0, 9)) 180 [.d (.agg 180 [.sl 2 (a8.map (D.int .i64)), .sl 2 (a9.map (D.int .i64)), .sl 2 (a10.map (D.int .i64))])] → GlB (st (0, 69)) 2 (rowV (D.int .i64) s555) → p_spyref3_Close_l12 L x501 tl s555 = some o →
    Q_p_spyref3_Close_l12 a2 s194 s195 s4 x501 a7 a553 s502 a10 a5 a6 a8 a9 o (iter (evC Try.prog (G_spyref3_Close L) (evF Try.prog (G_spyref3_Close L) T_spyref3_Close L 0) L en34.ms 0 4 lb34_4) (maskOf en34.ms 4) n env st) := by
  intro tl
  induction tl with
  | nil =>
    intro n s554 s555 env st o hn hR he hb0 hb1 hb2 h
    obtain ⟨n, rfl⟩ : ∃ m, n = m + 1 := ⟨n - 1, by omega⟩
    obtain ⟨be0, bv0, bl0⟩ := hb0
    obtain ⟨be1, bv1, bl1⟩ := hb1
    have g0 := rng_nil hR
    rw [iter, he]
    clear he
    generalize hK : iter _ _ n = K
    rw [p_spyref3_Close_l12] at h
    revert h
    rintro ⟨⟩
    simp only [go_sem, *]
    refine (⟨_, _, rfl, ?_, ?_, ?_, ?_⟩ : Q0_p_spyref3_Close_l12 _ _ _ _ _ _ _ _ _ _ _ _ _ _ _)
    all_goals simp only [go_sem, *]
  | cons x552 tl ih =>
    intro n s554 s555 env st o hn hR he hb0 hb1 hb2 h
    obtain ⟨n, rfl⟩ : ∃ m, n = m + 1 := ⟨n - 1, by omega⟩
    obtain ⟨be0, bv0, bl0⟩ := hb0
    obtain ⟨be1, bv1, bl1⟩ := hb1
    replace ih : Hold _ := ih
    replace hR := rng_s hR
    obtain ⟨g0, g1, g2, g3, hR⟩ := hR
    rw [iter, he]
    clear he
    generalize hK : iter _ _ n = K
    rw [p_spyref3_Close_l12] at h
    revert h
    refine rq_i fun c1 => ?_
    refine rq_i fun c2 => ?_
    intro h
    simp only [go_sem, *]
    subst hK
    refine ih n (s554 + 1) (s555 ++ [(i64.wrap (x501 * x552))]) _ _ _ (by simp only [List.length_cons] at hn; omega) hR ?_ ?_ ?_ ?_ h
    all_goals simp only [go_sem, *]
def Q0_p_spyref3_Close_l9 (a2 : Int) (s194 : Int) (s195 : Int) (s4 : Int) (a7 : List Int) (a5 : List Int) (a6 : List Int) (a8 : List Int) (a9 : List Int) (a10 : List Int) (u : List Int) (z : Out) : Prop := ∃ env st, z = some (.exit 2, env, st) ∧ env = sp 113 0 [(2, .d (.int .i64 a2)), (7, .p (0, 7) (st (0, 7)).ver 0 []), (9, .p (0, 9) (st (0, 9)).ver 0 []), (11, .d (.int .i64 s194)), (12, .d (.int .i64 s195)), (14, gl 2 (0, 69) (st (0, 69)).ver (rowV (D.int .i64) u)), (45, .d (.int .i64 s4))] ∧ Bk (st (0, 7)) 180 [.d (.agg 180 [.sl 2 (a5.map (D.int .i64)), .sl 2 (a6.map (D.int .i64)), .sl 2 (a7.map (D.int .i64))])] ∧ Bk (st (0, 9)) 180 [.d (.agg 180 [.sl 2 (a8.map (D.int .i64)), .sl 2 (a9.map (D.int .i64)), .sl 2 (a10.map (D.int .i64))])] ∧ GlB (st (0, 69)) 2 (rowV (D.int .i64) u)
abbrev Q_p_spyref3_Close_l9 (a2 : Int) (s194 : Int) (s195 : Int) (s4 : Int) (a7 : List Int) (a5 : List Int) (a6 : List Int) (a8 : List Int) (a9 : List Int) (a10 : List Int) (o : List Int) (z : Out) : Prop := Q0_p_spyref3_Close_l9 a2 s194 s195 s4 a7 a5 a6 a8 a9 a10 o z
theorem l_p_spyref3_Close_l9 (L : Nat) (hL : L ≤ 4611686018427387904) (a2 : Int) (s194 : Int) (s195 : Int) (s4 : Int) (a7 : List Int) (a5 : List Int) (a6 : List Int) (a8 : List Int) (a9 : List Int) (a10 : List Int) : ∀ (tl : List Int) (n : Nat) (s502 : Int) (s521 : List Int) (env : List V) (st : Store) (o : List Int), tl.length < n → Rng a7 s502 tl → mask (maskOf en34.ms 2) env = sp 113 0 [(2, .d (.int .i64 a2)), (7, .p (0, 7) (st (0, 7)).ver 0 []), (9, .p (0, 9) (st (0, 9)).ver 0 []), (11, .d (.int .i64 s194)), (12, .d (.int .i64 s195)), (13, .d (.int .i64 s4)), (14, gl 2 (0, 69) (st (0, 69)).ver (rowV (D.int .i64) s521)), (45, .d (.int .i64 s4)), (50, .d (.sl 2 (a7.map (D.int .i64)))), (51, .d (.int .i64 (a7.length : Int))), (52, .d (.int .i64 s502))] → Bk (st (0, 7)) 180 [.d (.agg 180 [.sl 2 (a5.map (D.int .i64)), .sl 2 (a6.map (D.int .i64)), .sl 2 (a7.map (D.int .i64))])] → Bk (st (0, 9)) 180 [.d (.agg 180 [.sl 2 (a8.map (D.int .i64)), .sl 2 (a9.map (D.int .i64)), .sl 2 (a10.map (D.int .i64))])] → GlB (st (0, 69)) 2 (rowV (D.int .i64) s521) → p_spyref3_Close_l9 L s4 a8 a9 a10 tl s521 = some o →
    Q_p_spyref3_Close_l9 a2 s194 s195 s4 a7 a5 a6 a8 a9 a10 o (iter (evC Try.prog (G_spyref3_Close L) (evF Try.prog (G_spyref3_Close L) T_spyref3_Close L 0) L en34.ms 0 2 lb34_2) (maskOf en34.ms 2) n env st) := by
  intro tl
  induction tl with
  | nil =>
    intro n s502 s521 env st o hn hR he hb0 hb1 hb2 h
    obtain ⟨n, rfl⟩ : ∃ m, n = m + 1 := ⟨n - 1, by omega⟩
    obtain ⟨be0, bv0, bl0⟩ := hb0
    obtain ⟨be1, bv1, bl1⟩ := hb1
    have g0 := rng_nil hR
    rw [iter, he]
    clear he
    generalize hK : iter _ _ n = K
    rw [p_spyref3_Close_l9] at h
    revert h
    rintro ⟨⟩
    simp only [go_sem, *]
    refine (⟨_, _, rfl, ?_, ?_, ?_, ?_⟩ : Q0_p_spyref3_Close_l9 _ _ _ _ _ _ _ _ _ _ _ _)
    all_goals simp only [go_sem, *]
  | cons x501 tl ih =>
    intro n s502 s521 env st o hn hR he hb0 hb1 hb2 h
    obtain ⟨n, rfl⟩ : ∃ m, n = m + 1 := ⟨n - 1, by omega⟩
    obtain ⟨be0, bv0, bl0⟩ := hb0
    obtain ⟨be1, bv1, bl1⟩ := hb1
    replace ih : Hold _ := ih
    replace hR := rng_s hR
    obtain ⟨g0, g1, g2, g3, hR⟩ := hR
    rw [iter, he]
    clear he
    generalize hK : iter _ _ n = K
    rw [p_spyref3_Close_l9] at h
    revert h
    refine cb_i (fun c1 => ?_) (fun c1 => ?_)
    · have c2 : 0 ≤ s4 := by have := of_decide_eq_true c1; omega
      have c3 : s4 < 3 := by have := of_decide_eq_true c1; omega
      have c4 : s4.toNat = 0 := by have := of_decide_eq_true c1; omega
      refine rq_i fun c5 => ?_
      refine bnd_i fun o544 ho6 => ?_
      intro h
      simp only [go_sem, *]
      generalize hz8 : iter _ _ _ _ _ = z7
      have hq9 : Q_p_spyref3_Close_l10 a2 s194 s195 s4 x501 a7 (a7.length : Int) s502 a8 a5 a6 a9 a10 o544 z7 := by
        rw [← hz8]
        refine l_p_spyref3_Close_l10 L hL a2 s194 s195 s4 x501 a7 (a7.length : Int) s502 a8 a5 a6 a9 a10 a8 L 0 s521 _ _ _ c5 (rng_0 c5 hL) ?_ ?_ ?_ ?_ ho6
        all_goals simp only [go_sem, *]
      clear hz8 ho6
      obtain ⟨_, st545, rfl, rfl, ⟨k101, k102, k103⟩, ⟨k111, k112, k113⟩, k12⟩ := hq9
      revert h
      intro h
      simp only [go_sem, *]
      subst hK
      refine ih n (s502 + 1) o544 _ _ _ (by simp only [List.length_cons] at hn; omega) hR ?_ ?_ ?_ ?_ h
      all_goals simp only [go_sem, *]
    · refine cb_i (fun c13 => ?_) (fun c13 => ?_)
      · have c14 : 0 ≤ s4 := by have := of_decide_eq_true c13; omega
        have c15 : s4 < 3 := by have := of_decide_eq_true c13; omega
        have c16 : s4.toNat = 1 := by have := of_decide_eq_true c13; omega
        refine rq_i fun c17 => ?_
        refine bnd_i fun o550 ho18 => ?_
        intro h
        simp only [go_sem, *]
        generalize hz20 : iter _ _ _ _ _ = z19
        have hq21 : Q_p_spyref3_Close_l11 a2 s194 s195 s4 x501 a7 (a7.length : Int) s502 a9 a5 a6 a8 a10 o550 z19 := by
          rw [← hz20]
          refine l_p_spyref3_Close_l11 L hL a2 s194 s195 s4 x501 a7 (a7.length : Int) s502 a9 a5 a6 a8 a10 a9 L 0 s521 _ _ _ c17 (rng_0 c17 hL) ?_ ?_ ?_ ?_ ho18
          all_goals simp only [go_sem, *]
        clear hz20 ho18
        obtain ⟨_, st551, rfl, rfl, ⟨k221, k222, k223⟩, ⟨k231, k232, k233⟩, k24⟩ := hq21
        revert h
        intro h
        simp only [go_sem, *]
        subst hK
        refine ih n (s502 + 1) o550 _ _ _ (by simp only [List.length_cons] at hn; omega) hR ?_ ?_ ?_ ?_ h
        all_goals simp only [go_sem, *]
      · refine cb_i (fun c25 => ?_) (fun c25 => ?_)
        · have c26 : 0 ≤ s4 := by have := of_decide_eq_true c25; omega
          have c27 : s4 < 3 := by have := of_decide_eq_true c25; omega
          have c28 : s4.toNat = 2 := by have := of_decide_eq_true c25; omega
          refine rq_i fun c29 => ?_
          refine bnd_i fun o556 ho30 => ?_
          intro h
          simp only [go_sem, *]
          generalize hz32 : iter _ _ _ _ _ = z31
          have hq33 : Q_p_spyref3_Close_l12 a2 s194 s195 s4 x501 a7 (a7.length : Int) s502 a10 a5 a6 a8 a9 o556 z31 := by
            rw [← hz32]
            refine l_p_spyref3_Close_l12 L hL a2 s194 s195 s4 x501 a7 (a7.length : Int) s502 a10 a5 a6 a8 a9 a10 L 0 s521 _ _ _ c29 (rng_0 c29 hL) ?_ ?_ ?_ ?_ ho30
            all_goals simp only [go_sem, *]
          clear hz32 ho30
          obtain ⟨_, st557, rfl, rfl, ⟨k341, k342, k343⟩, ⟨k351, k352, k353⟩, k36⟩ := hq33
          revert h
          intro h
          simp only [go_sem, *]
          subst hK
          refine ih n (s502 + 1) o556 _ _ _ (by simp only [List.length_cons] at hn; omega) hR ?_ ?_ ?_ ?_ h
          all_goals simp only [go_sem, *]
        · intro h; cases h
def Q0_p_spyref3_Close_l0 (a2 : Int) (a5 : List Int) (a6 : List Int) (a7 : List Int) (a8 : List Int) (a9 : List Int) (a10 : List Int) (u : Int × Int) (z : Out) : Prop := ∃ env st, z = some (.exit 0, env, st) ∧ env = sp 113 0 [(2, .d (.int .i64 a2)), (7, .p (0, 7) (st (0, 7)).ver 0 []), (9, .p (0, 9) (st (0, 9)).ver 0 []), (11, .d (.int .i64 u.1)), (12, .d (.int .i64 u.2))] ∧ Bk (st (0, 7)) 180 [.d (.agg 180 [.sl 2 (a5.map (D.int .i64)), .sl 2 (a6.map (D.int .i64)), .sl 2 (a7.map (D.int .i64))])] ∧ Bk (st (0, 9)) 180 [.d (.agg 180 [.sl 2 (a8.map (D.int .i64)), .sl 2 (a9.map (D.int .i64)), .sl 2 (a10.map (D.int .i64))])]
abbrev Q_p_spyref3_Close_l0 (a2 : Int) (a5 : List Int) (a6 : List Int) (a7 : List Int) (a8 : List Int) (a9 : List Int) (a10 : List Int) (o : Int × Int) (z : Out) : Prop := Q0_p_spyref3_Close_l0 a2 a5 a6 a7 a8 a9 a10 o z
theorem l_p_spyref3_Close_l0 (L : Nat) (hL : L ≤ 4611686018427387904) (a2 : Int) (a5 : List Int) (a6 : List Int) (a7 : List Int) (a8 : List Int) (a9 : List Int) (a10 : List Int) : ∀ (tl n : Nat) (s4 : Int) (s194 : Int) (s195 : Int) (env : List V) (st : Store) (o : Int × Int), tl < n → Cnt 3 s4 tl → mask (maskOf en34.ms 0) env = sp 113 0 [(2, .d (.int .i64 a2)), (7, .p (0, 7) (st (0, 7)).ver 0 []), (9, .p (0, 9) (st (0, 9)).ver 0 []), (11, .d (.int .i64 s194)), (12, .d (.int .i64 s195)), (45, .d (.int .i64 s4))] → Bk (st (0, 7)) 180 [.d (.agg 180 [.sl 2 (a5.map (D.int .i64)), .sl 2 (a6.map (D.int .i64)), .sl 2 (a7.map (D.int .i64))])] → Bk (st (0, 9)) 180 [.d (.agg 180 [.sl 2 (a8.map (D.int .i64)), .sl 2 (a9.map (D.int .i64)), .sl 2 (a10.map (D.int .i64))])] → p_spyref3_Close_l0 L a5 a6 a7 a8 a9 a10 tl s4 s194 s195 = some o →
    Q_p_spyref3_Close_l0 a2 a5 a6 a7 a8 a9 a10 o (iter (evC Try.prog (G_spyref3_Close L) (evF Try.prog (G_spyref3_Close L) T_spyref3_Close L 0) L en34.ms 0 0 lb34_0) (maskOf en34.ms 0) n env st) := by
  intro tl
  induction tl with
  | zero =>
    intro n s4 s194 s195 env st o hn hR he hb0 hb1 h
    obtain ⟨n, rfl⟩ : ∃ m, n = m + 1 := ⟨n - 1, by omega⟩
    obtain ⟨be0, bv0, bl0⟩ := hb0
    obtain ⟨be1, bv1, bl1⟩ := hb1
    have g0 := cnt_nil hR
    rw [iter, he]
    clear he
    generalize hK : iter _ _ n = K
    rw [p_spyref3_Close_l0] at h
    revert h
    rintro ⟨⟩
    simp only [go_sem, *]
    refine (⟨_, _, rfl, ?_, ?_, ?_⟩ : Q0_p_spyref3_Close_l0 _ _ _ _ _ _ _ _ _)
    all_goals simp only [go_sem, *]
  | succ tl ih =>
    intro n s4 s194 s195 env st o hn hR he hb0 hb1 h
    obtain ⟨n, rfl⟩ : ∃ m, n = m + 1 := ⟨n - 1, by omega⟩
    obtain ⟨be0, bv0, bl0⟩ := hb0
    obtain ⟨be1, bv1, bl1⟩ := hb1
    replace ih : Hold _ := ih
    replace hR := cnt_s hR
    obtain ⟨g0, g1, g3, hR⟩ := hR
    rw [iter, he]
    clear he
    generalize hK : iter _ _ n = K
    rw [p_spyref3_Close_l0] at h
    revert h
    refine cb_i (fun c1 => ?_) (fun c1 => ?_)
    · have c2 : 0 ≤ s4 := by have := of_decide_eq_true c1; omega
      have c3 : s4 < 3 := by have := of_decide_eq_true c1; omega
      have c4 : s4.toNat = 0 := by have := of_decide_eq_true c1; omega
      refine rq_i fun c5 => ?_
      refine bnd_i fun o436 ho6 => ?_
      intro h
      simp only [go_sem, *]
      generalize hz8 : iter _ _ _ _ _ = z7
      have hq9 : Q_p_spyref3_Close_l1 a2 s194 s195 s4 a5 a6 a7 a8 a9 a10 o436 z7 := by
        rw [← hz8]
        refine l_p_spyref3_Close_l1 L hL a2 s194 s195 s4 a5 a6 a7 a8 a9 a10 a5 L 0 ([]) _ _ _ c5 (rng_0 c5 hL) ?_ ?_ ?_ ?_ ho6
        all_goals simp only [go_sem, *]
      clear hz8 ho6
      obtain ⟨_, st437, rfl, rfl, ⟨k101, k102, k103⟩, ⟨k111, k112, k113⟩, k12⟩ := hq9
      revert h
      refine bnd_i fun r438 c13 => ?_
      refine bnd_i fun r439 c14 => ?_
      intro h
      simp only [go_sem, *]
      subst hK
      refine ih n (s4 + 1) (i64.wrap (s194 + r438)) (i64.wrap (s195 + r439)) _ _ _ (by omega) hR ?_ ?_ ?_ h
      all_goals simp only [go_sem, *]
    · refine cb_i (fun c15 => ?_) (fun c15 => ?_)
      · have c16 : 0 ≤ s4 := by have := of_decide_eq_true c15; omega
        have c17 : s4 < 3 := by have := of_decide_eq_true c15; omega
        have c18 : s4.toNat = 1 := by have := of_decide_eq_true c15; omega
        refine rq_i fun c19 => ?_
        refine bnd_i fun o497 ho20 => ?_
        intro h
        simp only [go_sem, *]
        generalize hz22 : iter _ _ _ _ _ = z21
        have hq23 : Q_p_spyref3_Close_l5 a2 s194 s195 s4 a6 a5 a7 a8 a9 a10 o497 z21 := by
          rw [← hz22]
          refine l_p_spyref3_Close_l5 L hL a2 s194 s195 s4 a6 a5 a7 a8 a9 a10 a6 L 0 ([]) _ _ _ c19 (rng_0 c19 hL) ?_ ?_ ?_ ?_ ho20
          all_goals simp only [go_sem, *]
        clear hz22 ho20
        obtain ⟨_, st498, rfl, rfl, ⟨k241, k242, k243⟩, ⟨k251, k252, k253⟩, k26⟩ := hq23
        revert h
        refine bnd_i fun r499 c27 => ?_
        refine bnd_i fun r500 c28 => ?_
        intro h
        simp only [go_sem, *]
        subst hK
        refine ih n (s4 + 1) (i64.wrap (s194 + r499)) (i64.wrap (s195 + r500)) _ _ _ (by omega) hR ?_ ?_ ?_ h
        all_goals simp only [go_sem, *]
      · refine cb_i (fun c29 => ?_) (fun c29 => ?_)
        · have c30 : 0 ≤ s4 := by have := of_decide_eq_true c29; omega
          have c31 : s4 < 3 := by have := of_decide_eq_true c29; omega
          have c32 : s4.toNat = 2 := by have := of_decide_eq_true c29; omega
          refine rq_i fun c33 => ?_
          refine bnd_i fun o558 ho34 => ?_
          intro h
          simp only [go_sem, *]
          generalize hz36 : iter _ _ _ _ _ = z35
          have hq37 : Q_p_spyref3_Close_l9 a2 s194 s195 s4 a7 a5 a6 a8 a9 a10 o558 z35 := by
            rw [← hz36]
            refine l_p_spyref3_Close_l9 L hL a2 s194 s195 s4 a7 a5 a6 a8 a9 a10 a7 L 0 ([]) _ _ _ c33 (rng_0 c33 hL) ?_ ?_ ?_ ?_ ho34
            all_goals simp only [go_sem, *]
          clear hz36 ho34
          obtain ⟨_, st559, rfl, rfl, ⟨k381, k382, k383⟩, ⟨k391, k392, k393⟩, k40⟩ := hq37
          revert h
          refine bnd_i fun r560 c41 => ?_
          refine bnd_i fun r561 c42 => ?_
          intro h
          simp only [go_sem, *]
          subst hK
          refine ih n (s4 + 1) (i64.wrap (s194 + r560)) (i64.wrap (s195 + r561)) _ _ _ (by omega) hR ?_ ?_ ?_ h
          all_goals simp only [go_sem, *]
        · intro h; cases h
theorem e_spyref3_Close (L : Nat) (hL : L ≤ 4611686018427387904) (a0_0_0 : Int) (a0_0_1 : Int) (a0_0_2 : Bool) (a0_1_0 : Int) (a0_1_1 : Int) (a0_1_2 : Bool) (a0_2_0 : Int) (a0_2_1 : Int) (a0_2_2 : Bool) (a1_0_0 : Int) (a1_0_1 : Int) (a1_0_2 : Bool) (a1_1_0 : Int) (a1_1_1 : Int) (a1_1_2 : Bool) (a1_2_0 : Int) (a1_2_1 : Int) (a1_2_2 : Bool) (a2 : Int) (res : Int) (h : p_spyref3_Close L a0_0_0 a0_0_1 a0_0_2 a0_1_0 a0_1_1 a0_1_2 a0_2_0 a0_2_1 a0_2_2 a1_0_0 a1_0_1 a1_0_2 a1_1_0 a1_1_1 a1_1_2 a1_2_0 a1_2_1 a1_2_2 a2 = some res) : evTop Try.prog (G_spyref3_Close L) T_spyref3_Close L 1 34 [.agg 66 [.agg 64 [.int .i64 a0_0_0, .int .i64 a0_0_1, .bool a0_0_2], .agg 64 [.int .i64 a0_1_0, .int .i64 a0_1_1, .bool a0_1_2], .agg 64 [.int .i64 a0_2_0, .int .i64 a0_2_1, .bool a0_2_2]], .agg 66 [.agg 64 [.int .i64 a1_0_0, .int .i64 a1_0_1, .bool a1_0_2], .agg 64 [.int .i64 a1_1_0, .int .i64 a1_1_1, .bool a1_1_2], .agg 64 [.int .i64 a1_2_0, .int .i64 a1_2_1, .bool a1_2_2]], .int .i64 a2] = some [.int .i64 res] := by
  revert h
  unfold p_spyref3_Close evTop
  simp only [List.map]
  rw [evF_s (fn := Try.f34) (msk := en34.ms) (hT := by rfl) (hb := by rfl)]
  refine ite_i (fun c1 => ?_) (fun c1 => ?_)
  · rintro ⟨⟩
    simp only [go_sem, *]
  · refine ite_i (fun c2 => ?_) (fun c2 => ?_)
    · rintro ⟨⟩
      simp only [go_sem, *]
    · refine bnd_i fun r1 c3 => ?_
      refine bnd_i fun r2 c4 => ?_
      refine cb_i (fun c5 => ?_) (fun c5 => ?_)
      · refine cb_i (fun c6 => ?_) (fun c6 => ?_)
        · refine rq_i fun c7 => ?_
          refine bnd_i fun o562 ho8 => ?_
          intro h
          simp only [go_sem, *]
          generalize hz10 : iter _ _ _ _ _ = z9
          have hq11 : Q_p_spyref3_Close_l0 a2 r1.1 r1.2.1 r1.2.2.1 r2.1 r2.2.1 r2.2.2.1 o562 z9 := by
            rw [← hz10]
            refine l_p_spyref3_Close_l0 L hL a2 r1.1 r1.2.1 r1.2.2.1 r2.1 r2.2.1 r2.2.2.1 _ L 0 0 0 _ _ _ c7 (cnt_0 (by decide) (by decide)) ?_ ?_ ?_ ho8
            all_goals simp only [go_sem, *]
          clear hz10 ho8
          obtain ⟨_, st563, rfl, rfl, ⟨k121, k122, k123⟩, ⟨k131, k132, k133⟩⟩ := hq11
          revert h
          refine bnd_i fun r564 c14 => ?_
          refine bnd_i fun r565 c15 => ?_
          refine ite_i (fun c16 => ?_) (fun c16 => ?_)
          · refine ite_i (fun c17 => ?_) (fun c17 => ?_)
            · refine bnd_i fun r566 c18 => ?_
              refine bnd_i fun r567 c19 => ?_
              refine ite_i (fun c20 => ?_) (fun c20 => ?_)
              · rintro ⟨⟩
                simp only [go_sem, *]
              · refine bnd_i fun r568 c21 => ?_
                refine bnd_i fun r569 c22 => ?_
                refine ite_i (fun c23 => ?_) (fun c23 => ?_)
                · rintro ⟨⟩
                  simp only [go_sem, *]
                · rintro ⟨⟩
                  simp only [go_sem, *]
            · refine bnd_i fun r570 c24 => ?_
              refine bnd_i fun r571 c25 => ?_
              refine ite_i (fun c26 => ?_) (fun c26 => ?_)
              · rintro ⟨⟩
                simp only [go_sem, *]
              · rintro ⟨⟩
                simp only [go_sem, *]
          · refine bnd_i fun r572 c27 => ?_
            refine bnd_i fun r573 c28 => ?_
            refine ite_i (fun c29 => ?_) (fun c29 => ?_)
            · rintro ⟨⟩
              simp only [go_sem, *]
            · rintro ⟨⟩
              simp only [go_sem, *]
        · rintro ⟨⟩
          simp only [go_sem, *]
      · rintro ⟨⟩
        simp only [go_sem, *]
noncomputable def s_spyref3_Close (L : Nat) : Ev.Spec := specP (cCons k66 (cCons k66 (cCons (cI .i64) cNil))) (fun x => p_spyref3_Close L x.1.1.1 x.1.1.2.1 x.1.1.2.2.1 x.1.2.1.1 x.1.2.1.2.1 x.1.2.1.2.2.1 x.1.2.2.1.1 x.1.2.2.1.2.1 x.1.2.2.1.2.2.1 x.2.1.1.1 x.2.1.1.2.1 x.2.1.1.2.2.1 x.2.1.2.1.1 x.2.1.2.1.2.1 x.2.1.2.1.2.2.1 x.2.1.2.2.1.1 x.2.1.2.2.1.2.1 x.2.1.2.2.1.2.2.1 x.2.2.1) (fun r => [.int .i64 r])
theorem s_spyref3_Close_run (L : Nat) (a0_0_0 : Int) (a0_0_1 : Int) (a0_0_2 : Bool) (a0_1_0 : Int) (a0_1_1 : Int) (a0_1_2 : Bool) (a0_2_0 : Int) (a0_2_1 : Int) (a0_2_2 : Bool) (a1_0_0 : Int) (a1_0_1 : Int) (a1_0_2 : Bool) (a1_1_0 : Int) (a1_1_1 : Int) (a1_1_2 : Bool) (a1_2_0 : Int) (a1_2_1 : Int) (a1_2_2 : Bool) (a2 : Int) : (s_spyref3_Close L).run [.agg 66 [.agg 64 [.int .i64 a0_0_0, .int .i64 a0_0_1, .bool a0_0_2], .agg 64 [.int .i64 a0_1_0, .int .i64 a0_1_1, .bool a0_1_2], .agg 64 [.int .i64 a0_2_0, .int .i64 a0_2_1, .bool a0_2_2]], .agg 66 [.agg 64 [.int .i64 a1_0_0, .int .i64 a1_0_1, .bool a1_0_2], .agg 64 [.int .i64 a1_1_0, .int .i64 a1_1_1, .bool a1_1_2], .agg 64 [.int .i64 a1_2_0, .int .i64 a1_2_1, .bool a1_2_2]], .int .i64 a2] = (p_spyref3_Close L a0_0_0 a0_0_1 a0_0_2 a0_1_0 a0_1_1 a0_1_2 a0_2_0 a0_2_1 a0_2_2 a1_0_0 a1_0_1 a1_0_2 a1_1_0 a1_1_1 a1_1_2 a1_2_0 a1_2_1 a1_2_2 a2).map fun r => [.int .i64 r] := specP_run (cCons k66 (cCons k66 (cCons (cI .i64) cNil))) (fun x => p_spyref3_Close L x.1.1.1 x.1.1.2.1 x.1.1.2.2.1 x.1.2.1.1 x.1.2.1.2.1 x.1.2.1.2.2.1 x.1.2.2.1.1 x.1.2.2.1.2.1 x.1.2.2.1.2.2.1 x.2.1.1.1 x.2.1.1.2.1 x.2.1.1.2.2.1 x.2.1.2.1.1 x.2.1.2.1.2.1 x.2.1.2.1.2.2.1 x.2.1.2.2.1.1 x.2.1.2.2.1.2.1 x.2.1.2.2.1.2.2.1 x.2.2.1) (fun r => [.int .i64 r]) (((a0_0_0, a0_0_1, a0_0_2, ()), (a0_1_0, a0_1_1, a0_1_2, ()), (a0_2_0, a0_2_1, a0_2_2, ()), ()), ((a1_0_0, a1_0_1, a1_0_2, ()), (a1_1_0, a1_1_1, a1_1_2, ()), (a1_2_0, a1_2_1, a1_2_2, ()), ()), a2, ())
theorem ok_spyref3_Close (L : Nat) (hL : L ≤ 4611686018427387904) : SpecOk Try.prog 34 (s_spyref3_Close L) := specP_ok mixed (Go_spyref3_Close L hL) (To_spyref3_Close L) fun x r h => ⟨L, 1, e_spyref3_Close L hL x.1.1.1 x.1.1.2.1 x.1.1.2.2.1 x.1.2.1.1 x.1.2.1.2.1 x.1.2.1.2.2.1 x.1.2.2.1.1 x.1.2.2.1.2.1 x.1.2.2.1.2.2.1 x.2.1.1.1 x.2.1.1.2.1 x.2.1.1.2.2.1 x.2.1.2.1.1 x.2.1.2.1.2.1 x.2.1.2.1.2.2.1 x.2.1.2.2.1.1 x.2.1.2.2.1.2.1 x.2.1.2.2.1.2.2.1 x.2.2.1 r h⟩
end Go.Proofs.Ytnojehmbiceceaa.P
end
section
set_option linter.unusedVariables false
set_option linter.unusedSimpArgs false
set_option maxRecDepth 100000
namespace Go.Proofs.Ytnojehmbiceceaa.P
open Go.Ev Go.IntKind Go.Proofs.Ytnojehmbiceceaa Go.Proofs.Ytnojehmbiceceaa.Ty Go.Proofs.Ytnojehmbiceceaa.E
def p_spylaw3_QueryNears (L : Nat) (a0_0_0 : Int) (a0_0_1 : Int) (a0_0_2 : Bool) (a0_1_0 : Int) (a0_1_1 : Int) (a0_1_2 : Bool) (a0_2_0 : Int) (a0_2_1 : Int) (a0_2_2 : Bool) (a1_0_0 : Int) (a1_0_1 : Int) (a1_0_2 : Bool) (a1_1_0 : Int) (a1_1_1 : Int) (a1_1_2 : Bool) (a1_2_0 : Int) (a1_2_1 : Int) (a1_2_2 : Bool) (a2 : Int) : Option Bool := bnd (p_spylaw3_queries L) fun r1 => cb r1 (bnd (p_query_Near L a0_0_0 a0_0_1 a0_0_2 a0_1_0 a0_1_1 a0_1_2 a0_2_0 a0_2_1 a0_2_2 a1_0_0 a1_0_1 a1_0_2 a1_1_0 a1_1_1 a1_1_2 a1_2_0 a1_2_1 a1_2_2 a2) fun r2 => bnd (p_spyref3_Close L a0_0_0 a0_0_1 a0_0_2 a0_1_0 a0_1_1 a0_1_2 a0_2_0 a0_2_1 a0_2_2 a1_0_0 a1_0_1 a1_0_2 a1_1_0 a1_1_1 a1_1_2 a1_2_0 a1_2_1 a1_2_2 a2) fun r3 => some (decide (r2 = r3))) (some false)
attribute [local go_sem] Ev.putR_s Ev.putR_0 Ev.thenO_s Ev.thenO_0 Ev.seqR_n Ev.seqR_e Ev.seqR_r Ev.seqR_0 Ev.blkR_e Ev.blkR_n Ev.blkR_r Ev.blkR_0 Ev.normR_s Ev.normR_0 Ev.outR_r Ev.outR_n Ev.outR_0 Ev.retS_s Ev.retS_0 Ev.pureO_s Ev.pureO_0 Ev.topR_0 Ev.topR_t Ev.topR_t0 Ev.oneL_0 Ev.oneL_s Ev.topR_d Ev.topR_nils Ev.topR_agg Ev.topR_rs Ev.evOp_move Ev.evOp_assign Ev.evOp_pick Ev.evOp_alloc Ev.evOp_box Ev.evOp_build Ev.evOp_buildSlice Ev.evOp_load Ev.evOp_store Ev.evOp_makeMap Ev.evOp_lookup Ev.evOp_mapUpdate Ev.evOp_insert Ev.evOp_nilCheck Ev.evOp_binOp Ev.evOp_unOp Ev.evOp_convert Ev.evOp_makeFunc Ev.evOp_makeSlice Ev.evOp_slice Ev.evOp_fieldAddr Ev.evOp_field Ev.evOp_indexAddr Ev.evOp_index Ev.evOp_extract Ev.evOp_call Ev.evOp_append Ev.evOp_clear Ev.evOp_len Ev.evOp_min Ev.evOp_max Ev.condR_b Ev.condR_t Ev.evOps_nil Ev.evOps_plain Ev.evOps_guard Ev.runG_eq Ev.skipG_eq Ev.condL_tt Ev.condL_ff Ev.condL_tf Ev.condL_ft Ev.condL_u Ev.condC_t Ev.condC_f Ev.evC_skip Ev.evC_ret Ev.evC_exit Ev.evC_label Ev.evC_region Ev.evC_draw Ev.evC_seq Ev.evC_cond Ev.evC_block Ev.evC_loop Ev.fin_d Ev.fin_nils Ev.fin_agg_ Ev.fin_rs Ev.finS_s Ev.mapO_fin Ev.upd_upd Ev.argv_d Ev.argv_nils Ev.argv_agg Ev.argv_rs Ev.argv_p Ev.fk_low Ev.appendTo_nils Ev.appendTo_rs Ev.consV_d Ev.consV_agg Ev.consV_p Ev.consV_rs Ev.consV_nils Ev.consV_fn Ev.consV_und Ev.consV_jk Ev.consV_grown Ev.topR_grown Ev.len_grown Ev.consV_mp Ev.sameK_i Ev.sameK_s Ev.mget_0 Ev.mget_hit Ev.mget_miss Ev.mput_0 Ev.mput_hit Ev.mput_miss Ev.apartAll Ev.apartL Ev.apartV Ev.freeAll Ev.sel Ev.keyOfV Ev.evLookup Ev.evPut Ev.hintOk Ev.keyOk Ev.consP Ev.lookV Ev.guardV Ev.dstAt Ev.evPure Ev.evStore Ev.evBin Ev.evBinO Ev.evNil Ev.isNilC Ev.evUn Ev.evConv Ev.evSlice Ev.optI Ev.foldI Ev.capsOk Ev.noTup Ev.nth Ev.setN Ev.killAt Ev.pad Ev.V.get Ev.V.put Ev.putD Ev.newBlk Ev.upd Ev.keq Ev.empty Ev.evCall Ev.V.args Ev.argP Ev.callOf Ev.evNilP Ev.isNilP Ev.look Ev.V.view.views Ev.V.view Ev.V.toD Ev.V.toD.V.toDs Ev.V.pure.pures Ev.V.pure Ev.D.flat.flats Ev.D.flat Ev.mkAgg Ev.allD Ev.aggParts Ev.setParts Ev.setElems Ev.getPath Ev.setPath Ev.subL Ev.eqD Ev.eqD.eqDs Ev.and2 Ev.strCut Ev.evalT Ev.constT Ev.evArgs Ev.mask Ev.maskOf Ev.tableOf Ev.compT Ev.resV Ev.retV Ev.mapO Ev.frzO_n Ev.frzO_e Ev.frzO_r Ev.frzO_0 Ev.mb_z Ev.mb_0 Ev.mb_s Ev.frzL_t Ev.frzL_f Ev.frzL_0 Ev.frzT_nils Ev.frzT_rs Ev.frzT_p Ev.frzK_i Ev.keyIn_i Ev.rI_nil Ev.rI_cons Ev.rI_row Ev.rI_app Ev.r_d Ev.r_nils Ev.r_agg Ev.r_rs Ev.r_gl Ev.vw_row Ev.vw_app Ev.appO_s Ev.frzT_gl Ev.allD_gl Ev.killAt_i Ev.tkOne_i Ev.hT_agg Ev.hT_vagg Ev.hT_int Ev.hT_bool Ev.hT_str Ev.hT_sl Ev.hT_ptr Ev.hT_np Ev.hT_p Ev.hT_rs Ev.hT_mp Ev.hT_nils Ev.hT_fn Ev.hT_jk Ev.hT_gl Ev.eO_sl Ev.eO_nils Ev.eO_rs Ev.eT_sl Ev.eT_rs Ev.pL_str Ev.pL_sl Ev.pL_rs Ev.pL_nils Ev.pL_min Ev.pL_max Ev.len_glB Ev.noTup_gl Ev.rowV_len Ev.rowV_nil Ev.rowV_cons Ev.rowV_append Ev.rowV_set Ev.rowV_replicate Ev.nth_row Ev.row_take Ev.row_drop Ev.toDs_row Ev.fin_row Ev.map_row Ev.map_take_ Ev.map_drop_ Ev.Bk_i Ev.GlB_0 Ev.GlB_mk Ev.gl_nil Ev.gl_cons Ev.gl_snoc Ev.gl_setN Ev.appendTo_gl Ev.consV_gl Ev.elems_gl Ev.fin_gl Ev.view_gl Ev.argv_gl Ev.topR_gl Ev.sp_z Ev.sp_0 Ev.sp_s Ev.km_z Ev.km_0 Ev.km_s Ev.beq_toList Ev.nc0 Ev.bq_t Ev.bq_f Ev.bodyN Ev.le_maxRow Int.cast_ofNat_Int IntWalk.i64_in IntWalk.u64_in IntWalk.u8_in beq_self_eq_true Bool.true_beq Bool.false_beq Bool.and_true Bool.true_and Bool.false_and Bool.and_false Bool.and_self Bool.not_true Bool.not_false Bool.not_eq_true cond_true cond_false if_true if_false and_true true_and and_self decide_true decide_false Bool.or_true Bool.true_or Bool.or_false Bool.false_or List.isEmpty List.isEmpty_nil List.size_toArray List.map List.length_map List.length_cons List.length_nil Option.map Option.bind Option.getD Option.isSome List.replicate Bool.false_eq_true implies_true false_implies forall_const Array.toList Array.isEmpty List.append List.nil_append List.cons_append List.drop_zero List.take_length List.take_succ_cons List.take_zero List.take_nil List.getElem?_map List.getElem?_cons_zero List.getElem?_cons_succ List.getElem?_nil List.append_nil eq_self Int.toNat_natCast List.length_append Nat.zero_add Nat.add_zero List.length_replicate Nat.sub_zero Option.map_some Option.map_none Int.le_refl Nat.le_refl Int.natCast_nonneg List.map_append
noncomputable def G_spylaw3_QueryNears (L : Nat) : Specs := [(32, s_spylaw3_queries L), (33, s_query_Near L), (34, s_spyref3_Close L)]
noncomputable def T_spylaw3_QueryNears : Table := tableOf [(8, en8)]
theorem Go_spylaw3_QueryNears (L : Nat) (hL : L ≤ 4611686018427387904) : ∀ g s, Ev.look (G_spylaw3_QueryNears L) g = some s → SpecOk Try.prog g s := (specs_cons (ok_spylaw3_queries L hL) (specs_cons (ok_query_Near L hL) (specs_cons (ok_spyref3_Close L hL) specs_nil)))
theorem To_spylaw3_QueryNears (L : Nat) : TableOk Try.prog ((G_spylaw3_QueryNears L).map (·.1)) T_spylaw3_QueryNears := (table_cons Try.func8 (by kernel_rfl) (by kernel_rfl) table_nil)
theorem lk_spylaw3_QueryNears_32 (L : Nat) : Ev.look (G_spylaw3_QueryNears L) 32 = some (s_spylaw3_queries L) := nr rfl
theorem lk_spylaw3_QueryNears_33 (L : Nat) : Ev.look (G_spylaw3_QueryNears L) 33 = some (s_query_Near L) := nr rfl
theorem lk_spylaw3_QueryNears_34 (L : Nat) : Ev.look (G_spylaw3_QueryNears L) 34 = some (s_spyref3_Close L) := nr rfl
attribute [local go_sem] Ty.tk3 Ty.ik3 Ty.ek3 Ty.zv3 Ty.by3 Ty.so3 Ty.tk4 Ty.ub4 Ty.ek4 Ty.zv4 Ty.by4 Ty.so4 Ty.tk62 Ty.ik62 Ty.ek62 Ty.zv62 Ty.by62 Ty.so62 Ty.tk64 Ty.ct64 Ty.ek64 Ty.zv64 Ty.by64 Ty.so64 Ty.tk66 Ty.ct66 Ty.ek66 Ty.zv66 Ty.by66 Ty.so66 Ty.tk67 Ty.ik67 Ty.ek67 Ty.zv67 Ty.by67 Ty.so67 Ty.k64_e Ty.k66_e E.dw8_1 E.kl8_1 E.nc8_1 E.mk8_1000000 lk_spylaw3_QueryNears_32 lk_spylaw3_QueryNears_33 lk_spylaw3_QueryNears_34 s_spylaw3_queries_run s_query_Near_run s_spyref3_Close_run loopN loops Try.f8
theorem e_spylaw3_QueryNears (L : Nat) (hL : L ≤ 4611686018427387904) (a0_0_0 : Int) (a0_0_1 : Int) (a0_0_2 : Bool) (a0_1_0 : Int) (a0_1_1 : Int) (a0_1_2 : Bool) (a0_2_0 : Int) (a0_2_1 : Int) (a0_2_2 : Bool) (a1_0_0 : Int) (a1_0_1 : Int) (a1_0_2 : Bool) (a1_1_0 : Int) (a1_1_1 : Int) (a1_1_2 : Bool) (a1_2_0 : Int) (a1_2_1 : Int) (a1_2_2 : Bool) (a2 : Int) (res : Bool) (h : p_spylaw3_QueryNears L a0_0_0 a0_0_1 a0_0_2 a0_1_0 a0_1_1 a0_1_2 a0_2_0 a0_2_1 a0_2_2 a1_0_0 a1_0_1 a1_0_2 a1_1_0 a1_1_1 a1_1_2 a1_2_0 a1_2_1 a1_2_2 a2 = some res) : evTop Try.prog (G_spylaw3_QueryNears L) T_spylaw3_QueryNears L 1 8 [.agg 66 [.agg 64 [.int .i64 a0_0_0, .int .i64 a0_0_1, .bool a0_0_2], .agg 64 [.int .i64 a0_1_0, .int .i64 a0_1_1, .bool a0_1_2], .agg 64 [.int .i64 a0_2_0, .int .i64 a0_2_1, .bool a0_2_2]], .agg 66 [.agg 64 [.int .i64 a1_0_0, .int .i64 a1_0_1, .bool a1_0_2], .agg 64 [.int .i64 a1_1_0, .int .i64 a1_1_1, .bool a1_1_2], .agg 64 [.int .i64 a1_2_0, .int .i64 a1_2_1, .bool a1_2_2]], .int .i64 a2] = some [.bool res] := by
  revert h
  unfold p_spylaw3_QueryNears evTop
  simp only [List.map]
  rw [evF_s (fn := Try.f8) (msk := en8.ms) (hT := by rfl) (hb := by rfl)]
  refine bnd_i fun r1 c1 => ?_
  refine cb_i (fun c2 => ?_) (fun c2 => ?_)
  · refine bnd_i fun r2 c3 => ?_
    refine bnd_i fun r3 c4 => ?_
    rintro ⟨⟩
    simp only [go_sem, Nat.reduceAdd, Nat.reduceSub, Nat.reduceMul, Nat.reduceEqDiff, Nat.reduceBEq, Nat.reduceLT, Nat.reduceLeDiff, Nat.reducePow, Int.reduceToNat, Int.reduceLT, Int.reduceLE, Int.reduceGT, Int.reduceGE, Int.reduceEq, Int.reduceNeg, Int.reduceAdd, Int.reduceSub, Int.reduceMul, ↓reduceIte, reduceCtorEq, *]
  · rintro ⟨⟩
    simp only [go_sem, Nat.reduceAdd, Nat.reduceSub, Nat.reduceMul, Nat.reduceEqDiff, Nat.reduceBEq, Nat.reduceLT, Nat.reduceLeDiff, Nat.reducePow, Int.reduceToNat, Int.reduceLT, Int.reduceLE, Int.reduceGT, Int.reduceGE, Int.reduceEq, Int.reduceNeg, Int.reduceAdd, Int.reduceSub, Int.reduceMul, ↓reduceIte, reduceCtorEq, *]
noncomputable def s_spylaw3_QueryNears (L : Nat) : Ev.Spec := specP (cCons k66 (cCons k66 (cCons (cI .i64) cNil))) (fun x => p_spylaw3_QueryNears L x.1.1.1 x.1.1.2.1 x.1.1.2.2.1 x.1.2.1.1 x.1.2.1.2.1 x.1.2.1.2.2.1 x.1.2.2.1.1 x.1.2.2.1.2.1 x.1.2.2.1.2.2.1 x.2.1.1.1 x.2.1.1.2.1 x.2.1.1.2.2.1 x.2.1.2.1.1 x.2.1.2.1.2.1 x.2.1.2.1.2.2.1 x.2.1.2.2.1.1 x.2.1.2.2.1.2.1 x.2.1.2.2.1.2.2.1 x.2.2.1) (fun r => [.bool r])
theorem s_spylaw3_QueryNears_run (L : Nat) (a0_0_0 : Int) (a0_0_1 : Int) (a0_0_2 : Bool) (a0_1_0 : Int) (a0_1_1 : Int) (a0_1_2 : Bool) (a0_2_0 : Int) (a0_2_1 : Int) (a0_2_2 : Bool) (a1_0_0 : Int) (a1_0_1 : Int) (a1_0_2 : Bool) (a1_1_0 : Int) (a1_1_1 : Int) (a1_1_2 : Bool) (a1_2_0 : Int) (a1_2_1 : Int) (a1_2_2 : Bool) (a2 : Int) : (s_spylaw3_QueryNears L).run [.agg 66 [.agg 64 [.int .i64 a0_0_0, .int .i64 a0_0_1, .bool a0_0_2], .agg 64 [.int .i64 a0_1_0, .int .i64 a0_1_1, .bool a0_1_2], .agg 64 [.int .i64 a0_2_0, .int .i64 a0_2_1, .bool a0_2_2]], .agg 66 [.agg 64 [.int .i64 a1_0_0, .int .i64 a1_0_1, .bool a1_0_2], .agg 64 [.int .i64 a1_1_0, .int .i64 a1_1_1, .bool a1_1_2], .agg 64 [.int .i64 a1_2_0, .int .i64 a1_2_1, .bool a1_2_2]], .int .i64 a2] = (p_spylaw3_QueryNears L a0_0_0 a0_0_1 a0_0_2 a0_1_0 a0_1_1 a0_1_2 a0_2_0 a0_2_1 a0_2_2 a1_0_0 a1_0_1 a1_0_2 a1_1_0 a1_1_1 a1_1_2 a1_2_0 a1_2_1 a1_2_2 a2).map fun r => [.bool r] := specP_run (cCons k66 (cCons k66 (cCons (cI .i64) cNil))) (fun x => p_spylaw3_QueryNears L x.1.1.1 x.1.1.2.1 x.1.1.2.2.1 x.1.2.1.1 x.1.2.1.2.1 x.1.2.1.2.2.1 x.1.2.2.1.1 x.1.2.2.1.2.1 x.1.2.2.1.2.2.1 x.2.1.1.1 x.2.1.1.2.1 x.2.1.1.2.2.1 x.2.1.2.1.1 x.2.1.2.1.2.1 x.2.1.2.1.2.2.1 x.2.1.2.2.1.1 x.2.1.2.2.1.2.1 x.2.1.2.2.1.2.2.1 x.2.2.1) (fun r => [.bool r]) (((a0_0_0, a0_0_1, a0_0_2, ()), (a0_1_0, a0_1_1, a0_1_2, ()), (a0_2_0, a0_2_1, a0_2_2, ()), ()), ((a1_0_0, a1_0_1, a1_0_2, ()), (a1_1_0, a1_1_1, a1_1_2, ()), (a1_2_0, a1_2_1, a1_2_2, ()), ()), a2, ())
theorem ok_spylaw3_QueryNears (L : Nat) (hL : L ≤ 4611686018427387904) : SpecOk Try.prog 8 (s_spylaw3_QueryNears L) := specP_ok mixed (Go_spylaw3_QueryNears L hL) (To_spylaw3_QueryNears L) fun x r h => ⟨L, 1, e_spylaw3_QueryNears L hL x.1.1.1 x.1.1.2.1 x.1.1.2.2.1 x.1.2.1.1 x.1.2.1.2.1 x.1.2.1.2.2.1 x.1.2.2.1.1 x.1.2.2.1.2.1 x.1.2.2.1.2.2.1 x.2.1.1.1 x.2.1.1.2.1 x.2.1.1.2.2.1 x.2.1.2.1.1 x.2.1.2.1.2.1 x.2.1.2.1.2.2.1 x.2.1.2.2.1.1 x.2.1.2.2.1.2.1 x.2.1.2.2.1.2.2.1 x.2.2.1 r h⟩
end Go.Proofs.Ytnojehmbiceceaa.P
end
