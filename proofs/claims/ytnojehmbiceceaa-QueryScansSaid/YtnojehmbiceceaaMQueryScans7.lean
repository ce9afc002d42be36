/- Parts of one proof, joined: G127, E188, G188, E189, G189, E190, E231, G231, G190, E33, E106, G106, E107, G107, E108, G108, E111, E184, E229, G229, G184, E185, E230. -/
import Derived.Test.YtnojehmbiceceaaMQueryScans6
import Derived.Test.YtnojehmbiceceaaProg
section
attribute [local go_sem] Go.Ev.putR_s Go.Ev.putR_0 Go.Ev.thenO_s Go.Ev.thenO_0 Go.Ev.seqR_n Go.Ev.seqR_e Go.Ev.seqR_r Go.Ev.seqR_0 Go.Ev.blkR_e Go.Ev.blkR_n Go.Ev.blkR_r Go.Ev.blkR_0 Go.Ev.normR_s Go.Ev.normR_0 Go.Ev.outR_r Go.Ev.outR_n Go.Ev.outR_0 Go.Ev.retS_s Go.Ev.retS_0 Go.Ev.pureO_s Go.Ev.pureO_0 Go.Ev.topR_0 Go.Ev.topR_t Go.Ev.topR_t0 Go.Ev.oneL_0 Go.Ev.oneL_s Go.Ev.topR_d Go.Ev.topR_nils Go.Ev.topR_agg Go.Ev.topR_rs Go.Ev.evOp_move Go.Ev.evOp_assign Go.Ev.evOp_pick Go.Ev.evOp_alloc Go.Ev.evOp_box Go.Ev.evOp_build Go.Ev.evOp_buildSlice Go.Ev.evOp_load Go.Ev.evOp_store Go.Ev.evOp_makeMap Go.Ev.evOp_lookup Go.Ev.evOp_mapUpdate Go.Ev.evOp_insert Go.Ev.evOp_nilCheck Go.Ev.evOp_binOp Go.Ev.evOp_unOp Go.Ev.evOp_convert Go.Ev.evOp_makeFunc Go.Ev.evOp_makeSlice Go.Ev.evOp_slice Go.Ev.evOp_fieldAddr Go.Ev.evOp_field Go.Ev.evOp_indexAddr Go.Ev.evOp_index Go.Ev.evOp_extract Go.Ev.evOp_call Go.Ev.evOp_append Go.Ev.evOp_clear Go.Ev.evOp_len Go.Ev.evOp_min Go.Ev.evOp_max Go.Ev.condR_b Go.Ev.condR_t Go.Ev.evOps_nil Go.Ev.evOps_plain Go.Ev.evOps_guard Go.Ev.runG_eq Go.Ev.skipG_eq Go.Ev.condL_tt Go.Ev.condL_ff Go.Ev.condL_tf Go.Ev.condL_ft Go.Ev.condL_u Go.Ev.condC_t Go.Ev.condC_f Go.Ev.evC_skip Go.Ev.evC_ret Go.Ev.evC_exit Go.Ev.evC_label Go.Ev.evC_region Go.Ev.evC_draw Go.Ev.evC_seq Go.Ev.evC_cond Go.Ev.evC_block Go.Ev.evC_loop Go.Ev.fin_d Go.Ev.fin_nils Go.Ev.fin_agg_ Go.Ev.fin_rs Go.Ev.finS_s Go.Ev.mapO_fin Go.Ev.upd_upd Go.Ev.argv_d Go.Ev.argv_nils Go.Ev.argv_agg Go.Ev.argv_rs Go.Ev.argv_p Go.Ev.fk_low Go.Ev.appendTo_nils Go.Ev.appendTo_rs Go.Ev.consV_d Go.Ev.consV_agg Go.Ev.consV_p Go.Ev.consV_rs Go.Ev.consV_nils Go.Ev.consV_fn Go.Ev.consV_und Go.Ev.consV_jk Go.Ev.consV_grown Go.Ev.topR_grown Go.Ev.len_grown Go.Ev.consV_mp Go.Ev.sameK_i Go.Ev.sameK_s Go.Ev.mget_0 Go.Ev.mget_hit Go.Ev.mget_miss Go.Ev.mput_0 Go.Ev.mput_hit Go.Ev.mput_miss Go.Ev.apartAll Go.Ev.apartL Go.Ev.apartV Go.Ev.freeAll Go.Ev.sel Go.Ev.keyOfV Go.Ev.evLookup Go.Ev.evPut Go.Ev.hintOk Go.Ev.keyOk Go.Ev.consP Go.Ev.lookV Go.Ev.guardV Go.Ev.dstAt Go.Ev.evPure Go.Ev.evStore Go.Ev.evBin Go.Ev.evBinO Go.Ev.evNil Go.Ev.isNilC Go.Ev.evUn Go.Ev.evConv Go.Ev.evSlice Go.Ev.optI Go.Ev.foldI Go.Ev.capsOk Go.Ev.noTup Go.Ev.nth Go.Ev.setN Go.Ev.killAt Go.Ev.pad Go.Ev.V.get Go.Ev.V.put Go.Ev.putD Go.Ev.newBlk Go.Ev.upd Go.Ev.keq Go.Ev.empty Go.Ev.evCall Go.Ev.V.args Go.Ev.argP Go.Ev.callOf Go.Ev.evNilP Go.Ev.isNilP Go.Ev.look Go.Ev.V.view.views Go.Ev.V.view Go.Ev.V.toD Go.Ev.V.toD.V.toDs Go.Ev.V.pure.pures Go.Ev.V.pure Go.Ev.D.flat.flats Go.Ev.D.flat Go.Ev.mkAgg Go.Ev.allD Go.Ev.aggParts Go.Ev.setParts Go.Ev.setElems Go.Ev.getPath Go.Ev.setPath Go.Ev.subL Go.Ev.eqD Go.Ev.eqD.eqDs Go.Ev.and2 Go.Ev.strCut Go.Ev.evalT Go.Ev.constT Go.Ev.evArgs Go.Ev.mask Go.Ev.maskOf Go.Ev.tableOf Go.Ev.compT Go.Ev.resV Go.Ev.retV Go.Ev.mapO Go.Ev.frzO_n Go.Ev.frzO_e Go.Ev.frzO_r Go.Ev.frzO_0 Go.Ev.mb_z Go.Ev.mb_0 Go.Ev.mb_s Go.Ev.frzL_t Go.Ev.frzL_f Go.Ev.frzL_0 Go.Ev.frzT_nils Go.Ev.frzT_rs Go.Ev.frzT_p Go.Ev.frzK_i Go.Ev.keyIn_i Go.Ev.rI_nil Go.Ev.rI_cons Go.Ev.rI_row Go.Ev.rI_app Go.Ev.r_d Go.Ev.r_nils Go.Ev.r_agg Go.Ev.r_rs Go.Ev.r_gl Go.Ev.vw_row Go.Ev.vw_app Go.Ev.appO_s Go.Ev.frzT_gl Go.Ev.allD_gl Go.Ev.killAt_i Go.Ev.tkOne_i Go.Ev.hT_agg Go.Ev.hT_vagg Go.Ev.hT_int Go.Ev.hT_bool Go.Ev.hT_str Go.Ev.hT_sl Go.Ev.hT_ptr Go.Ev.hT_np Go.Ev.hT_p Go.Ev.hT_rs Go.Ev.hT_mp Go.Ev.hT_nils Go.Ev.hT_fn Go.Ev.hT_jk Go.Ev.hT_gl Go.Ev.eO_sl Go.Ev.eO_nils Go.Ev.eO_rs Go.Ev.eT_sl Go.Ev.eT_rs Go.Ev.pL_str Go.Ev.pL_sl Go.Ev.pL_rs Go.Ev.pL_nils Go.Ev.pL_min Go.Ev.pL_max Go.Ev.len_glB Go.Ev.noTup_gl Go.Ev.rowV_len Go.Ev.rowV_nil Go.Ev.rowV_cons Go.Ev.rowV_append Go.Ev.rowV_set Go.Ev.rowV_replicate Go.Ev.nth_row Go.Ev.row_take Go.Ev.row_drop Go.Ev.toDs_row Go.Ev.fin_row Go.Ev.map_row Go.Ev.map_take_ Go.Ev.map_drop_ Go.Ev.Bk_i Go.Ev.GlB_0 Go.Ev.GlB_mk Go.Ev.gl_nil Go.Ev.gl_cons Go.Ev.gl_snoc Go.Ev.gl_setN Go.Ev.appendTo_gl Go.Ev.consV_gl Go.Ev.elems_gl Go.Ev.fin_gl Go.Ev.view_gl Go.Ev.argv_gl Go.Ev.topR_gl Go.Ev.sp_z Go.Ev.sp_0 Go.Ev.sp_s Go.Ev.km_z Go.Ev.km_0 Go.Ev.km_s Go.Ev.beq_toList Go.Ev.nc0 Go.Ev.bq_t Go.Ev.bq_f Go.Ev.bodyN Go.Ev.le_maxRow Int.cast_ofNat_Int Go.IntWalk.i64_in Go.IntWalk.u64_in Go.IntWalk.u8_in beq_self_eq_true Bool.true_beq Bool.false_beq Bool.and_true Bool.true_and Bool.false_and Bool.and_false Bool.and_self Bool.not_true Bool.not_false Bool.not_eq_true cond_true cond_false if_true if_false and_true true_and and_self decide_true decide_false Bool.or_true Bool.true_or Bool.or_false Bool.false_or List.isEmpty List.isEmpty_nil List.size_toArray List.map List.length_map List.length_cons List.length_nil Option.map Option.bind Option.getD Option.isSome List.replicate Bool.false_eq_true implies_true false_implies forall_const Array.toList Array.isEmpty List.append List.nil_append List.cons_append List.drop_zero List.take_length List.take_succ_cons List.take_zero List.take_nil List.getElem?_map List.getElem?_cons_zero List.getElem?_cons_succ List.getElem?_nil List.append_nil eq_self Int.toNat_natCast List.length_append Nat.zero_add Nat.add_zero List.length_replicate Nat.sub_zero Option.map_some Option.map_none Int.le_refl Nat.le_refl Int.natCast_nonneg List.map_append
attribute [local go_sem_proc] Nat.reduceAdd Nat.reduceSub Nat.reduceMul Nat.reduceEqDiff Nat.reduceBEq Nat.reduceLT Nat.reduceLeDiff Nat.reducePow Int.reduceToNat Int.reduceLT Int.reduceLE Int.reduceGT Int.reduceGE Int.reduceEq Int.reduceNeg Int.reduceAdd Int.reduceSub Int.reduceMul reduceCtorEq
attribute [local go_sem_proc ↓] reduceIte
section
set_option linter.unusedVariables false
set_option linter.unusedSimpArgs false
set_option maxRecDepth 100000
namespace Go.Proofs.Ytnojehmbiceceaa.P
open Go.Ev Go.IntKind Go.Proofs.Ytnojehmbiceceaa Go.Proofs.Ytnojehmbiceceaa.Ty Go.Proofs.Ytnojehmbiceceaa.E
def p_catalog_ends_Tick (L : Nat) (a0_0 : Int) (a0_1 : Int) (a0_2 : Bool) (a1 : Int) : Option Int := bnd (p_bound_Check_Tick L a0_0 a0_1 a0_2) fun r1 => cb (decide (r1 = 0)) (if a0_0 < (i64.wrap (0 - a1)) then (some 4) else (if a0_1 > a1 then (some 4) else (some 0))) (some r1)
noncomputable def G_catalog_ends_Tick (L : Nat) : Specs := [(194, s_bound_Check_Tick L)]
noncomputable def T_catalog_ends_Tick : Table := tableOf [(127, en127)]
theorem Go_catalog_ends_Tick (L : Nat) (hL : L ≤ 4611686018427387904) : ∀ g s, Ev.look (G_catalog_ends_Tick L) g = some s → SpecOk Try.prog g s := (specs_cons (ok_bound_Check_Tick L hL) specs_nil)
theorem To_catalog_ends_Tick (L : Nat) : TableOk Try.prog ((G_catalog_ends_Tick L).map (·.1)) T_catalog_ends_Tick := (table_cons Try.func127 (by kernel_rfl) (by kernel_rfl) table_nil)
theorem lk_catalog_ends_Tick_194 (L : Nat) : Ev.look (G_catalog_ends_Tick L) 194 = some (s_bound_Check_Tick L) := nr rfl
attribute [local go_sem] Ty.tk4 Ty.ub4 Ty.ek4 Ty.zv4 Ty.by4 Ty.so4 Ty.tk27 Ty.ik27 Ty.ek27 Ty.zv27 Ty.by27 Ty.so27 Ty.tk72 Ty.ik72 Ty.ek72 Ty.zv72 Ty.by72 Ty.so72 Ty.tk87 Ty.ct87 Ty.ek87 Ty.zv87 Ty.by87 Ty.so87 Ty.k87_e E.mk127_1000000 lk_catalog_ends_Tick_194 s_bound_Check_Tick_run loopN loops Try.f127
theorem e_catalog_ends_Tick (L : Nat) (hL : L ≤ 4611686018427387904) (a0_0 : Int) (a0_1 : Int) (a0_2 : Bool) (a1 : Int) (res : Int) (h : p_catalog_ends_Tick L a0_0 a0_1 a0_2 a1 = some res) : evTop Try.prog (G_catalog_ends_Tick L) T_catalog_ends_Tick L 1 127 [.agg 87 [.int .i64 a0_0, .int .i64 a0_1, .bool a0_2], .int .i64 a1] = some [.int .i64 res] := by
  revert h
  unfold p_catalog_ends_Tick evTop
  simp only [List.map]
  rw [evF_s (fn := Try.f127) (msk := en127.ms) (hT := by rfl) (hb := by rfl)]
  refine bnd_i fun r1 c1 => ?_
  refine cb_i (fun c2 => ?_) (fun c2 => ?_)
  · refine ite_i (fun c3 => ?_) (fun c3 => ?_)
    · rintro ⟨⟩
      simp only [go_sem, *]
    · refine ite_i (fun c4 => ?_) (fun c4 => ?_)
      · rintro ⟨⟩
        simp only [go_sem, *]
      · rintro ⟨⟩
        simp only [go_sem, *]
  · rintro ⟨⟩
    simp only [go_sem, *]
noncomputable def s_catalog_ends_Tick (L : Nat) : Ev.Spec := specP (cCons k87 (cCons (cI .i64) cNil)) (fun x => p_catalog_ends_Tick L x.1.1 x.1.2.1 x.1.2.2.1 x.2.1) (fun r => [.int .i64 r])
theorem s_catalog_ends_Tick_run (L : Nat) (a0_0 : Int) (a0_1 : Int) (a0_2 : Bool) (a1 : Int) : (s_catalog_ends_Tick L).run [.agg 87 [.int .i64 a0_0, .int .i64 a0_1, .bool a0_2], .int .i64 a1] = (p_catalog_ends_Tick L a0_0 a0_1 a0_2 a1).map fun r => [.int .i64 r] := specP_run (cCons k87 (cCons (cI .i64) cNil)) (fun x => p_catalog_ends_Tick L x.1.1 x.1.2.1 x.1.2.2.1 x.2.1) (fun r => [.int .i64 r]) ((a0_0, a0_1, a0_2, ()), a1, ())
theorem ok_catalog_ends_Tick (L : Nat) (hL : L ≤ 4611686018427387904) : SpecOk Try.prog 127 (s_catalog_ends_Tick L) := specP_ok mixed (Go_catalog_ends_Tick L hL) (To_catalog_ends_Tick L) fun x r h => ⟨L, 1, e_catalog_ends_Tick L hL x.1.1 x.1.2.1 x.1.2.2.1 x.2.1 r h⟩
def sk_catalog_ends_Tick : Ev.Spec := specK (c := (cCons k87 (cCons (cI .i64) cNil))) (dCons (dA 87 (dCons (dI .i64) (dCons (dI .i64) (dCons dB dNil)))) (dCons (dI .i64) dNil)) (fun x => p_catalog_ends_Tick 1000 x.1.1 x.1.2.1 x.1.2.2.1 x.2.1) (fun r => [.int .i64 r])
theorem okk_catalog_ends_Tick : SpecOk Try.prog 127 sk_catalog_ends_Tick := specK_ok (dCons (dA 87 (dCons (dI .i64) (dCons (dI .i64) (dCons dB dNil)))) (dCons (dI .i64) dNil)) mixed (Go_catalog_ends_Tick 1000 (by decide)) (To_catalog_ends_Tick 1000) fun x r h => ⟨1000, 1, e_catalog_ends_Tick 1000 (by decide) x.1.1 x.1.2.1 x.1.2.2.1 x.2.1 r h⟩
end Go.Proofs.Ytnojehmbiceceaa.P
end
section
set_option linter.unusedVariables false
set_option linter.unusedSimpArgs false
set_option maxRecDepth 100000
namespace Go.Proofs.Ytnojehmbiceceaa.E
open Go.Ev
noncomputable def en188 : Entry := ⟨Try.f188, [(1000001, mb 32 0 []), (1000000, mb 32 0 [6])]⟩
theorem mk188_1000001 (vs : List V) : mask (maskOf en188.ms 1000001) vs = km 32 0 [] vs := mask_mb _ _ _ _
theorem mk188_1000000 (vs : List V) : mask (maskOf en188.ms 1000000) vs = km 32 0 [6] vs := mask_mb _ _ _ _
end Go.Proofs.Ytnojehmbiceceaa.E
end
section
set_option linter.unusedVariables false
set_option linter.unusedSimpArgs false
set_option maxRecDepth 100000
namespace Go.Proofs.Ytnojehmbiceceaa.P
open Go.Ev Go.IntKind Go.Proofs.Ytnojehmbiceceaa Go.Proofs.Ytnojehmbiceceaa.Ty Go.Proofs.Ytnojehmbiceceaa.E
def p_query_between_Tick (L : Nat) (a0_0 : Int) (a0_1 : Int) (a0_2 : Bool) (a1 : Int) (a2 : Int) : Option Int := cb a0_2 (some 1) (if a0_1 < a1 then (some 0) else (if a0_0 > a2 then (some 0) else (if a0_0 ≥ a1 then (if a0_1 ≤ a2 then (some 2) else (some 1)) else (some 1))))
noncomputable def G_query_between_Tick (L : Nat) : Specs := []
noncomputable def T_query_between_Tick : Table := tableOf [(188, en188)]
theorem Go_query_between_Tick (L : Nat) (hL : L ≤ 4611686018427387904) : ∀ g s, Ev.look (G_query_between_Tick L) g = some s → SpecOk Try.prog g s := specs_nil
theorem To_query_between_Tick (L : Nat) : TableOk Try.prog ((G_query_between_Tick L).map (·.1)) T_query_between_Tick := (table_cons Try.func188 (by kernel_rfl) (by kernel_rfl) table_nil)
attribute [local go_sem] Ty.tk3 Ty.ik3 Ty.ek3 Ty.zv3 Ty.by3 Ty.so3 Ty.tk4 Ty.ub4 Ty.ek4 Ty.zv4 Ty.by4 Ty.so4 Ty.tk72 Ty.ik72 Ty.ek72 Ty.zv72 Ty.by72 Ty.so72 Ty.tk87 Ty.ct87 Ty.ek87 Ty.zv87 Ty.by87 Ty.so87 Ty.k87_e E.mk188_1000001 E.mk188_1000000 loopN loops Try.f188
theorem e_query_between_Tick (L : Nat) (hL : L ≤ 4611686018427387904) (a0_0 : Int) (a0_1 : Int) (a0_2 : Bool) (a1 : Int) (a2 : Int) (res : Int) (h : p_query_between_Tick L a0_0 a0_1 a0_2 a1 a2 = some res) : evTop Try.prog (G_query_between_Tick L) T_query_between_Tick L 1 188 [.agg 87 [.int .i64 a0_0, .int .i64 a0_1, .bool a0_2], .int .i64 a1, .int .i64 a2] = some [.int .i64 res] := by
  revert h
  unfold p_query_between_Tick evTop
  simp only [List.map]
  rw [evF_s (fn := Try.f188) (msk := en188.ms) (hT := by rfl) (hb := by rfl)]
  refine cb_i (fun c1 => ?_) (fun c1 => ?_)
  · rintro ⟨⟩
    simp only [go_sem, *]
  · refine ite_i (fun c2 => ?_) (fun c2 => ?_)
    · rintro ⟨⟩
      simp only [go_sem, *]
    · refine ite_i (fun c3 => ?_) (fun c3 => ?_)
      · rintro ⟨⟩
        simp only [go_sem, *]
      · refine ite_i (fun c4 => ?_) (fun c4 => ?_)
        · refine ite_i (fun c5 => ?_) (fun c5 => ?_)
          · rintro ⟨⟩
            simp only [go_sem, *]
          · rintro ⟨⟩
            simp only [go_sem, *]
        · rintro ⟨⟩
          simp only [go_sem, *]
noncomputable def s_query_between_Tick (L : Nat) : Ev.Spec := specP (cCons k87 (cCons (cI .i64) (cCons (cI .i64) cNil))) (fun x => p_query_between_Tick L x.1.1 x.1.2.1 x.1.2.2.1 x.2.1 x.2.2.1) (fun r => [.int .i64 r])
theorem s_query_between_Tick_run (L : Nat) (a0_0 : Int) (a0_1 : Int) (a0_2 : Bool) (a1 : Int) (a2 : Int) : (s_query_between_Tick L).run [.agg 87 [.int .i64 a0_0, .int .i64 a0_1, .bool a0_2], .int .i64 a1, .int .i64 a2] = (p_query_between_Tick L a0_0 a0_1 a0_2 a1 a2).map fun r => [.int .i64 r] := specP_run (cCons k87 (cCons (cI .i64) (cCons (cI .i64) cNil))) (fun x => p_query_between_Tick L x.1.1 x.1.2.1 x.1.2.2.1 x.2.1 x.2.2.1) (fun r => [.int .i64 r]) ((a0_0, a0_1, a0_2, ()), a1, a2, ())
theorem ok_query_between_Tick (L : Nat) (hL : L ≤ 4611686018427387904) : SpecOk Try.prog 188 (s_query_between_Tick L) := specP_ok mixed (Go_query_between_Tick L hL) (To_query_between_Tick L) fun x r h => ⟨L, 1, e_query_between_Tick L hL x.1.1 x.1.2.1 x.1.2.2.1 x.2.1 x.2.2.1 r h⟩
def sk_query_between_Tick : Ev.Spec := specK (c := (cCons k87 (cCons (cI .i64) (cCons (cI .i64) cNil)))) (dCons (dA 87 (dCons (dI .i64) (dCons (dI .i64) (dCons dB dNil)))) (dCons (dI .i64) (dCons (dI .i64) dNil))) (fun x => p_query_between_Tick 1000 x.1.1 x.1.2.1 x.1.2.2.1 x.2.1 x.2.2.1) (fun r => [.int .i64 r])
theorem okk_query_between_Tick : SpecOk Try.prog 188 sk_query_between_Tick := specK_ok (dCons (dA 87 (dCons (dI .i64) (dCons (dI .i64) (dCons dB dNil)))) (dCons (dI .i64) (dCons (dI .i64) dNil))) mixed (Go_query_between_Tick 1000 (by decide)) (To_query_between_Tick 1000) fun x r h => ⟨1000, 1, e_query_between_Tick 1000 (by decide) x.1.1 x.1.2.1 x.1.2.2.1 x.2.1 x.2.2.1 r h⟩
end Go.Proofs.Ytnojehmbiceceaa.P
end
section
set_option linter.unusedVariables false
set_option linter.unusedSimpArgs false
set_option maxRecDepth 100000
namespace Go.Proofs.Ytnojehmbiceceaa.E
open Go.Ev
noncomputable def en189 : Entry := ⟨Try.f189, [(1000001, mb 32 0 []), (1000000, mb 32 0 [6])]⟩
theorem mk189_1000001 (vs : List V) : mask (maskOf en189.ms 1000001) vs = km 32 0 [] vs := mask_mb _ _ _ _
theorem mk189_1000000 (vs : List V) : mask (maskOf en189.ms 1000000) vs = km 32 0 [6] vs := mask_mb _ _ _ _
end Go.Proofs.Ytnojehmbiceceaa.E
end
section
set_option linter.unusedVariables false
set_option linter.unusedSimpArgs false
set_option maxRecDepth 100000
namespace Go.Proofs.Ytnojehmbiceceaa.P
open Go.Ev Go.IntKind Go.Proofs.Ytnojehmbiceceaa Go.Proofs.Ytnojehmbiceceaa.Ty Go.Proofs.Ytnojehmbiceceaa.E
def p_query_between_Quanta (L : Nat) (a0_0 : Int) (a0_1 : Int) (a0_2 : Bool) (a1 : Int) (a2 : Int) : Option Int := cb a0_2 (some 1) (if a0_1 < a1 then (some 0) else (if a0_0 > a2 then (some 0) else (if a0_0 ≥ a1 then (if a0_1 ≤ a2 then (some 2) else (some 1)) else (some 1))))
noncomputable def G_query_between_Quanta (L : Nat) : Specs := []
noncomputable def T_query_between_Quanta : Table := tableOf [(189, en189)]
theorem Go_query_between_Quanta (L : Nat) (hL : L ≤ 4611686018427387904) : ∀ g s, Ev.look (G_query_between_Quanta L) g = some s → SpecOk Try.prog g s := specs_nil
theorem To_query_between_Quanta (L : Nat) : TableOk Try.prog ((G_query_between_Quanta L).map (·.1)) T_query_between_Quanta := (table_cons Try.func189 (by kernel_rfl) (by kernel_rfl) table_nil)
attribute [local go_sem] Ty.tk3 Ty.ik3 Ty.ek3 Ty.zv3 Ty.by3 Ty.so3 Ty.tk4 Ty.ub4 Ty.ek4 Ty.zv4 Ty.by4 Ty.so4 Ty.tk24 Ty.ik24 Ty.ek24 Ty.zv24 Ty.by24 Ty.so24 Ty.tk35 Ty.ct35 Ty.ek35 Ty.zv35 Ty.by35 Ty.so35 Ty.k35_e E.mk189_1000001 E.mk189_1000000 loopN loops Try.f189
theorem e_query_between_Quanta (L : Nat) (hL : L ≤ 4611686018427387904) (a0_0 : Int) (a0_1 : Int) (a0_2 : Bool) (a1 : Int) (a2 : Int) (res : Int) (h : p_query_between_Quanta L a0_0 a0_1 a0_2 a1 a2 = some res) : evTop Try.prog (G_query_between_Quanta L) T_query_between_Quanta L 1 189 [.agg 35 [.int .i64 a0_0, .int .i64 a0_1, .bool a0_2], .int .i64 a1, .int .i64 a2] = some [.int .i64 res] := by
  revert h
  unfold p_query_between_Quanta evTop
  simp only [List.map]
  rw [evF_s (fn := Try.f189) (msk := en189.ms) (hT := by rfl) (hb := by rfl)]
  refine cb_i (fun c1 => ?_) (fun c1 => ?_)
  · rintro ⟨⟩
    simp only [go_sem, *]
  · refine ite_i (fun c2 => ?_) (fun c2 => ?_)
    · rintro ⟨⟩
      simp only [go_sem, *]
    · refine ite_i (fun c3 => ?_) (fun c3 => ?_)
      · rintro ⟨⟩
        simp only [go_sem, *]
      · refine ite_i (fun c4 => ?_) (fun c4 => ?_)
        · refine ite_i (fun c5 => ?_) (fun c5 => ?_)
          · rintro ⟨⟩
            simp only [go_sem, *]
          · rintro ⟨⟩
            simp only [go_sem, *]
        · rintro ⟨⟩
          simp only [go_sem, *]
noncomputable def s_query_between_Quanta (L : Nat) : Ev.Spec := specP (cCons k35 (cCons (cI .i64) (cCons (cI .i64) cNil))) (fun x => p_query_between_Quanta L x.1.1 x.1.2.1 x.1.2.2.1 x.2.1 x.2.2.1) (fun r => [.int .i64 r])
theorem s_query_between_Quanta_run (L : Nat) (a0_0 : Int) (a0_1 : Int) (a0_2 : Bool) (a1 : Int) (a2 : Int) : (s_query_between_Quanta L).run [.agg 35 [.int .i64 a0_0, .int .i64 a0_1, .bool a0_2], .int .i64 a1, .int .i64 a2] = (p_query_between_Quanta L a0_0 a0_1 a0_2 a1 a2).map fun r => [.int .i64 r] := specP_run (cCons k35 (cCons (cI .i64) (cCons (cI .i64) cNil))) (fun x => p_query_between_Quanta L x.1.1 x.1.2.1 x.1.2.2.1 x.2.1 x.2.2.1) (fun r => [.int .i64 r]) ((a0_0, a0_1, a0_2, ()), a1, a2, ())
theorem ok_query_between_Quanta (L : Nat) (hL : L ≤ 4611686018427387904) : SpecOk Try.prog 189 (s_query_between_Quanta L) := specP_ok mixed (Go_query_between_Quanta L hL) (To_query_between_Quanta L) fun x r h => ⟨L, 1, e_query_between_Quanta L hL x.1.1 x.1.2.1 x.1.2.2.1 x.2.1 x.2.2.1 r h⟩
def sk_query_between_Quanta : Ev.Spec := specK (c := (cCons k35 (cCons (cI .i64) (cCons (cI .i64) cNil)))) (dCons (dA 35 (dCons (dI .i64) (dCons (dI .i64) (dCons dB dNil)))) (dCons (dI .i64) (dCons (dI .i64) dNil))) (fun x => p_query_between_Quanta 1000 x.1.1 x.1.2.1 x.1.2.2.1 x.2.1 x.2.2.1) (fun r => [.int .i64 r])
theorem okk_query_between_Quanta : SpecOk Try.prog 189 sk_query_between_Quanta := specK_ok (dCons (dA 35 (dCons (dI .i64) (dCons (dI .i64) (dCons dB dNil)))) (dCons (dI .i64) (dCons (dI .i64) dNil))) mixed (Go_query_between_Quanta 1000 (by decide)) (To_query_between_Quanta 1000) fun x r h => ⟨1000, 1, e_query_between_Quanta 1000 (by decide) x.1.1 x.1.2.1 x.1.2.2.1 x.2.1 x.2.2.1 r h⟩
end Go.Proofs.Ytnojehmbiceceaa.P
end
section
set_option linter.unusedVariables false
set_option linter.unusedSimpArgs false
set_option maxRecDepth 100000
namespace Go.Proofs.Ytnojehmbiceceaa.E
open Go.Ev
noncomputable def en190 : Entry := ⟨Try.f190, [(1000000, mb 17 0 [2]), (2000002, mb 1 0 [0])]⟩
theorem dw190_2 (lv : Nat) (env : List V) (st : Store) (o : Option (List V × Store)) : drawR en190.ms 2 lv env st o = if lv < 1000000000000000000000000000000 then (o) else none := nr rfl
theorem kl190_2 (lv : Nat) (st : Store) : killR en190.ms 2 lv st = st := nr rfl
theorem nc190_2 : ncOf en190.ms 2 = true := nr rfl
theorem mk190_1000000 (vs : List V) : mask (maskOf en190.ms 1000000) vs = km 17 0 [2] vs := mask_mb _ _ _ _
end Go.Proofs.Ytnojehmbiceceaa.E
end
section
set_option linter.unusedVariables false
set_option linter.unusedSimpArgs false
set_option maxRecDepth 100000
namespace Go.Proofs.Ytnojehmbiceceaa.E
open Go.Ev
noncomputable def en231 : Entry := ⟨Try.f231, [(1000000, mb 6 0 [2])]⟩
theorem mk231_1000000 (vs : List V) : mask (maskOf en231.ms 1000000) vs = km 6 0 [2] vs := mask_mb _ _ _ _
end Go.Proofs.Ytnojehmbiceceaa.E
end
section
set_option linter.unusedVariables false
set_option linter.unusedSimpArgs false
set_option maxRecDepth 100000
namespace Go.Proofs.Ytnojehmbiceceaa.P
open Go.Ev Go.IntKind Go.Proofs.Ytnojehmbiceceaa Go.Proofs.Ytnojehmbiceceaa.Ty Go.Proofs.Ytnojehmbiceceaa.E
def p_query_point_1 (L : Nat) (a0 : Int) : Option (Int × Int × Bool) := some (a0, a0, false)
noncomputable def G_query_point_1 (L : Nat) : Specs := []
noncomputable def T_query_point_1 : Table := tableOf [(231, en231)]
theorem Go_query_point_1 (L : Nat) (hL : L ≤ 4611686018427387904) : ∀ g s, Ev.look (G_query_point_1 L) g = some s → SpecOk Try.prog g s := specs_nil
theorem To_query_point_1 (L : Nat) : TableOk Try.prog ((G_query_point_1 L).map (·.1)) T_query_point_1 := (table_cons Try.func231 (by kernel_rfl) (by kernel_rfl) table_nil)
attribute [local go_sem] Ty.tk2 Ty.ik2 Ty.ek2 Ty.zv2 Ty.by2 Ty.so2 Ty.tk4 Ty.ub4 Ty.ek4 Ty.zv4 Ty.by4 Ty.so4 Ty.tk62 Ty.ik62 Ty.ek62 Ty.zv62 Ty.by62 Ty.so62 Ty.tk64 Ty.ct64 Ty.ek64 Ty.zv64 Ty.by64 Ty.so64 Ty.k64_e E.mk231_1000000 loopN loops Try.f231
theorem e_query_point_1 (L : Nat) (hL : L ≤ 4611686018427387904) (a0 : Int) (res : Int × Int × Bool) (h : p_query_point_1 L a0 = some res) : evTop Try.prog (G_query_point_1 L) T_query_point_1 L 1 231 [.int .i64 a0] = some [.agg 64 [.int .i64 res.1, .int .i64 res.2.1, .bool res.2.2]] := by
  revert h
  unfold p_query_point_1 evTop
  simp only [List.map]
  rw [evF_s (fn := Try.f231) (msk := en231.ms) (hT := by rfl) (hb := by rfl)]
  rintro ⟨⟩
  simp only [go_sem, *]
noncomputable def s_query_point_1 (L : Nat) : Ev.Spec := specP (cCons (cI .i64) cNil) (fun x => p_query_point_1 L x.1) (fun r => [.agg 64 [.int .i64 r.1, .int .i64 r.2.1, .bool r.2.2]])
theorem s_query_point_1_run (L : Nat) (a0 : Int) : (s_query_point_1 L).run [.int .i64 a0] = (p_query_point_1 L a0).map fun r => [.agg 64 [.int .i64 r.1, .int .i64 r.2.1, .bool r.2.2]] := specP_run (cCons (cI .i64) cNil) (fun x => p_query_point_1 L x.1) (fun r => [.agg 64 [.int .i64 r.1, .int .i64 r.2.1, .bool r.2.2]]) (a0, ())
theorem ok_query_point_1 (L : Nat) (hL : L ≤ 4611686018427387904) : SpecOk Try.prog 231 (s_query_point_1 L) := specP_ok mixed (Go_query_point_1 L hL) (To_query_point_1 L) fun x r h => ⟨L, 1, e_query_point_1 L hL x.1 r h⟩
end Go.Proofs.Ytnojehmbiceceaa.P
end
section
set_option linter.unusedVariables false
set_option linter.unusedSimpArgs false
set_option maxRecDepth 100000
namespace Go.Proofs.Ytnojehmbiceceaa.P
open Go.Ev Go.IntKind Go.Proofs.Ytnojehmbiceceaa Go.Proofs.Ytnojehmbiceceaa.Ty Go.Proofs.Ytnojehmbiceceaa.E
def p_query_point (L : Nat) (a0_0 : Int) (a0_1 : Int) (a0_2 : Int) : Option (Int × Int × Bool × Int × Int × Bool × Int × Int × Bool) := bnd (p_query_point_1 L a0_0) fun r1 => bnd (p_query_point_1 L a0_1) fun r2 => bnd (p_query_point_1 L a0_2) fun r3 => some (r1.1, r1.2.1, r1.2.2, r2.1, r2.2.1, r2.2.2, r3.1, r3.2.1, r3.2.2)
noncomputable def G_query_point (L : Nat) : Specs := [(231, s_query_point_1 L)]
noncomputable def T_query_point : Table := tableOf [(190, en190)]
theorem Go_query_point (L : Nat) (hL : L ≤ 4611686018427387904) : ∀ g s, Ev.look (G_query_point L) g = some s → SpecOk Try.prog g s := (specs_cons (ok_query_point_1 L hL) specs_nil)
theorem To_query_point (L : Nat) : TableOk Try.prog ((G_query_point L).map (·.1)) T_query_point := (table_cons Try.func190 (by kernel_rfl) (by kernel_rfl) table_nil)
theorem lk_query_point_231 (L : Nat) : Ev.look (G_query_point L) 231 = some (s_query_point_1 L) := nr rfl
attribute [local go_sem] Ty.tk2 Ty.ik2 Ty.ek2 Ty.zv2 Ty.by2 Ty.so2 Ty.tk4 Ty.ub4 Ty.ek4 Ty.zv4 Ty.by4 Ty.so4 Ty.tk62 Ty.ik62 Ty.ek62 Ty.zv62 Ty.by62 Ty.so62 Ty.tk64 Ty.ct64 Ty.ek64 Ty.zv64 Ty.by64 Ty.so64 Ty.tk66 Ty.ct66 Ty.ek66 Ty.zv66 Ty.by66 Ty.so66 Ty.tk165 Ty.ct165 Ty.ek165 Ty.zv165 Ty.by165 Ty.so165 Ty.tk285 Ty.zv285 Ty.by285 Ty.so285 Ty.k64_e Ty.k66_e Ty.k165_e E.dw190_2 E.kl190_2 E.nc190_2 E.mk190_1000000 lk_query_point_231 s_query_point_1_run loopN loops Try.f190
theorem e_query_point (L : Nat) (hL : L ≤ 4611686018427387904) (a0_0 : Int) (a0_1 : Int) (a0_2 : Int) (res : Int × Int × Bool × Int × Int × Bool × Int × Int × Bool) (h : p_query_point L a0_0 a0_1 a0_2 = some res) : evTop Try.prog (G_query_point L) T_query_point L 1 190 [.agg 165 [.int .i64 a0_0, .int .i64 a0_1, .int .i64 a0_2]] = some [.agg 66 [.agg 64 [.int .i64 res.1, .int .i64 res.2.1, .bool res.2.2.1], .agg 64 [.int .i64 res.2.2.2.1, .int .i64 res.2.2.2.2.1, .bool res.2.2.2.2.2.1], .agg 64 [.int .i64 res.2.2.2.2.2.2.1, .int .i64 res.2.2.2.2.2.2.2.1, .bool res.2.2.2.2.2.2.2.2]]] := by
  revert h
  unfold p_query_point evTop
  simp only [List.map]
  rw [evF_s (fn := Try.f190) (msk := en190.ms) (hT := by rfl) (hb := by rfl)]
  refine bnd_i fun r1 c1 => ?_
  refine bnd_i fun r2 c2 => ?_
  refine bnd_i fun r3 c3 => ?_
  rintro ⟨⟩
  simp only [go_sem, *]
noncomputable def s_query_point (L : Nat) : Ev.Spec := specP (cCons k165 cNil) (fun x => p_query_point L x.1.1 x.1.2.1 x.1.2.2.1) (fun r => [.agg 66 [.agg 64 [.int .i64 r.1, .int .i64 r.2.1, .bool r.2.2.1], .agg 64 [.int .i64 r.2.2.2.1, .int .i64 r.2.2.2.2.1, .bool r.2.2.2.2.2.1], .agg 64 [.int .i64 r.2.2.2.2.2.2.1, .int .i64 r.2.2.2.2.2.2.2.1, .bool r.2.2.2.2.2.2.2.2]]])
theorem s_query_point_run (L : Nat) (a0_0 : Int) (a0_1 : Int) (a0_2 : Int) : (s_query_point L).run [.agg 165 [.int .i64 a0_0, .int .i64 a0_1, .int .i64 a0_2]] = (p_query_point L a0_0 a0_1 a0_2).map fun r => [.agg 66 [.agg 64 [.int .i64 r.1, .int .i64 r.2.1, .bool r.2.2.1], .agg 64 [.int .i64 r.2.2.2.1, .int .i64 r.2.2.2.2.1, .bool r.2.2.2.2.2.1], .agg 64 [.int .i64 r.2.2.2.2.2.2.1, .int .i64 r.2.2.2.2.2.2.2.1, .bool r.2.2.2.2.2.2.2.2]]] := specP_run (cCons k165 cNil) (fun x => p_query_point L x.1.1 x.1.2.1 x.1.2.2.1) (fun r => [.agg 66 [.agg 64 [.int .i64 r.1, .int .i64 r.2.1, .bool r.2.2.1], .agg 64 [.int .i64 r.2.2.2.1, .int .i64 r.2.2.2.2.1, .bool r.2.2.2.2.2.1], .agg 64 [.int .i64 r.2.2.2.2.2.2.1, .int .i64 r.2.2.2.2.2.2.2.1, .bool r.2.2.2.2.2.2.2.2]]]) ((a0_0, a0_1, a0_2, ()), ())
theorem ok_query_point (L : Nat) (hL : L ≤ 4611686018427387904) : SpecOk Try.prog 190 (s_query_point L) := specP_ok mixed (Go_query_point L hL) (To_query_point L) fun x r h => ⟨L, 1, e_query_point L hL x.1.1 x.1.2.1 x.1.2.2.1 r h⟩
def sk_query_point : Ev.Spec := specK (c := (cCons k165 cNil)) (dCons (dA 165 (dCons (dI .i64) (dCons (dI .i64) (dCons (dI .i64) dNil)))) dNil) (fun x => p_query_point 1000 x.1.1 x.1.2.1 x.1.2.2.1) (fun r => [.agg 66 [.agg 64 [.int .i64 r.1, .int .i64 r.2.1, .bool r.2.2.1], .agg 64 [.int .i64 r.2.2.2.1, .int .i64 r.2.2.2.2.1, .bool r.2.2.2.2.2.1], .agg 64 [.int .i64 r.2.2.2.2.2.2.1, .int .i64 r.2.2.2.2.2.2.2.1, .bool r.2.2.2.2.2.2.2.2]]])
theorem okk_query_point : SpecOk Try.prog 190 sk_query_point := specK_ok (dCons (dA 165 (dCons (dI .i64) (dCons (dI .i64) (dCons (dI .i64) dNil)))) dNil) mixed (Go_query_point 1000 (by decide)) (To_query_point 1000) fun x r h => ⟨1000, 1, e_query_point 1000 (by decide) x.1.1 x.1.2.1 x.1.2.2.1 r h⟩
end Go.Proofs.Ytnojehmbiceceaa.P
end
section
set_option linter.unusedVariables false
set_option linter.unusedSimpArgs false
set_option maxRecDepth 100000
namespace Go.Proofs.Ytnojehmbiceceaa.E
open Go.Ev
noncomputable def en33 : Entry := ⟨Try.f33, [(0, mb 128 0 [2, 7, 9, 11, 12, 13, 14, 15, 16, 43]), (1000001, mb 128 0 [2, 11, 12, 13, 14, 15, 16]), (1000002, mb 128 0 [2, 7, 9, 11, 12, 13, 14, 15, 16, 43]), (1000003, mb 128 0 []), (1000000, mb 128 0 [6])]⟩
theorem dw33_11 (lv : Nat) (env : List V) (st : Store) (o : Option (List V × Store)) : drawR en33.ms 11 lv env st o = if lv < 1000000000000000000000000000000 then (o) else none := nr rfl
theorem kl33_11 (lv : Nat) (st : Store) : killR en33.ms 11 lv st = st := nr rfl
theorem nc33_11 : ncOf en33.ms 11 = false := nr rfl
theorem mk33_0 (vs : List V) : mask (maskOf en33.ms 0) vs = km 128 0 [2, 7, 9, 11, 12, 13, 14, 15, 16, 43] vs := mask_mb _ _ _ _
theorem mk33_1000001 (vs : List V) : mask (maskOf en33.ms 1000001) vs = km 128 0 [2, 11, 12, 13, 14, 15, 16] vs := mask_mb _ _ _ _
theorem mk33_1000002 (vs : List V) : mask (maskOf en33.ms 1000002) vs = km 128 0 [2, 7, 9, 11, 12, 13, 14, 15, 16, 43] vs := mask_mb _ _ _ _
theorem mk33_1000003 (vs : List V) : mask (maskOf en33.ms 1000003) vs = km 128 0 [] vs := mask_mb _ _ _ _
theorem mk33_1000000 (vs : List V) : mask (maskOf en33.ms 1000000) vs = km 128 0 [6] vs := mask_mb _ _ _ _
theorem fz33_0 (lv : Nat) (f : Run) : frzF en33.ms lv 0 f = f := nr rfl
theorem fi33_0 (lv : Nat) (env : List V) (st : Store) (q : Store → Out) : frzI en33.ms lv 0 env st q = q st := nr rfl
noncomputable def lb33_0 : Code := loopN Try.f33 0
end Go.Proofs.Ytnojehmbiceceaa.E
end
section
set_option linter.unusedVariables false
set_option linter.unusedSimpArgs false
set_option maxRecDepth 100000
namespace Go.Proofs.Ytnojehmbiceceaa.E
open Go.Ev
noncomputable def en106 : Entry := ⟨Try.f106, [(0, mb 40 0 [2, 4, 14, 15]), (1000001, mb 40 0 [2, 4]), (1000002, mb 40 0 [2, 4, 14, 15]), (1000000, mb 40 0 [2, 3])]⟩
theorem mk106_0 (vs : List V) : mask (maskOf en106.ms 0) vs = km 40 0 [2, 4, 14, 15] vs := mask_mb _ _ _ _
theorem mk106_1000001 (vs : List V) : mask (maskOf en106.ms 1000001) vs = km 40 0 [2, 4] vs := mask_mb _ _ _ _
theorem mk106_1000002 (vs : List V) : mask (maskOf en106.ms 1000002) vs = km 40 0 [2, 4, 14, 15] vs := mask_mb _ _ _ _
theorem mk106_1000000 (vs : List V) : mask (maskOf en106.ms 1000000) vs = km 40 0 [2, 3] vs := mask_mb _ _ _ _
theorem fz106_0 (lv : Nat) (f : Run) : frzF en106.ms lv 0 f = f := nr rfl
theorem fi106_0 (lv : Nat) (env : List V) (st : Store) (q : Store → Out) : frzI en106.ms lv 0 env st q = q st := nr rfl
noncomputable def lb106_0 : Code := loopN Try.f106 0
end Go.Proofs.Ytnojehmbiceceaa.E
end
section
set_option linter.unusedVariables false
set_option linter.unusedSimpArgs false
set_option maxRecDepth 100000
namespace Go.Proofs.Ytnojehmbiceceaa.P
open Go.Ev Go.IntKind Go.Proofs.Ytnojehmbiceceaa Go.Proofs.Ytnojehmbiceceaa.Ty Go.Proofs.Ytnojehmbiceceaa.E
def p_query_sides_l0 (L : Nat) (a0_0_0 : Int) (a0_0_1 : Int) (a0_0_2 : Bool) (a0_1_0 : Int) (a0_1_1 : Int) (a0_1_2 : Bool) (a0_2_0 : Int) (a0_2_1 : Int) (a0_2_2 : Bool) : Nat → Int → Option (Sum Unit Unit)
  | 0, s2 => some (.inl ())
  | tl + 1, s2 => cb (decide (s2 = 0)) (cb a0_0_2 (some (.inr ())) (if a0_0_0 > a0_0_1 then (some (.inr ())) else (if a0_0_0 < (-1073741824) then (some (.inr ())) else (if a0_0_1 > 1073741824 then (some (.inr ())) else (p_query_sides_l0 L a0_0_0 a0_0_1 a0_0_2 a0_1_0 a0_1_1 a0_1_2 a0_2_0 a0_2_1 a0_2_2 tl (s2 + 1)))))) (cb (decide (s2 = 1)) (cb a0_1_2 (some (.inr ())) (if a0_1_0 > a0_1_1 then (some (.inr ())) else (if a0_1_0 < (-1073741824) then (some (.inr ())) else (if a0_1_1 > 1073741824 then (some (.inr ())) else (p_query_sides_l0 L a0_0_0 a0_0_1 a0_0_2 a0_1_0 a0_1_1 a0_1_2 a0_2_0 a0_2_1 a0_2_2 tl (s2 + 1)))))) (cb (decide (s2 = 2)) (cb a0_2_2 (some (.inr ())) (if a0_2_0 > a0_2_1 then (some (.inr ())) else (if a0_2_0 < (-1073741824) then (some (.inr ())) else (if a0_2_1 > 1073741824 then (some (.inr ())) else (p_query_sides_l0 L a0_0_0 a0_0_1 a0_0_2 a0_1_0 a0_1_1 a0_1_2 a0_2_0 a0_2_1 a0_2_2 tl (s2 + 1)))))) (none)))
def p_query_sides (L : Nat) (a0_0_0 : Int) (a0_0_1 : Int) (a0_0_2 : Bool) (a0_1_0 : Int) (a0_1_1 : Int) (a0_1_2 : Bool) (a0_2_0 : Int) (a0_2_1 : Int) (a0_2_2 : Bool) : Option (Int × Int × Bool × Int × Int × Bool × Int × Int × Bool × Bool) := rq (3 < L) <| bnd (p_query_sides_l0 L a0_0_0 a0_0_1 a0_0_2 a0_1_0 a0_1_1 a0_1_2 a0_2_0 a0_2_1 a0_2_2 3 0) fun o3 => match o3 with | (.inl o3_0) => (some (a0_0_0, a0_0_1, a0_0_2, a0_1_0, a0_1_1, a0_1_2, a0_2_0, a0_2_1, a0_2_2, true)) | (.inr o3_1) => (some (a0_0_0, a0_0_1, a0_0_2, a0_1_0, a0_1_1, a0_1_2, a0_2_0, a0_2_1, a0_2_2, false))
noncomputable def G_query_sides (L : Nat) : Specs := []
noncomputable def T_query_sides : Table := tableOf [(106, en106)]
theorem Go_query_sides (L : Nat) (hL : L ≤ 4611686018427387904) : ∀ g s, Ev.look (G_query_sides L) g = some s → SpecOk Try.prog g s := specs_nil
theorem To_query_sides (L : Nat) : TableOk Try.prog ((G_query_sides L).map (·.1)) T_query_sides := (table_cons Try.func106 (by kernel_rfl) (by kernel_rfl) table_nil)
attribute [local go_sem] Ty.tk3 Ty.ik3 Ty.ek3 Ty.zv3 Ty.by3 Ty.so3 Ty.tk4 Ty.ub4 Ty.ek4 Ty.zv4 Ty.by4 Ty.so4 Ty.tk62 Ty.ik62 Ty.ek62 Ty.zv62 Ty.by62 Ty.so62 Ty.tk64 Ty.ct64 Ty.ek64 Ty.zv64 Ty.by64 Ty.so64 Ty.tk66 Ty.ct66 Ty.ek66 Ty.zv66 Ty.by66 Ty.so66 Ty.tk168 Ty.ct168 Ty.zv168 Ty.by168 Ty.so168 Ty.k64_e Ty.k66_e Ty.k168_e E.mk106_0 E.mk106_1000001 E.mk106_1000002 E.mk106_1000000 E.fz106_0 E.fi106_0 E.lb106_0 loopN loops Try.f106
def Q0_p_query_sides_l0 (a0_0_0 : Int) (a0_0_1 : Int) (a0_0_2 : Bool) (a0_1_0 : Int) (a0_1_1 : Int) (a0_1_2 : Bool) (a0_2_0 : Int) (a0_2_1 : Int) (a0_2_2 : Bool) (u : Unit) (z : Out) : Prop := ∃ env st, z = some (.exit 0, env, st) ∧ env = sp 40 0 [(2, .p (0, 2) (st (0, 2)).ver 0 []), (4, .p (0, 4) (st (0, 4)).ver 0 [])] ∧ Bk (st (0, 2)) 168 [.d (.agg 168 [.agg 64 [.int .i64 0, .int .i64 0, .bool false], .agg 64 [.int .i64 0, .int .i64 0, .bool false], .agg 64 [.int .i64 0, .int .i64 0, .bool false]])] ∧ Bk (st (0, 4)) 168 [.d (.agg 168 [.agg 64 [.int .i64 a0_0_0, .int .i64 a0_0_1, .bool a0_0_2], .agg 64 [.int .i64 a0_1_0, .int .i64 a0_1_1, .bool a0_1_2], .agg 64 [.int .i64 a0_2_0, .int .i64 a0_2_1, .bool a0_2_2]])]
def Q1_p_query_sides_l0 (a0_0_0 : Int) (a0_0_1 : Int) (a0_0_2 : Bool) (a0_1_0 : Int) (a0_1_1 : Int) (a0_1_2 : Bool) (a0_2_0 : Int) (a0_2_1 : Int) (a0_2_2 : Bool) (u : Unit) (z : Out) : Prop := ∃ env st, z = some (.ret, env, st) ∧ env = sp 40 0 [(2, .p (0, 2) (st (0, 2)).ver 0 []), (3, .d (.bool false))] ∧ Bk (st (0, 2)) 168 [.d (.agg 168 [.agg 64 [.int .i64 a0_0_0, .int .i64 a0_0_1, .bool a0_0_2], .agg 64 [.int .i64 a0_1_0, .int .i64 a0_1_1, .bool a0_1_2], .agg 64 [.int .i64 a0_2_0, .int .i64 a0_2_1, .bool a0_2_2]])]
def Q_p_query_sides_l0 (a0_0_0 : Int) (a0_0_1 : Int) (a0_0_2 : Bool) (a0_1_0 : Int) (a0_1_1 : Int) (a0_1_2 : Bool) (a0_2_0 : Int) (a0_2_1 : Int) (a0_2_2 : Bool) (o : Sum Unit Unit) (z : Out) : Prop := match o with | (.inl u) => Q0_p_query_sides_l0 a0_0_0 a0_0_1 a0_0_2 a0_1_0 a0_1_1 a0_1_2 a0_2_0 a0_2_1 a0_2_2 u z | (.inr u) => Q1_p_query_sides_l0 a0_0_0 a0_0_1 a0_0_2 a0_1_0 a0_1_1 a0_1_2 a0_2_0 a0_2_1 a0_2_2 u z
theorem l_p_query_sides_l0 (L : Nat) (hL : L ≤ 4611686018427387904) (a0_0_0 : Int) (a0_0_1 : Int) (a0_0_2 : Bool) (a0_1_0 : Int) (a0_1_1 : Int) (a0_1_2 : Bool) (a0_2_0 : Int) (a0_2_1 : Int) (a0_2_2 : Bool) : ∀ (tl n : Nat) (s2 : Int) (env : List V) (st : Store) (o : Sum Unit Unit), tl < n → Cnt 3 s2 tl → mask (maskOf en106.ms 0) env = sp 40 0 [(2, .p (0, 2) (st (0, 2)).ver 0 []), (4, .p (0, 4) (st (0, 4)).ver 0 []), (14, .d (.agg 168 [.agg 64 [.int .i64 a0_0_0, .int .i64 a0_0_1, .bool a0_0_2], .agg 64 [.int .i64 a0_1_0, .int .i64 a0_1_1, .bool a0_1_2], .agg 64 [.int .i64 a0_2_0, .int .i64 a0_2_1, .bool a0_2_2]])), (15, .d (.int .i64 s2))] → Bk (st (0, 2)) 168 [.d (.agg 168 [.agg 64 [.int .i64 0, .int .i64 0, .bool false], .agg 64 [.int .i64 0, .int .i64 0, .bool false], .agg 64 [.int .i64 0, .int .i64 0, .bool false]])] → Bk (st (0, 4)) 168 [.d (.agg 168 [.agg 64 [.int .i64 a0_0_0, .int .i64 a0_0_1, .bool a0_0_2], .agg 64 [.int .i64 a0_1_0, .int .i64 a0_1_1, .bool a0_1_2], .agg 64 [.int .i64 a0_2_0, .int .i64 a0_2_1, .bool a0_2_2]])] → p_query_sides_l0 L a0_0_0 a0_0_1 a0_0_2 a0_1_0 a0_1_1 a0_1_2 a0_2_0 a0_2_1 a0_2_2 tl s2  = some o →
    Q_p_query_sides_l0 a0_0_0 a0_0_1 a0_0_2 a0_1_0 a0_1_1 a0_1_2 a0_2_0 a0_2_1 a0_2_2 o (iter (evC Try.prog (G_query_sides L) (evF Try.prog (G_query_sides L) T_query_sides L 0) L en106.ms 0 0 lb106_0) (maskOf en106.ms 0) n env st) := by
  intro tl
  induction tl with
  | zero =>
    intro n s2  env st o hn hR he hb0 hb1 h
    obtain ⟨n, rfl⟩ : ∃ m, n = m + 1 := ⟨n - 1, by omega⟩
    obtain ⟨be0, bv0, bl0⟩ := hb0
    obtain ⟨be1, bv1, bl1⟩ := hb1
    generalize hQ : Q_p_query_sides_l0 a0_0_0 a0_0_1 a0_0_2 a0_1_0 a0_1_1 a0_1_2 a0_2_0 a0_2_1 a0_2_2 = Q
    have g0 := cnt_nil hR
    rw [iter, he]
    clear he
    generalize hK : iter _ _ n = K
    rw [p_query_sides_l0] at h
    revert h
    rintro ⟨⟩
    simp only [go_sem, *]
    subst hQ
    refine (⟨_, _, rfl, ?_, ?_, ?_⟩ : Q0_p_query_sides_l0 _ _ _ _ _ _ _ _ _ _ _)
    all_goals simp only [go_sem, *]
  | succ tl ih =>
    intro n s2  env st o hn hR he hb0 hb1 h
    obtain ⟨n, rfl⟩ : ∃ m, n = m + 1 := ⟨n - 1, by omega⟩
    obtain ⟨be0, bv0, bl0⟩ := hb0
    obtain ⟨be1, bv1, bl1⟩ := hb1
    generalize hQ : Q_p_query_sides_l0 a0_0_0 a0_0_1 a0_0_2 a0_1_0 a0_1_1 a0_1_2 a0_2_0 a0_2_1 a0_2_2 = Q at ih ⊢
    replace ih : Hold _ := ih
    replace hR := cnt_s hR
    obtain ⟨g0, g1, g3, hR⟩ := hR
    rw [iter, he]
    clear he
    generalize hK : iter _ _ n = K
    rw [p_query_sides_l0] at h
    revert h
    refine cb_i (fun c1 => ?_) (fun c1 => ?_)
    · have c2 : 0 ≤ s2 := by have := of_decide_eq_true c1; omega
      have c3 : s2 < 3 := by have := of_decide_eq_true c1; omega
      have c4 : s2.toNat = 0 := by have := of_decide_eq_true c1; omega
      refine cb_i (fun c5 => ?_) (fun c5 => ?_)
      · rintro ⟨⟩
        simp only [go_sem, *]
        subst hQ
        refine (⟨_, _, rfl, ?_, ?_⟩ : Q1_p_query_sides_l0 _ _ _ _ _ _ _ _ _ _ _)
        all_goals simp only [go_sem, *]
      · refine ite_i (fun c6 => ?_) (fun c6 => ?_)
        · rintro ⟨⟩
          simp only [go_sem, *]
          subst hQ
          refine (⟨_, _, rfl, ?_, ?_⟩ : Q1_p_query_sides_l0 _ _ _ _ _ _ _ _ _ _ _)
          all_goals simp only [go_sem, *]
        · refine ite_i (fun c7 => ?_) (fun c7 => ?_)
          · rintro ⟨⟩
            simp only [go_sem, *]
            subst hQ
            refine (⟨_, _, rfl, ?_, ?_⟩ : Q1_p_query_sides_l0 _ _ _ _ _ _ _ _ _ _ _)
            all_goals simp only [go_sem, *]
          · refine ite_i (fun c8 => ?_) (fun c8 => ?_)
            · rintro ⟨⟩
              simp only [go_sem, *]
              subst hQ
              refine (⟨_, _, rfl, ?_, ?_⟩ : Q1_p_query_sides_l0 _ _ _ _ _ _ _ _ _ _ _)
              all_goals simp only [go_sem, *]
            · intro h
              simp only [go_sem, *]
              subst hK
              refine ih n (s2 + 1)  _ _ _ (by omega) hR ?_ ?_ ?_ h
              all_goals simp only [go_sem, *]
    · refine cb_i (fun c9 => ?_) (fun c9 => ?_)
      · have c10 : 0 ≤ s2 := by have := of_decide_eq_true c9; omega
        have c11 : s2 < 3 := by have := of_decide_eq_true c9; omega
        have c12 : s2.toNat = 1 := by have := of_decide_eq_true c9; omega
        refine cb_i (fun c13 => ?_) (fun c13 => ?_)
        · rintro ⟨⟩
          simp only [go_sem, *]
          subst hQ
          refine (⟨_, _, rfl, ?_, ?_⟩ : Q1_p_query_sides_l0 _ _ _ _ _ _ _ _ _ _ _)
          all_goals simp only [go_sem, *]
        · refine ite_i (fun c14 => ?_) (fun c14 => ?_)
          · rintro ⟨⟩
            simp only [go_sem, *]
            subst hQ
            refine (⟨_, _, rfl, ?_, ?_⟩ : Q1_p_query_sides_l0 _ _ _ _ _ _ _ _ _ _ _)
            all_goals simp only [go_sem, *]
          · refine ite_i (fun c15 => ?_) (fun c15 => ?_)
            · rintro ⟨⟩
              simp only [go_sem, *]
              subst hQ
              refine (⟨_, _, rfl, ?_, ?_⟩ : Q1_p_query_sides_l0 _ _ _ _ _ _ _ _ _ _ _)
              all_goals simp only [go_sem, *]
            · refine ite_i (fun c16 => ?_) (fun c16 => ?_)
              · rintro ⟨⟩
                simp only [go_sem, *]
                subst hQ
                refine (⟨_, _, rfl, ?_, ?_⟩ : Q1_p_query_sides_l0 _ _ _ _ _ _ _ _ _ _ _)
                all_goals simp only [go_sem, *]
              · intro h
                simp only [go_sem, *]
                subst hK
                refine ih n (s2 + 1)  _ _ _ (by omega) hR ?_ ?_ ?_ h
                all_goals simp only [go_sem, *]
      · refine cb_i (fun c17 => ?_) (fun c17 => ?_)
        · have c18 : 0 ≤ s2 := by have := of_decide_eq_true c17; omega
          have c19 : s2 < 3 := by have := of_decide_eq_true c17; omega
          have c20 : s2.toNat = 2 := by have := of_decide_eq_true c17; omega
          refine cb_i (fun c21 => ?_) (fun c21 => ?_)
          · rintro ⟨⟩
            simp only [go_sem, *]
            subst hQ
            refine (⟨_, _, rfl, ?_, ?_⟩ : Q1_p_query_sides_l0 _ _ _ _ _ _ _ _ _ _ _)
            all_goals simp only [go_sem, *]
          · refine ite_i (fun c22 => ?_) (fun c22 => ?_)
            · rintro ⟨⟩
              simp only [go_sem, *]
              subst hQ
              refine (⟨_, _, rfl, ?_, ?_⟩ : Q1_p_query_sides_l0 _ _ _ _ _ _ _ _ _ _ _)
              all_goals simp only [go_sem, *]
            · refine ite_i (fun c23 => ?_) (fun c23 => ?_)
              · rintro ⟨⟩
                simp only [go_sem, *]
                subst hQ
                refine (⟨_, _, rfl, ?_, ?_⟩ : Q1_p_query_sides_l0 _ _ _ _ _ _ _ _ _ _ _)
                all_goals simp only [go_sem, *]
              · refine ite_i (fun c24 => ?_) (fun c24 => ?_)
                · rintro ⟨⟩
                  simp only [go_sem, *]
                  subst hQ
                  refine (⟨_, _, rfl, ?_, ?_⟩ : Q1_p_query_sides_l0 _ _ _ _ _ _ _ _ _ _ _)
                  all_goals simp only [go_sem, *]
                · intro h
                  simp only [go_sem, *]
                  subst hK
                  refine ih n (s2 + 1)  _ _ _ (by omega) hR ?_ ?_ ?_ h
                  all_goals simp only [go_sem, *]
        · intro h; cases h
theorem e_query_sides (L : Nat) (hL : L ≤ 4611686018427387904) (a0_0_0 : Int) (a0_0_1 : Int) (a0_0_2 : Bool) (a0_1_0 : Int) (a0_1_1 : Int) (a0_1_2 : Bool) (a0_2_0 : Int) (a0_2_1 : Int) (a0_2_2 : Bool) (res : Int × Int × Bool × Int × Int × Bool × Int × Int × Bool × Bool) (h : p_query_sides L a0_0_0 a0_0_1 a0_0_2 a0_1_0 a0_1_1 a0_1_2 a0_2_0 a0_2_1 a0_2_2 = some res) : evTop Try.prog (G_query_sides L) T_query_sides L 1 106 [.agg 66 [.agg 64 [.int .i64 a0_0_0, .int .i64 a0_0_1, .bool a0_0_2], .agg 64 [.int .i64 a0_1_0, .int .i64 a0_1_1, .bool a0_1_2], .agg 64 [.int .i64 a0_2_0, .int .i64 a0_2_1, .bool a0_2_2]]] = some [.agg 168 [.agg 64 [.int .i64 res.1, .int .i64 res.2.1, .bool res.2.2.1], .agg 64 [.int .i64 res.2.2.2.1, .int .i64 res.2.2.2.2.1, .bool res.2.2.2.2.2.1], .agg 64 [.int .i64 res.2.2.2.2.2.2.1, .int .i64 res.2.2.2.2.2.2.2.1, .bool res.2.2.2.2.2.2.2.2.1]], .bool res.2.2.2.2.2.2.2.2.2] := by
  revert h
  unfold p_query_sides evTop
  simp only [List.map]
  rw [evF_s (fn := Try.f106) (msk := en106.ms) (hT := by rfl) (hb := by rfl)]
  refine rq_i fun c1 => ?_
  refine bnd_i fun o3 ho2 => ?_
  intro h
  simp only [go_sem, *]
  generalize hz4 : iter _ _ _ _ _ = z3
  have hq5 : Q_p_query_sides_l0 a0_0_0 a0_0_1 a0_0_2 a0_1_0 a0_1_1 a0_1_2 a0_2_0 a0_2_1 a0_2_2 o3 z3 := by
    rw [← hz4]
    refine l_p_query_sides_l0 L hL a0_0_0 a0_0_1 a0_0_2 a0_1_0 a0_1_1 a0_1_2 a0_2_0 a0_2_1 a0_2_2 _ L 0  _ _ _ c1 (cnt_0 (by decide) (by decide)) ?_ ?_ ?_ ho2
    all_goals simp only [go_sem, *]
  clear hz4 ho2
  rcases o3 with o3_0 | o3_1
  · obtain ⟨_, st4, rfl, rfl, ⟨k61, k62, k63⟩, ⟨k71, k72, k73⟩⟩ := hq5
    dsimp only at h
    revert h
    rintro ⟨⟩
    simp only [go_sem, *]
  · obtain ⟨_, st5, rfl, rfl, ⟨k81, k82, k83⟩⟩ := hq5
    dsimp only at h
    revert h
    rintro ⟨⟩
    simp only [go_sem, *]
noncomputable def s_query_sides (L : Nat) : Ev.Spec := specP (cCons k66 cNil) (fun x => p_query_sides L x.1.1.1 x.1.1.2.1 x.1.1.2.2.1 x.1.2.1.1 x.1.2.1.2.1 x.1.2.1.2.2.1 x.1.2.2.1.1 x.1.2.2.1.2.1 x.1.2.2.1.2.2.1) (fun r => [.agg 168 [.agg 64 [.int .i64 r.1, .int .i64 r.2.1, .bool r.2.2.1], .agg 64 [.int .i64 r.2.2.2.1, .int .i64 r.2.2.2.2.1, .bool r.2.2.2.2.2.1], .agg 64 [.int .i64 r.2.2.2.2.2.2.1, .int .i64 r.2.2.2.2.2.2.2.1, .bool r.2.2.2.2.2.2.2.2.1]], .bool r.2.2.2.2.2.2.2.2.2])
theorem s_query_sides_run (L : Nat) (a0_0_0 : Int) (a0_0_1 : Int) (a0_0_2 : Bool) (a0_1_0 : Int) (a0_1_1 : Int) (a0_1_2 : Bool) (a0_2_0 : Int) (a0_2_1 : Int) (a0_2_2 : Bool) : (s_query_sides L).run [.agg 66 [.agg 64 [.int .i64 a0_0_0, .int .i64 a0_0_1, .bool a0_0_2], .agg 64 [.int .i64 a0_1_0, .int .i64 a0_1_1, .bool a0_1_2], .agg 64 [.int .i64 a0_2_0, .int .i64 a0_2_1, .bool a0_2_2]]] = (p_query_sides L a0_0_0 a0_0_1 a0_0_2 a0_1_0 a0_1_1 a0_1_2 a0_2_0 a0_2_1 a0_2_2).map fun r => [.agg 168 [.agg 64 [.int .i64 r.1, .int .i64 r.2.1, .bool r.2.2.1], .agg 64 [.int .i64 r.2.2.2.1, .int .i64 r.2.2.2.2.1, .bool r.2.2.2.2.2.1], .agg 64 [.int .i64 r.2.2.2.2.2.2.1, .int .i64 r.2.2.2.2.2.2.2.1, .bool r.2.2.2.2.2.2.2.2.1]], .bool r.2.2.2.2.2.2.2.2.2] := specP_run (cCons k66 cNil) (fun x => p_query_sides L x.1.1.1 x.1.1.2.1 x.1.1.2.2.1 x.1.2.1.1 x.1.2.1.2.1 x.1.2.1.2.2.1 x.1.2.2.1.1 x.1.2.2.1.2.1 x.1.2.2.1.2.2.1) (fun r => [.agg 168 [.agg 64 [.int .i64 r.1, .int .i64 r.2.1, .bool r.2.2.1], .agg 64 [.int .i64 r.2.2.2.1, .int .i64 r.2.2.2.2.1, .bool r.2.2.2.2.2.1], .agg 64 [.int .i64 r.2.2.2.2.2.2.1, .int .i64 r.2.2.2.2.2.2.2.1, .bool r.2.2.2.2.2.2.2.2.1]], .bool r.2.2.2.2.2.2.2.2.2]) (((a0_0_0, a0_0_1, a0_0_2, ()), (a0_1_0, a0_1_1, a0_1_2, ()), (a0_2_0, a0_2_1, a0_2_2, ()), ()), ())
theorem ok_query_sides (L : Nat) (hL : L ≤ 4611686018427387904) : SpecOk Try.prog 106 (s_query_sides L) := specP_ok mixed (Go_query_sides L hL) (To_query_sides L) fun x r h => ⟨L, 1, e_query_sides L hL x.1.1.1 x.1.1.2.1 x.1.1.2.2.1 x.1.2.1.1 x.1.2.1.2.1 x.1.2.1.2.2.1 x.1.2.2.1.1 x.1.2.2.1.2.1 x.1.2.2.1.2.2.1 r h⟩
end Go.Proofs.Ytnojehmbiceceaa.P
end
section
set_option linter.unusedVariables false
set_option linter.unusedSimpArgs false
set_option maxRecDepth 100000
namespace Go.Proofs.Ytnojehmbiceceaa.E
open Go.Ev
noncomputable def en107 : Entry := ⟨Try.f107, [(1000000, mb 40 0 [4, 5])]⟩
theorem dw107_1 (lv : Nat) (env : List V) (st : Store) (o : Option (List V × Store)) : drawR en107.ms 1 lv env st o = if lv < 1000000000000000000000000000000 then (o) else none := nr rfl
theorem kl107_1 (lv : Nat) (st : Store) : killR en107.ms 1 lv st = st := nr rfl
theorem nc107_1 : ncOf en107.ms 1 = false := nr rfl
theorem dw107_2 (lv : Nat) (env : List V) (st : Store) (o : Option (List V × Store)) : drawR en107.ms 2 lv env st o = if lv < 1000000000000000000000000000000 then (o) else none := nr rfl
theorem kl107_2 (lv : Nat) (st : Store) : killR en107.ms 2 lv st = st := nr rfl
theorem nc107_2 : ncOf en107.ms 2 = false := nr rfl
theorem mk107_1000000 (vs : List V) : mask (maskOf en107.ms 1000000) vs = km 40 0 [4, 5] vs := mask_mb _ _ _ _
end Go.Proofs.Ytnojehmbiceceaa.E
end
section
set_option linter.unusedVariables false
set_option linter.unusedSimpArgs false
set_option maxRecDepth 100000
namespace Go.Proofs.Ytnojehmbiceceaa.P
open Go.Ev Go.IntKind Go.Proofs.Ytnojehmbiceceaa Go.Proofs.Ytnojehmbiceceaa.Ty Go.Proofs.Ytnojehmbiceceaa.E
def p_query_product (L : Nat) (a0_0 : Int) (a0_1 : Int) (a0_2 : Bool) (a1_0 : Int) (a1_1 : Int) (a1_2 : Bool) : Option (Int × Int) := some ((minI (minI (minI (i64.wrap (a0_0 * a1_0)) (i64.wrap (a0_0 * a1_1))) (i64.wrap (a0_1 * a1_0))) (i64.wrap (a0_1 * a1_1))), (maxI (maxI (maxI (i64.wrap (a0_0 * a1_0)) (i64.wrap (a0_0 * a1_1))) (i64.wrap (a0_1 * a1_0))) (i64.wrap (a0_1 * a1_1))))
noncomputable def G_query_product (L : Nat) : Specs := []
noncomputable def T_query_product : Table := tableOf [(107, en107)]
theorem Go_query_product (L : Nat) (hL : L ≤ 4611686018427387904) : ∀ g s, Ev.look (G_query_product L) g = some s → SpecOk Try.prog g s := specs_nil
theorem To_query_product (L : Nat) : TableOk Try.prog ((G_query_product L).map (·.1)) T_query_product := (table_cons Try.func107 (by kernel_rfl) (by kernel_rfl) table_nil)
attribute [local go_sem] Ty.tk2 Ty.ik2 Ty.ek2 Ty.zv2 Ty.by2 Ty.so2 Ty.tk4 Ty.ub4 Ty.ek4 Ty.zv4 Ty.by4 Ty.so4 Ty.tk62 Ty.ik62 Ty.ek62 Ty.zv62 Ty.by62 Ty.so62 Ty.tk64 Ty.ct64 Ty.ek64 Ty.zv64 Ty.by64 Ty.so64 Ty.k64_e E.dw107_1 E.kl107_1 E.nc107_1 E.dw107_2 E.kl107_2 E.nc107_2 E.mk107_1000000 loopN loops Try.f107
theorem e_query_product (L : Nat) (hL : L ≤ 4611686018427387904) (a0_0 : Int) (a0_1 : Int) (a0_2 : Bool) (a1_0 : Int) (a1_1 : Int) (a1_2 : Bool) (res : Int × Int) (h : p_query_product L a0_0 a0_1 a0_2 a1_0 a1_1 a1_2 = some res) : evTop Try.prog (G_query_product L) T_query_product L 1 107 [.agg 64 [.int .i64 a0_0, .int .i64 a0_1, .bool a0_2], .agg 64 [.int .i64 a1_0, .int .i64 a1_1, .bool a1_2]] = some [.int .i64 res.1, .int .i64 res.2] := by
  revert h
  unfold p_query_product evTop
  simp only [List.map]
  rw [evF_s (fn := Try.f107) (msk := en107.ms) (hT := by rfl) (hb := by rfl)]
  rintro ⟨⟩
  simp only [go_sem, *]
noncomputable def s_query_product (L : Nat) : Ev.Spec := specP (cCons k64 (cCons k64 cNil)) (fun x => p_query_product L x.1.1 x.1.2.1 x.1.2.2.1 x.2.1.1 x.2.1.2.1 x.2.1.2.2.1) (fun r => [.int .i64 r.1, .int .i64 r.2])
theorem s_query_product_run (L : Nat) (a0_0 : Int) (a0_1 : Int) (a0_2 : Bool) (a1_0 : Int) (a1_1 : Int) (a1_2 : Bool) : (s_query_product L).run [.agg 64 [.int .i64 a0_0, .int .i64 a0_1, .bool a0_2], .agg 64 [.int .i64 a1_0, .int .i64 a1_1, .bool a1_2]] = (p_query_product L a0_0 a0_1 a0_2 a1_0 a1_1 a1_2).map fun r => [.int .i64 r.1, .int .i64 r.2] := specP_run (cCons k64 (cCons k64 cNil)) (fun x => p_query_product L x.1.1 x.1.2.1 x.1.2.2.1 x.2.1.1 x.2.1.2.1 x.2.1.2.2.1) (fun r => [.int .i64 r.1, .int .i64 r.2]) ((a0_0, a0_1, a0_2, ()), (a1_0, a1_1, a1_2, ()), ())
theorem ok_query_product (L : Nat) (hL : L ≤ 4611686018427387904) : SpecOk Try.prog 107 (s_query_product L) := specP_ok mixed (Go_query_product L hL) (To_query_product L) fun x r h => ⟨L, 1, e_query_product L hL x.1.1 x.1.2.1 x.1.2.2.1 x.2.1.1 x.2.1.2.1 x.2.1.2.2.1 r h⟩
end Go.Proofs.Ytnojehmbiceceaa.P
end
section
set_option linter.unusedVariables false
set_option linter.unusedSimpArgs false
set_option maxRecDepth 100000
namespace Go.Proofs.Ytnojehmbiceceaa.E
open Go.Ev
noncomputable def en108 : Entry := ⟨Try.f108, [(1000000, mb 32 0 [2, 3])]⟩
theorem dw108_1 (lv : Nat) (env : List V) (st : Store) (o : Option (List V × Store)) : drawR en108.ms 1 lv env st o = if lv < 1000000000000000000000000000000 then (o) else none := nr rfl
theorem kl108_1 (lv : Nat) (st : Store) : killR en108.ms 1 lv st = st := nr rfl
theorem nc108_1 : ncOf en108.ms 1 = false := nr rfl
theorem mk108_1000000 (vs : List V) : mask (maskOf en108.ms 1000000) vs = km 32 0 [2, 3] vs := mask_mb _ _ _ _
end Go.Proofs.Ytnojehmbiceceaa.E
end
section
set_option linter.unusedVariables false
set_option linter.unusedSimpArgs false
set_option maxRecDepth 100000
namespace Go.Proofs.Ytnojehmbiceceaa.P
open Go.Ev Go.IntKind Go.Proofs.Ytnojehmbiceceaa Go.Proofs.Ytnojehmbiceceaa.Ty Go.Proofs.Ytnojehmbiceceaa.E
def p_query_square (L : Nat) (a0_0 : Int) (a0_1 : Int) (a0_2 : Bool) : Option (Int × Int) := if a0_0 > 0 then (some ((minI (i64.wrap (a0_0 * a0_0)) (i64.wrap (a0_1 * a0_1))), (maxI (i64.wrap (a0_0 * a0_0)) (i64.wrap (a0_1 * a0_1))))) else (if a0_1 < 0 then (some ((minI (i64.wrap (a0_0 * a0_0)) (i64.wrap (a0_1 * a0_1))), (maxI (i64.wrap (a0_0 * a0_0)) (i64.wrap (a0_1 * a0_1))))) else (some (0, (maxI (i64.wrap (a0_0 * a0_0)) (i64.wrap (a0_1 * a0_1))))))
noncomputable def G_query_square (L : Nat) : Specs := []
noncomputable def T_query_square : Table := tableOf [(108, en108)]
theorem Go_query_square (L : Nat) (hL : L ≤ 4611686018427387904) : ∀ g s, Ev.look (G_query_square L) g = some s → SpecOk Try.prog g s := specs_nil
theorem To_query_square (L : Nat) : TableOk Try.prog ((G_query_square L).map (·.1)) T_query_square := (table_cons Try.func108 (by kernel_rfl) (by kernel_rfl) table_nil)
attribute [local go_sem] Ty.tk2 Ty.ik2 Ty.ek2 Ty.zv2 Ty.by2 Ty.so2 Ty.tk4 Ty.ub4 Ty.ek4 Ty.zv4 Ty.by4 Ty.so4 Ty.tk62 Ty.ik62 Ty.ek62 Ty.zv62 Ty.by62 Ty.so62 Ty.tk64 Ty.ct64 Ty.ek64 Ty.zv64 Ty.by64 Ty.so64 Ty.k64_e E.dw108_1 E.kl108_1 E.nc108_1 E.mk108_1000000 loopN loops Try.f108
theorem e_query_square (L : Nat) (hL : L ≤ 4611686018427387904) (a0_0 : Int) (a0_1 : Int) (a0_2 : Bool) (res : Int × Int) (h : p_query_square L a0_0 a0_1 a0_2 = some res) : evTop Try.prog (G_query_square L) T_query_square L 1 108 [.agg 64 [.int .i64 a0_0, .int .i64 a0_1, .bool a0_2]] = some [.int .i64 res.1, .int .i64 res.2] := by
  revert h
  unfold p_query_square evTop
  simp only [List.map]
  rw [evF_s (fn := Try.f108) (msk := en108.ms) (hT := by rfl) (hb := by rfl)]
  refine ite_i (fun c1 => ?_) (fun c1 => ?_)
  · rintro ⟨⟩
    simp only [go_sem, *]
  · refine ite_i (fun c2 => ?_) (fun c2 => ?_)
    · rintro ⟨⟩
      simp only [go_sem, *]
    · rintro ⟨⟩
      simp only [go_sem, *]
noncomputable def s_query_square (L : Nat) : Ev.Spec := specP (cCons k64 cNil) (fun x => p_query_square L x.1.1 x.1.2.1 x.1.2.2.1) (fun r => [.int .i64 r.1, .int .i64 r.2])
theorem s_query_square_run (L : Nat) (a0_0 : Int) (a0_1 : Int) (a0_2 : Bool) : (s_query_square L).run [.agg 64 [.int .i64 a0_0, .int .i64 a0_1, .bool a0_2]] = (p_query_square L a0_0 a0_1 a0_2).map fun r => [.int .i64 r.1, .int .i64 r.2] := specP_run (cCons k64 cNil) (fun x => p_query_square L x.1.1 x.1.2.1 x.1.2.2.1) (fun r => [.int .i64 r.1, .int .i64 r.2]) ((a0_0, a0_1, a0_2, ()), ())
theorem ok_query_square (L : Nat) (hL : L ≤ 4611686018427387904) : SpecOk Try.prog 108 (s_query_square L) := specP_ok mixed (Go_query_square L hL) (To_query_square L) fun x r h => ⟨L, 1, e_query_square L hL x.1.1 x.1.2.1 x.1.2.2.1 r h⟩
end Go.Proofs.Ytnojehmbiceceaa.P
end
section
set_option linter.unusedVariables false
set_option linter.unusedSimpArgs false
set_option maxRecDepth 100000
namespace Go.Proofs.Ytnojehmbiceceaa.E
open Go.Ev
noncomputable def en111 : Entry := ⟨Try.f111, [(1000000, mb 17 0 [4])]⟩
theorem dw111_1 (lv : Nat) (env : List V) (st : Store) (o : Option (List V × Store)) : drawR en111.ms 1 lv env st o = if lv < 1000000000000000000000000000000 then (o) else none := nr rfl
theorem kl111_1 (lv : Nat) (st : Store) : killR en111.ms 1 lv st = st := nr rfl
theorem nc111_1 : ncOf en111.ms 1 = false := nr rfl
theorem mk111_1000000 (vs : List V) : mask (maskOf en111.ms 1000000) vs = km 17 0 [4] vs := mask_mb _ _ _ _
end Go.Proofs.Ytnojehmbiceceaa.E
end
section
set_option linter.unusedVariables false
set_option linter.unusedSimpArgs false
set_option maxRecDepth 100000
namespace Go.Proofs.Ytnojehmbiceceaa.E
open Go.Ev
noncomputable def en184 : Entry := ⟨Try.f184, [(1000000, mb 20 0 [4])]⟩
theorem mk184_1000000 (vs : List V) : mask (maskOf en184.ms 1000000) vs = km 20 0 [4] vs := mask_mb _ _ _ _
end Go.Proofs.Ytnojehmbiceceaa.E
end
section
set_option linter.unusedVariables false
set_option linter.unusedSimpArgs false
set_option maxRecDepth 100000
namespace Go.Proofs.Ytnojehmbiceceaa.E
open Go.Ev
noncomputable def en229 : Entry := ⟨Try.f229, [(1000000, mb 6 0 [2])]⟩
theorem mk229_1000000 (vs : List V) : mask (maskOf en229.ms 1000000) vs = km 6 0 [2] vs := mask_mb _ _ _ _
end Go.Proofs.Ytnojehmbiceceaa.E
end
section
set_option linter.unusedVariables false
set_option linter.unusedSimpArgs false
set_option maxRecDepth 100000
namespace Go.Proofs.Ytnojehmbiceceaa.P
open Go.Ev Go.IntKind Go.Proofs.Ytnojehmbiceceaa Go.Proofs.Ytnojehmbiceceaa.Ty Go.Proofs.Ytnojehmbiceceaa.E
def p_cmp_isNaN_int64 (L : Nat) (a0 : Int) : Option Bool := some (!(decide (a0 = a0)))
noncomputable def G_cmp_isNaN_int64 (L : Nat) : Specs := []
noncomputable def T_cmp_isNaN_int64 : Table := tableOf [(229, en229)]
theorem Go_cmp_isNaN_int64 (L : Nat) (hL : L ≤ 4611686018427387904) : ∀ g s, Ev.look (G_cmp_isNaN_int64 L) g = some s → SpecOk Try.prog g s := specs_nil
theorem To_cmp_isNaN_int64 (L : Nat) : TableOk Try.prog ((G_cmp_isNaN_int64 L).map (·.1)) T_cmp_isNaN_int64 := (table_cons Try.func229 (by kernel_rfl) (by kernel_rfl) table_nil)
attribute [local go_sem] Ty.tk2 Ty.ik2 Ty.ek2 Ty.zv2 Ty.by2 Ty.so2 Ty.tk4 Ty.ub4 Ty.ek4 Ty.zv4 Ty.by4 Ty.so4 E.mk229_1000000 loopN loops Try.f229
theorem e_cmp_isNaN_int64 (L : Nat) (hL : L ≤ 4611686018427387904) (a0 : Int) (res : Bool) (h : p_cmp_isNaN_int64 L a0 = some res) : evTop Try.prog (G_cmp_isNaN_int64 L) T_cmp_isNaN_int64 L 1 229 [.int .i64 a0] = some [.bool res] := by
  revert h
  unfold p_cmp_isNaN_int64 evTop
  simp only [List.map]
  rw [evF_s (fn := Try.f229) (msk := en229.ms) (hT := by rfl) (hb := by rfl)]
  rintro ⟨⟩
  simp only [go_sem, *]
noncomputable def s_cmp_isNaN_int64 (L : Nat) : Ev.Spec := specP (cCons (cI .i64) cNil) (fun x => p_cmp_isNaN_int64 L x.1) (fun r => [.bool r])
theorem s_cmp_isNaN_int64_run (L : Nat) (a0 : Int) : (s_cmp_isNaN_int64 L).run [.int .i64 a0] = (p_cmp_isNaN_int64 L a0).map fun r => [.bool r] := specP_run (cCons (cI .i64) cNil) (fun x => p_cmp_isNaN_int64 L x.1) (fun r => [.bool r]) (a0, ())
theorem ok_cmp_isNaN_int64 (L : Nat) (hL : L ≤ 4611686018427387904) : SpecOk Try.prog 229 (s_cmp_isNaN_int64 L) := specP_ok mixed (Go_cmp_isNaN_int64 L hL) (To_cmp_isNaN_int64 L) fun x r h => ⟨L, 1, e_cmp_isNaN_int64 L hL x.1 r h⟩
end Go.Proofs.Ytnojehmbiceceaa.P
end
section
set_option linter.unusedVariables false
set_option linter.unusedSimpArgs false
set_option maxRecDepth 100000
namespace Go.Proofs.Ytnojehmbiceceaa.P
open Go.Ev Go.IntKind Go.Proofs.Ytnojehmbiceceaa Go.Proofs.Ytnojehmbiceceaa.Ty Go.Proofs.Ytnojehmbiceceaa.E
def p_cmp_Compare_int64 (L : Nat) (a0 : Int) (a1 : Int) : Option Int := bnd (p_cmp_isNaN_int64 L a0) fun r1 => bnd (p_cmp_isNaN_int64 L a1) fun r2 => cb r1 (cb r2 (some 0) (some (-1))) (cb r2 (some 1) (if a0 < a1 then (some (-1)) else (if a0 > a1 then (some 1) else (some 0))))
noncomputable def G_cmp_Compare_int64 (L : Nat) : Specs := [(229, s_cmp_isNaN_int64 L)]
noncomputable def T_cmp_Compare_int64 : Table := tableOf [(184, en184)]
theorem Go_cmp_Compare_int64 (L : Nat) (hL : L ≤ 4611686018427387904) : ∀ g s, Ev.look (G_cmp_Compare_int64 L) g = some s → SpecOk Try.prog g s := (specs_cons (ok_cmp_isNaN_int64 L hL) specs_nil)
theorem To_cmp_Compare_int64 (L : Nat) : TableOk Try.prog ((G_cmp_Compare_int64 L).map (·.1)) T_cmp_Compare_int64 := (table_cons Try.func184 (by kernel_rfl) (by kernel_rfl) table_nil)
theorem lk_cmp_Compare_int64_229 (L : Nat) : Ev.look (G_cmp_Compare_int64 L) 229 = some (s_cmp_isNaN_int64 L) := nr rfl
attribute [local go_sem] Ty.tk2 Ty.ik2 Ty.ek2 Ty.zv2 Ty.by2 Ty.so2 Ty.tk3 Ty.ik3 Ty.ek3 Ty.zv3 Ty.by3 Ty.so3 Ty.tk4 Ty.ub4 Ty.ek4 Ty.zv4 Ty.by4 Ty.so4 E.mk184_1000000 lk_cmp_Compare_int64_229 s_cmp_isNaN_int64_run loopN loops Try.f184
theorem e_cmp_Compare_int64 (L : Nat) (hL : L ≤ 4611686018427387904) (a0 : Int) (a1 : Int) (res : Int) (h : p_cmp_Compare_int64 L a0 a1 = some res) : evTop Try.prog (G_cmp_Compare_int64 L) T_cmp_Compare_int64 L 1 184 [.int .i64 a0, .int .i64 a1] = some [.int .i64 res] := by
  revert h
  unfold p_cmp_Compare_int64 evTop
  simp only [List.map]
  rw [evF_s (fn := Try.f184) (msk := en184.ms) (hT := by rfl) (hb := by rfl)]
  refine bnd_i fun r1 c1 => ?_
  refine bnd_i fun r2 c2 => ?_
  refine cb_i (fun c3 => ?_) (fun c3 => ?_)
  · refine cb_i (fun c4 => ?_) (fun c4 => ?_)
    · rintro ⟨⟩
      simp only [go_sem, *]
    · rintro ⟨⟩
      simp only [go_sem, *]
  · refine cb_i (fun c5 => ?_) (fun c5 => ?_)
    · rintro ⟨⟩
      simp only [go_sem, *]
    · refine ite_i (fun c6 => ?_) (fun c6 => ?_)
      · rintro ⟨⟩
        simp only [go_sem, *]
      · refine ite_i (fun c7 => ?_) (fun c7 => ?_)
        · rintro ⟨⟩
          simp only [go_sem, *]
        · rintro ⟨⟩
          simp only [go_sem, *]
noncomputable def s_cmp_Compare_int64 (L : Nat) : Ev.Spec := specP (cCons (cI .i64) (cCons (cI .i64) cNil)) (fun x => p_cmp_Compare_int64 L x.1 x.2.1) (fun r => [.int .i64 r])
theorem s_cmp_Compare_int64_run (L : Nat) (a0 : Int) (a1 : Int) : (s_cmp_Compare_int64 L).run [.int .i64 a0, .int .i64 a1] = (p_cmp_Compare_int64 L a0 a1).map fun r => [.int .i64 r] := specP_run (cCons (cI .i64) (cCons (cI .i64) cNil)) (fun x => p_cmp_Compare_int64 L x.1 x.2.1) (fun r => [.int .i64 r]) (a0, a1, ())
theorem ok_cmp_Compare_int64 (L : Nat) (hL : L ≤ 4611686018427387904) : SpecOk Try.prog 184 (s_cmp_Compare_int64 L) := specP_ok mixed (Go_cmp_Compare_int64 L hL) (To_cmp_Compare_int64 L) fun x r h => ⟨L, 1, e_cmp_Compare_int64 L hL x.1 x.2.1 r h⟩
end Go.Proofs.Ytnojehmbiceceaa.P
end
section
set_option linter.unusedVariables false
set_option linter.unusedSimpArgs false
set_option maxRecDepth 100000
namespace Go.Proofs.Ytnojehmbiceceaa.E
open Go.Ev
noncomputable def en185 : Entry := ⟨Try.f185, [(1000000, mb 20 0 [4])]⟩
theorem mk185_1000000 (vs : List V) : mask (maskOf en185.ms 1000000) vs = km 20 0 [4] vs := mask_mb _ _ _ _
end Go.Proofs.Ytnojehmbiceceaa.E
end
section
set_option linter.unusedVariables false
set_option linter.unusedSimpArgs false
set_option maxRecDepth 100000
namespace Go.Proofs.Ytnojehmbiceceaa.E
open Go.Ev
noncomputable def en230 : Entry := ⟨Try.f230, [(1000000, mb 6 0 [2])]⟩
theorem mk230_1000000 (vs : List V) : mask (maskOf en230.ms 1000000) vs = km 6 0 [2] vs := mask_mb _ _ _ _
end Go.Proofs.Ytnojehmbiceceaa.E
end
end
