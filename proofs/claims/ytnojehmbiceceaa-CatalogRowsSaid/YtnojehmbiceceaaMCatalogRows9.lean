/- Parts of one proof, joined: G128, E129, G129, G46, G42, E43, E123, E48, G25, G48. -/
import Derived.Test.YtnojehmbiceceaaMCatalogRows8
import Derived.Test.YtnojehmbiceceaaProg
section
attribute [local go_sem] Go.Ev.putR_s Go.Ev.putR_0 Go.Ev.thenO_s Go.Ev.thenO_0 Go.Ev.seqR_n Go.Ev.seqR_e Go.Ev.seqR_r Go.Ev.seqR_0 Go.Ev.blkR_e Go.Ev.blkR_n Go.Ev.blkR_r Go.Ev.blkR_0 Go.Ev.normR_s Go.Ev.normR_0 Go.Ev.outR_r Go.Ev.outR_n Go.Ev.outR_0 Go.Ev.retS_s Go.Ev.retS_0 Go.Ev.pureO_s Go.Ev.pureO_0 Go.Ev.topR_0 Go.Ev.topR_t Go.Ev.topR_t0 Go.Ev.oneL_0 Go.Ev.oneL_s Go.Ev.topR_d Go.Ev.topR_nils Go.Ev.topR_agg Go.Ev.topR_rs Go.Ev.evOp_move Go.Ev.evOp_assign Go.Ev.evOp_pick Go.Ev.evOp_alloc Go.Ev.evOp_box Go.Ev.evOp_build Go.Ev.evOp_buildSlice Go.Ev.evOp_load Go.Ev.evOp_store Go.Ev.evOp_makeMap Go.Ev.evOp_lookup Go.Ev.evOp_mapUpdate Go.Ev.evOp_insert Go.Ev.evOp_nilCheck Go.Ev.evOp_binOp Go.Ev.evOp_unOp Go.Ev.evOp_convert Go.Ev.evOp_makeFunc Go.Ev.evOp_makeSlice Go.Ev.evOp_slice Go.Ev.evOp_fieldAddr Go.Ev.evOp_field Go.Ev.evOp_indexAddr Go.Ev.evOp_index Go.Ev.evOp_extract Go.Ev.evOp_call Go.Ev.evOp_append Go.Ev.evOp_clear Go.Ev.evOp_len Go.Ev.evLen_d Go.Ev.evLen_rs Go.Ev.evLen_nils Go.Ev.evLen_nila Go.Ev.evLen_mp Go.Ev.evOp_min Go.Ev.evOp_max Go.Ev.condR_b Go.Ev.condR_t Go.Ev.evOps_nil Go.Ev.evOps_plain Go.Ev.evOps_guard Go.Ev.runG_eq Go.Ev.skipG_eq Go.Ev.condL_tt Go.Ev.condL_ff Go.Ev.condL_tf Go.Ev.condL_ft Go.Ev.condL_u Go.Ev.condC_t Go.Ev.condC_f Go.Ev.evC_skip Go.Ev.evC_ret Go.Ev.evC_exit Go.Ev.evC_label Go.Ev.evC_region Go.Ev.evC_draw Go.Ev.evC_seq Go.Ev.evC_cond Go.Ev.evC_block Go.Ev.evC_loop Go.Ev.fin_d Go.Ev.fin_nila Go.Ev.fin_nils Go.Ev.fin_agg_ Go.Ev.fin_rs Go.Ev.finS_s Go.Ev.mapO_fin Go.Ev.upd_upd Go.Ev.argv_d Go.Ev.argv_nila Go.Ev.argv_nils Go.Ev.argv_agg Go.Ev.argv_rs Go.Ev.argv_p Go.Ev.fk_low Go.Ev.appendTo_nils Go.Ev.appendTo_nila Go.Ev.appendTo_rs Go.Ev.consV_d Go.Ev.consV_agg Go.Ev.consV_p Go.Ev.consV_rs Go.Ev.consV_nila Go.Ev.consV_nils Go.Ev.consV_fn Go.Ev.consV_und Go.Ev.consV_jk Go.Ev.consV_grown Go.Ev.topR_grown Go.Ev.len_grown Go.Ev.consV_nilm Go.Ev.consV_mp Go.Ev.sameK_i Go.Ev.sameK_s Go.Ev.mget_0 Go.Ev.mget_hit Go.Ev.mget_miss Go.Ev.mput_0 Go.Ev.mput_hit Go.Ev.mput_miss Go.Ev.apartAll Go.Ev.apartL Go.Ev.apartV Go.Ev.freeAll Go.Ev.sel Go.Ev.keyOfV Go.Ev.evLookup Go.Ev.evPut Go.Ev.hintOk Go.Ev.keyOk Go.Ev.consP Go.Ev.lookV Go.Ev.guardV Go.Ev.dstAt Go.Ev.evPure Go.Ev.evStore Go.Ev.evBin Go.Ev.evBinO Go.Ev.evNil Go.Ev.isNilC Go.Ev.evUn Go.Ev.evConv Go.Ev.evSlice Go.Ev.optI Go.Ev.foldI Go.Ev.capsOk Go.Ev.noTup Go.Ev.nth Go.Ev.setN Go.Ev.killAt Go.Ev.pad Go.Ev.V.get Go.Ev.V.put Go.Ev.putD Go.Ev.newBlk Go.Ev.upd Go.Ev.keq Go.Ev.empty Go.Ev.evCall Go.Ev.V.args Go.Ev.argP Go.Ev.callOf Go.Ev.evNilP Go.Ev.isNilP Go.Ev.look Go.Ev.V.view.views Go.Ev.V.view Go.Ev.V.toD Go.Ev.V.toD.V.toDs Go.Ev.V.pure.pures Go.Ev.V.pure Go.Ev.D.flat.flats Go.Ev.D.flat Go.Ev.mkAgg Go.Ev.allD Go.Ev.aggParts Go.Ev.setParts Go.Ev.setElems Go.Ev.getPath Go.Ev.setPath Go.Ev.subL Go.Ev.eqD Go.Ev.eqD.eqDs Go.Ev.and2 Go.Ev.strCut Go.Ev.evalT Go.Ev.constT Go.Ev.evArgs Go.Ev.mask Go.Ev.maskOf Go.Ev.tableOf Go.Ev.compT Go.Ev.resV Go.Ev.retV Go.Ev.mapO Go.Ev.eT_nils Go.Ev.ag_t Go.Ev.ag_f Go.Ev.ag_0 Go.Ev.ag_n Go.Ev.mx_u64 Go.Ev.mx_u32 Go.Ev.mx_u16 Go.Ev.mx_u8 Go.Ev.sg_i64 Go.Ev.sg_i32 Go.Ev.sg_i16 Go.Ev.sg_i8 Go.Ev.sg_u64 Go.Ev.sg_u32 Go.Ev.sg_u16 Go.Ev.sg_u8 Go.Ev.mapE_i Go.Ev.mapV_nil Go.Ev.hT_nilm Go.Ev.mget_map Go.Ev.mput_map Go.Ev.mapV_put Go.Ev.mapV_half Go.Ev.hT_nila Go.Ev.eO_nila Go.Ev.pL_nila Go.Ev.evLen_gl Go.Ev.r_nila Go.Ev.frzO_n Go.Ev.frzO_e Go.Ev.frzO_r Go.Ev.frzO_0 Go.Ev.mb_z Go.Ev.mb_0 Go.Ev.mb_s Go.Ev.frzL_t Go.Ev.frzL_f Go.Ev.frzL_0 Go.Ev.frzT_nils Go.Ev.frzT_rs Go.Ev.frzT_p Go.Ev.frzK_i Go.Ev.keyIn_i Go.Ev.rI_nil Go.Ev.rI_cons Go.Ev.rI_row Go.Ev.rI_app Go.Ev.r_d Go.Ev.r_nils Go.Ev.r_agg Go.Ev.r_rs Go.Ev.r_gl Go.Ev.vw_row Go.Ev.vw_app Go.Ev.appO_s Go.Ev.frzT_gl Go.Ev.allD_gl Go.Ev.killAt_i Go.Ev.tkOne_i Go.Ev.hT_agg Go.Ev.hT_vagg Go.Ev.hT_int Go.Ev.hT_bool Go.Ev.hT_str Go.Ev.hT_sl Go.Ev.hT_ptr Go.Ev.hT_np Go.Ev.hT_p Go.Ev.hT_rs Go.Ev.hT_mp Go.Ev.hT_nils Go.Ev.hT_fn Go.Ev.hT_jk Go.Ev.hT_gl Go.Ev.eO_sl Go.Ev.eO_nils Go.Ev.eO_rs Go.Ev.eT_sl Go.Ev.eT_rs Go.Ev.pL_str Go.Ev.pL_sl Go.Ev.pL_rs Go.Ev.pL_nils Go.Ev.pL_min Go.Ev.pL_max Go.Ev.len_glB Go.Ev.noTup_gl Go.Ev.rowV_len Go.Ev.rowV_nil Go.Ev.rowV_cons Go.Ev.rowV_append Go.Ev.rowV_set Go.Ev.rowV_replicate Go.Ev.nth_row Go.Ev.row_take Go.Ev.row_drop Go.Ev.toDs_row Go.Ev.fin_row Go.Ev.map_row Go.Ev.map_take_ Go.Ev.map_drop_ Go.Ev.Bk_i Go.Ev.GlB_0 Go.Ev.GlB_mk Go.Ev.gl_nil Go.Ev.gl_cons Go.Ev.gl_snoc Go.Ev.gl_setN Go.Ev.appendTo_gl Go.Ev.consV_gl Go.Ev.elems_gl Go.Ev.fin_gl Go.Ev.view_gl Go.Ev.argv_gl Go.Ev.topR_gl Go.Ev.sp_z Go.Ev.sp_0 Go.Ev.sp_s Go.Ev.km_z Go.Ev.km_0 Go.Ev.km_s Go.Ev.beq_toList Go.Ev.nc0 Go.Ev.bq_t Go.Ev.bq_f Go.Ev.bodyN Go.Ev.le_maxRow Int.cast_ofNat_Int Go.IntWalk.i64_in Go.IntWalk.u64_in Go.IntWalk.u8_in beq_self_eq_true Bool.true_beq Bool.false_beq Bool.and_true Bool.true_and Bool.false_and Bool.and_false Bool.and_self Bool.not_true Bool.not_false Bool.not_eq_true cond_true cond_false if_true if_false and_true true_and and_self decide_true decide_false Bool.or_true Bool.true_or Bool.or_false Bool.false_or List.isEmpty List.isEmpty_nil List.size_toArray List.map List.length_map List.length_cons List.length_nil Option.map Option.bind Option.getD Option.isSome List.replicate Bool.false_eq_true implies_true false_implies forall_const Array.toList Array.isEmpty List.append List.nil_append List.cons_append List.drop_zero List.take_length List.take_succ_cons List.take_zero List.take_nil List.getElem?_map List.getElem?_cons_zero List.getElem?_cons_succ List.getElem?_nil List.append_nil eq_self Int.toNat_natCast List.length_append List.length_set Nat.zero_add Nat.add_zero List.length_replicate Nat.sub_zero Option.map_some Option.map_none Int.le_refl Nat.le_refl Int.natCast_nonneg List.map_append
attribute [local go_sem_proc] Nat.reduceAdd Nat.reduceSub Nat.reduceMul Nat.reduceEqDiff Nat.reduceBEq Nat.reduceLT Nat.reduceLeDiff Nat.reducePow Int.reduceToNat Int.reduceLT Int.reduceLE Int.reduceGT Int.reduceGE Int.reduceEq Int.reduceNeg Int.reduceAdd Int.reduceSub Int.reduceMul reduceCtorEq
attribute [local go_sem_proc ↓] reduceIte
section
set_option linter.unusedVariables false
set_option linter.unusedSimpArgs false
set_option maxRecDepth 100000
namespace Go.Proofs.Ytnojehmbiceceaa.P
open Go.Ev Go.IntKind Go.Proofs.Ytnojehmbiceceaa Go.Proofs.Ytnojehmbiceceaa.Ty Go.Proofs.Ytnojehmbiceceaa.E
def p_spyref3_BoundFault_Coord (L : Nat) (a0_0 : Int) (a0_1 : Int) (a0_2 : Bool) (a1 : Int) (a2 : Int) : Option Int := cb a0_2 (cb (decide (a0_0 = 0)) (cb (decide (a0_1 = 0)) (if a0_0 < (-1152921504606846976) then (some 4) else (if a0_0 > 1152921504606846976 then (some 4) else (if a0_1 < (-1152921504606846976) then (some 4) else (if a0_1 > 1152921504606846976 then (some 4) else (if a0_0 > a0_1 then (some 11) else (if a0_0 < a1 then (some 4) else (if a0_1 > a2 then (some 4) else (some 0)))))))) (some 3)) (some 3)) (if a0_0 < (-1152921504606846976) then (some 4) else (if a0_0 > 1152921504606846976 then (some 4) else (if a0_1 < (-1152921504606846976) then (some 4) else (if a0_1 > 1152921504606846976 then (some 4) else (if a0_0 > a0_1 then (some 11) else (if a0_0 < a1 then (some 4) else (if a0_1 > a2 then (some 4) else (some 0))))))))
noncomputable def G_spyref3_BoundFault_Coord (L : Nat) : Specs := []
noncomputable def T_spyref3_BoundFault_Coord : Table := tableOf [(128, en128)]
theorem Go_spyref3_BoundFault_Coord (L : Nat) (hL : L ≤ 4611686018427387904) : ∀ g s, Ev.look (G_spyref3_BoundFault_Coord L) g = some s → SpecOk Try.prog g s := specs_nil
theorem To_spyref3_BoundFault_Coord (L : Nat) : TableOk Try.prog ((G_spyref3_BoundFault_Coord L).map (·.1)) T_spyref3_BoundFault_Coord := (table_cons Try.func128 (by kernel_rfl) (by kernel_rfl) table_nil)
attribute [local go_sem] Ty.tk4 Ty.ub4 Ty.ek4 Ty.zv4 Ty.by4 Ty.so4 Ty.tk27 Ty.ik27 Ty.ek27 Ty.zv27 Ty.by27 Ty.so27 Ty.tk62 Ty.ik62 Ty.ek62 Ty.zv62 Ty.by62 Ty.so62 Ty.tk64 Ty.ct64 Ty.ek64 Ty.zv64 Ty.by64 Ty.so64 Ty.k64_e E.mk128_1000001 E.mk128_1000000 loopN loops Try.f128
theorem e_spyref3_BoundFault_Coord (L : Nat) (hL : L ≤ 4611686018427387904) (a0_0 : Int) (a0_1 : Int) (a0_2 : Bool) (a1 : Int) (a2 : Int) (res : Int) (h : p_spyref3_BoundFault_Coord L a0_0 a0_1 a0_2 a1 a2 = some res) : evTop Try.prog (G_spyref3_BoundFault_Coord L) T_spyref3_BoundFault_Coord L 1 128 [.agg 64 [.int .i64 a0_0, .int .i64 a0_1, .bool a0_2], .int .i64 a1, .int .i64 a2] = some [.int .i64 res] := by
  revert h
  unfold p_spyref3_BoundFault_Coord evTop
  simp only [List.map]
  rw [evF_s (fn := Try.f128) (msk := en128.ms) (hT := by rfl) (hb := by rfl)]
  refine cb_i (fun c1 => ?_) (fun c1 => ?_)
  · refine cb_i (fun c2 => ?_) (fun c2 => ?_)
    · refine cb_i (fun c3 => ?_) (fun c3 => ?_)
      · refine ite_i (fun c4 => ?_) (fun c4 => ?_)
        · rintro ⟨⟩
          simp only [go_sem, *]
        · refine ite_i (fun c5 => ?_) (fun c5 => ?_)
          · rintro ⟨⟩
            simp only [go_sem, *]
          · refine ite_i (fun c6 => ?_) (fun c6 => ?_)
            · rintro ⟨⟩
              simp only [go_sem, *]
            · refine ite_i (fun c7 => ?_) (fun c7 => ?_)
              · rintro ⟨⟩
                simp only [go_sem, *]
              · refine ite_i (fun c8 => ?_) (fun c8 => ?_)
                · rintro ⟨⟩
                  simp only [go_sem, *]
                · refine ite_i (fun c9 => ?_) (fun c9 => ?_)
                  · rintro ⟨⟩
                    simp only [go_sem, *]
                  · refine ite_i (fun c10 => ?_) (fun c10 => ?_)
                    · rintro ⟨⟩
                      simp only [go_sem, *]
                    · rintro ⟨⟩
                      simp only [go_sem, *]
      · rintro ⟨⟩
        simp only [go_sem, *]
    · rintro ⟨⟩
      simp only [go_sem, *]
  · refine ite_i (fun c11 => ?_) (fun c11 => ?_)
    · rintro ⟨⟩
      simp only [go_sem, *]
    · refine ite_i (fun c12 => ?_) (fun c12 => ?_)
      · rintro ⟨⟩
        simp only [go_sem, *]
      · refine ite_i (fun c13 => ?_) (fun c13 => ?_)
        · rintro ⟨⟩
          simp only [go_sem, *]
        · refine ite_i (fun c14 => ?_) (fun c14 => ?_)
          · rintro ⟨⟩
            simp only [go_sem, *]
          · refine ite_i (fun c15 => ?_) (fun c15 => ?_)
            · rintro ⟨⟩
              simp only [go_sem, *]
            · refine ite_i (fun c16 => ?_) (fun c16 => ?_)
              · rintro ⟨⟩
                simp only [go_sem, *]
              · refine ite_i (fun c17 => ?_) (fun c17 => ?_)
                · rintro ⟨⟩
                  simp only [go_sem, *]
                · rintro ⟨⟩
                  simp only [go_sem, *]
noncomputable def s_spyref3_BoundFault_Coord (L : Nat) : Ev.Spec := specP (cCons k64 (cCons (cI .i64) (cCons (cI .i64) cNil))) (fun x => p_spyref3_BoundFault_Coord L x.1.1 x.1.2.1 x.1.2.2.1 x.2.1 x.2.2.1) (fun r => [.int .i64 r])
theorem s_spyref3_BoundFault_Coord_run (L : Nat) (a0_0 : Int) (a0_1 : Int) (a0_2 : Bool) (a1 : Int) (a2 : Int) : (s_spyref3_BoundFault_Coord L).run [.agg 64 [.int .i64 a0_0, .int .i64 a0_1, .bool a0_2], .int .i64 a1, .int .i64 a2] = (p_spyref3_BoundFault_Coord L a0_0 a0_1 a0_2 a1 a2).map fun r => [.int .i64 r] := specP_run (cCons k64 (cCons (cI .i64) (cCons (cI .i64) cNil))) (fun x => p_spyref3_BoundFault_Coord L x.1.1 x.1.2.1 x.1.2.2.1 x.2.1 x.2.2.1) (fun r => [.int .i64 r]) ((a0_0, a0_1, a0_2, ()), a1, a2, ())
theorem ok_spyref3_BoundFault_Coord (L : Nat) (hL : L ≤ 4611686018427387904) : SpecOk Try.prog 128 (s_spyref3_BoundFault_Coord L) := specP_ok mixed (Go_spyref3_BoundFault_Coord L hL) (To_spyref3_BoundFault_Coord L) fun x r h => ⟨L, 1, e_spyref3_BoundFault_Coord L hL x.1.1 x.1.2.1 x.1.2.2.1 x.2.1 x.2.2.1 r h⟩
end Go.Proofs.Ytnojehmbiceceaa.P
end
section
set_option linter.unusedVariables false
set_option linter.unusedSimpArgs false
set_option maxRecDepth 100000
namespace Go.Proofs.Ytnojehmbiceceaa.E
open Go.Ev
noncomputable def en129 : Entry := ⟨Try.f129, [(1000001, mb 56 0 []), (1000000, mb 56 0 [6])]⟩
theorem mk129_1000001 (vs : List V) : mask (maskOf en129.ms 1000001) vs = km 56 0 [] vs := mask_mb _ _ _ _
theorem mk129_1000000 (vs : List V) : mask (maskOf en129.ms 1000000) vs = km 56 0 [6] vs := mask_mb _ _ _ _
end Go.Proofs.Ytnojehmbiceceaa.E
end
section
set_option linter.unusedVariables false
set_option linter.unusedSimpArgs false
set_option maxRecDepth 100000
namespace Go.Proofs.Ytnojehmbiceceaa.P
open Go.Ev Go.IntKind Go.Proofs.Ytnojehmbiceceaa Go.Proofs.Ytnojehmbiceceaa.Ty Go.Proofs.Ytnojehmbiceceaa.E
def p_spyref3_BoundFault_Tick (L : Nat) (a0_0 : Int) (a0_1 : Int) (a0_2 : Bool) (a1 : Int) (a2 : Int) : Option Int := cb a0_2 (cb (decide (a0_0 = 0)) (cb (decide (a0_1 = 0)) (if a0_0 < (-1152921504606846976) then (some 4) else (if a0_0 > 1152921504606846976 then (some 4) else (if a0_1 < (-1152921504606846976) then (some 4) else (if a0_1 > 1152921504606846976 then (some 4) else (if a0_0 > a0_1 then (some 11) else (if a0_0 < a1 then (some 4) else (if a0_1 > a2 then (some 4) else (some 0)))))))) (some 3)) (some 3)) (if a0_0 < (-1152921504606846976) then (some 4) else (if a0_0 > 1152921504606846976 then (some 4) else (if a0_1 < (-1152921504606846976) then (some 4) else (if a0_1 > 1152921504606846976 then (some 4) else (if a0_0 > a0_1 then (some 11) else (if a0_0 < a1 then (some 4) else (if a0_1 > a2 then (some 4) else (some 0))))))))
noncomputable def G_spyref3_BoundFault_Tick (L : Nat) : Specs := []
noncomputable def T_spyref3_BoundFault_Tick : Table := tableOf [(129, en129)]
theorem Go_spyref3_BoundFault_Tick (L : Nat) (hL : L ≤ 4611686018427387904) : ∀ g s, Ev.look (G_spyref3_BoundFault_Tick L) g = some s → SpecOk Try.prog g s := specs_nil
theorem To_spyref3_BoundFault_Tick (L : Nat) : TableOk Try.prog ((G_spyref3_BoundFault_Tick L).map (·.1)) T_spyref3_BoundFault_Tick := (table_cons Try.func129 (by kernel_rfl) (by kernel_rfl) table_nil)
attribute [local go_sem] Ty.tk4 Ty.ub4 Ty.ek4 Ty.zv4 Ty.by4 Ty.so4 Ty.tk27 Ty.ik27 Ty.ek27 Ty.zv27 Ty.by27 Ty.so27 Ty.tk72 Ty.ik72 Ty.ek72 Ty.zv72 Ty.by72 Ty.so72 Ty.tk87 Ty.ct87 Ty.ek87 Ty.zv87 Ty.by87 Ty.so87 Ty.k87_e E.mk129_1000001 E.mk129_1000000 loopN loops Try.f129
theorem e_spyref3_BoundFault_Tick (L : Nat) (hL : L ≤ 4611686018427387904) (a0_0 : Int) (a0_1 : Int) (a0_2 : Bool) (a1 : Int) (a2 : Int) (res : Int) (h : p_spyref3_BoundFault_Tick L a0_0 a0_1 a0_2 a1 a2 = some res) : evTop Try.prog (G_spyref3_BoundFault_Tick L) T_spyref3_BoundFault_Tick L 1 129 [.agg 87 [.int .i64 a0_0, .int .i64 a0_1, .bool a0_2], .int .i64 a1, .int .i64 a2] = some [.int .i64 res] := by
  revert h
  unfold p_spyref3_BoundFault_Tick evTop
  simp only [List.map]
  rw [evF_s (fn := Try.f129) (msk := en129.ms) (hT := by rfl) (hb := by rfl)]
  refine cb_i (fun c1 => ?_) (fun c1 => ?_)
  · refine cb_i (fun c2 => ?_) (fun c2 => ?_)
    · refine cb_i (fun c3 => ?_) (fun c3 => ?_)
      · refine ite_i (fun c4 => ?_) (fun c4 => ?_)
        · rintro ⟨⟩
          simp only [go_sem, *]
        · refine ite_i (fun c5 => ?_) (fun c5 => ?_)
          · rintro ⟨⟩
            simp only [go_sem, *]
          · refine ite_i (fun c6 => ?_) (fun c6 => ?_)
            · rintro ⟨⟩
              simp only [go_sem, *]
            · refine ite_i (fun c7 => ?_) (fun c7 => ?_)
              · rintro ⟨⟩
                simp only [go_sem, *]
              · refine ite_i (fun c8 => ?_) (fun c8 => ?_)
                · rintro ⟨⟩
                  simp only [go_sem, *]
                · refine ite_i (fun c9 => ?_) (fun c9 => ?_)
                  · rintro ⟨⟩
                    simp only [go_sem, *]
                  · refine ite_i (fun c10 => ?_) (fun c10 => ?_)
                    · rintro ⟨⟩
                      simp only [go_sem, *]
                    · rintro ⟨⟩
                      simp only [go_sem, *]
      · rintro ⟨⟩
        simp only [go_sem, *]
    · rintro ⟨⟩
      simp only [go_sem, *]
  · refine ite_i (fun c11 => ?_) (fun c11 => ?_)
    · rintro ⟨⟩
      simp only [go_sem, *]
    · refine ite_i (fun c12 => ?_) (fun c12 => ?_)
      · rintro ⟨⟩
        simp only [go_sem, *]
      · refine ite_i (fun c13 => ?_) (fun c13 => ?_)
        · rintro ⟨⟩
          simp only [go_sem, *]
        · refine ite_i (fun c14 => ?_) (fun c14 => ?_)
          · rintro ⟨⟩
            simp only [go_sem, *]
          · refine ite_i (fun c15 => ?_) (fun c15 => ?_)
            · rintro ⟨⟩
              simp only [go_sem, *]
            · refine ite_i (fun c16 => ?_) (fun c16 => ?_)
              · rintro ⟨⟩
                simp only [go_sem, *]
              · refine ite_i (fun c17 => ?_) (fun c17 => ?_)
                · rintro ⟨⟩
                  simp only [go_sem, *]
                · rintro ⟨⟩
                  simp only [go_sem, *]
noncomputable def s_spyref3_BoundFault_Tick (L : Nat) : Ev.Spec := specP (cCons k87 (cCons (cI .i64) (cCons (cI .i64) cNil))) (fun x => p_spyref3_BoundFault_Tick L x.1.1 x.1.2.1 x.1.2.2.1 x.2.1 x.2.2.1) (fun r => [.int .i64 r])
theorem s_spyref3_BoundFault_Tick_run (L : Nat) (a0_0 : Int) (a0_1 : Int) (a0_2 : Bool) (a1 : Int) (a2 : Int) : (s_spyref3_BoundFault_Tick L).run [.agg 87 [.int .i64 a0_0, .int .i64 a0_1, .bool a0_2], .int .i64 a1, .int .i64 a2] = (p_spyref3_BoundFault_Tick L a0_0 a0_1 a0_2 a1 a2).map fun r => [.int .i64 r] := specP_run (cCons k87 (cCons (cI .i64) (cCons (cI .i64) cNil))) (fun x => p_spyref3_BoundFault_Tick L x.1.1 x.1.2.1 x.1.2.2.1 x.2.1 x.2.2.1) (fun r => [.int .i64 r]) ((a0_0, a0_1, a0_2, ()), a1, a2, ())
theorem ok_spyref3_BoundFault_Tick (L : Nat) (hL : L ≤ 4611686018427387904) : SpecOk Try.prog 129 (s_spyref3_BoundFault_Tick L) := specP_ok mixed (Go_spyref3_BoundFault_Tick L hL) (To_spyref3_BoundFault_Tick L) fun x r h => ⟨L, 1, e_spyref3_BoundFault_Tick L hL x.1.1 x.1.2.1 x.1.2.2.1 x.2.1 x.2.2.1 r h⟩
end Go.Proofs.Ytnojehmbiceceaa.P
end
section
set_option linter.unusedVariables false
set_option linter.unusedSimpArgs false
set_option maxRecDepth 100000
namespace Go.Proofs.Ytnojehmbiceceaa.P
open Go.Ev Go.IntKind Go.Proofs.Ytnojehmbiceceaa Go.Proofs.Ytnojehmbiceceaa.Ty Go.Proofs.Ytnojehmbiceceaa.E
def p_spyref3_RowFault_l0 (L : Nat) (a8 : List Int) : Nat → Int → Option (Sum Unit Int)
  | 0, s7 => some (.inl ())
  | tl + 1, s7 => bnd (idx a8 s7) fun x10 => cb (decide (x10 = 0)) (p_spyref3_RowFault_l0 L a8 tl (s7 + 1)) (some (.inr x10))
def p_spyref3_RowFault_l1 (L : Nat)  : List Int → Int → Int → Option (Sum Unit Int)
  | [], s14, s15 => some (.inl ())
  | x13 :: tl, s14, s15 => if x13 < 1 then (some (.inr 4)) else (if x13 > 1048576 then (some (.inr 4)) else (if s14 > 0 then (if x13 ≤ s15 then (some (.inr 11)) else (p_spyref3_RowFault_l1 L  tl (s14 + 1) x13)) else (p_spyref3_RowFault_l1 L  tl (s14 + 1) x13)))
def p_spyref3_RowFault (L : Nat) (a0_0 : Int) (a0_1_0_0 : Int) (a0_1_0_1 : Int) (a0_1_0_2 : Bool) (a0_1_1_0 : Int) (a0_1_1_1 : Int) (a0_1_1_2 : Bool) (a0_1_2_0 : Int) (a0_1_2_1 : Int) (a0_1_2_2 : Bool) (a0_2_0 : Int) (a0_2_1 : Int) (a0_2_2 : Bool) (a0_3_0 : Int) (a0_3_1 : Int) (a0_3_2 : Bool) (a0_4 : List Int) (a0_5 : Int) : Option Int := if a0_0 < 1 then (some 4) else (if a0_0 ≥ 2147483648 then (some 4) else (bnd (p_spyref3_BoundFault_Coord L a0_1_0_0 a0_1_0_1 a0_1_0_2 (-1073741824) 1073741824) fun r1 => bnd (p_spyref3_BoundFault_Coord L a0_1_1_0 a0_1_1_1 a0_1_1_2 (-1073741824) 1073741824) fun r2 => bnd (p_spyref3_BoundFault_Coord L a0_1_2_0 a0_1_2_1 a0_1_2_2 (-1073741824) 1073741824) fun r3 => bnd (p_spyref3_BoundFault_Quanta L a0_2_0 a0_2_1 a0_2_2 (-1125899906842624) 1125899906842624) fun r4 => bnd (p_spyref3_BoundFault_Tick L a0_3_0 a0_3_1 a0_3_2 (-17592186044416) 17592186044416) fun r5 => rq (5 < L) <| bnd (p_spyref3_RowFault_l0 L ([r1, r2, r3, r4, r5]) 5 0) fun o11 => match o11 with | (.inl o11_0) => (cb (decide ((a0_4.length : Int) = 0)) (some 3) (if (a0_4.length : Int) > 8 then (some 2) else (rq (a0_4.length < L) <| bnd (p_spyref3_RowFault_l1 L a0_4 0 0) fun o16 => match o16 with | (.inl o16_0) => (if a0_5 < 0 then (some 4) else (if a0_5 > 3 then (some 4) else (some 0))) | (.inr o16_1) => (some o16_1)))) | (.inr o11_1) => (some o11_1)))
noncomputable def G_spyref3_RowFault (L : Nat) : Specs := [(104, s_spyref3_BoundFault_Quanta L), (128, s_spyref3_BoundFault_Coord L), (129, s_spyref3_BoundFault_Tick L)]
noncomputable def T_spyref3_RowFault : Table := tableOf [(46, en46)]
theorem Go_spyref3_RowFault (L : Nat) (hL : L ≤ 4611686018427387904) : ∀ g s, Ev.look (G_spyref3_RowFault L) g = some s → SpecOk Try.prog g s := (specs_cons (ok_spyref3_BoundFault_Quanta L hL) (specs_cons (ok_spyref3_BoundFault_Coord L hL) (specs_cons (ok_spyref3_BoundFault_Tick L hL) specs_nil)))
theorem To_spyref3_RowFault (L : Nat) : TableOk Try.prog ((G_spyref3_RowFault L).map (·.1)) T_spyref3_RowFault := (table_cons Try.func46 (by kernel_rfl) (by kernel_rfl) table_nil)
theorem lk_spyref3_RowFault_104 (L : Nat) : Ev.look (G_spyref3_RowFault L) 104 = some (s_spyref3_BoundFault_Quanta L) := nr rfl
theorem lk_spyref3_RowFault_128 (L : Nat) : Ev.look (G_spyref3_RowFault L) 128 = some (s_spyref3_BoundFault_Coord L) := nr rfl
theorem lk_spyref3_RowFault_129 (L : Nat) : Ev.look (G_spyref3_RowFault L) 129 = some (s_spyref3_BoundFault_Tick L) := nr rfl
attribute [local go_sem] Ty.tk3 Ty.ik3 Ty.ek3 Ty.zv3 Ty.by3 Ty.so3 Ty.tk4 Ty.ub4 Ty.ek4 Ty.zv4 Ty.by4 Ty.so4 Ty.tk22 Ty.zv22 Ty.by22 Ty.so22 Ty.tk24 Ty.ik24 Ty.ek24 Ty.zv24 Ty.by24 Ty.so24 Ty.tk27 Ty.ik27 Ty.ek27 Ty.zv27 Ty.by27 Ty.so27 Ty.tk35 Ty.ct35 Ty.ek35 Ty.zv35 Ty.by35 Ty.so35 Ty.tk62 Ty.ik62 Ty.ek62 Ty.zv62 Ty.by62 Ty.so62 Ty.tk64 Ty.ct64 Ty.ek64 Ty.zv64 Ty.by64 Ty.so64 Ty.tk66 Ty.ct66 Ty.ek66 Ty.zv66 Ty.by66 Ty.so66 Ty.tk72 Ty.ik72 Ty.ek72 Ty.zv72 Ty.by72 Ty.so72 Ty.tk87 Ty.ct87 Ty.ek87 Ty.zv87 Ty.by87 Ty.so87 Ty.tk89 Ty.ct89 Ty.zv89 Ty.by89 Ty.so89 Ty.tk195 Ty.zv195 Ty.by195 Ty.so195 Ty.k22_e Ty.k35_e Ty.k64_e Ty.k66_e Ty.k87_e Ty.k89_e Ty.k195_e E.dw46_3 E.kl46_3 E.nc46_3 E.mk46_0 E.mk46_2 E.mk46_1000001 E.mk46_1000002 E.mk46_1000003 E.mk46_1000004 E.mk46_1000000 E.fz46_0 E.fi46_0 E.fz46_2 E.fi46_2 E.lb46_0 E.lb46_2 lk_spyref3_RowFault_104 lk_spyref3_RowFault_128 lk_spyref3_RowFault_129 s_spyref3_BoundFault_Quanta_run s_spyref3_BoundFault_Coord_run s_spyref3_BoundFault_Tick_run loopN loops Try.f46
def Q0_p_spyref3_RowFault_l0 (a0_0 : Int) (a0_1_0_0 : Int) (a0_1_0_1 : Int) (a0_1_0_2 : Bool) (a0_1_1_0 : Int) (a0_1_1_1 : Int) (a0_1_1_2 : Bool) (a0_1_2_0 : Int) (a0_1_2_1 : Int) (a0_1_2_2 : Bool) (a0_2_0 : Int) (a0_2_1 : Int) (a0_2_2 : Bool) (a0_3_0 : Int) (a0_3_1 : Int) (a0_3_2 : Bool) (a0_4 : List Int) (a0_5 : Int) (a8 : List Int) (u : Unit) (z : Out) : Prop := ∃ env st, z = some (.exit 0, env, st) ∧ env = sp 83 0 [(1, .p (0, 1) (st (0, 1)).ver 0 [])] ∧ Bk (st (0, 1)) 89 [.d (.agg 89 [.int .i64 a0_0, .agg 66 [.agg 64 [.int .i64 a0_1_0_0, .int .i64 a0_1_0_1, .bool a0_1_0_2], .agg 64 [.int .i64 a0_1_1_0, .int .i64 a0_1_1_1, .bool a0_1_1_2], .agg 64 [.int .i64 a0_1_2_0, .int .i64 a0_1_2_1, .bool a0_1_2_2]], .agg 35 [.int .i64 a0_2_0, .int .i64 a0_2_1, .bool a0_2_2], .agg 87 [.int .i64 a0_3_0, .int .i64 a0_3_1, .bool a0_3_2], .sl 3 (a0_4.map (D.int .i64)), .int .i64 a0_5])]
def Q1_p_spyref3_RowFault_l0 (a0_0 : Int) (a0_1_0_0 : Int) (a0_1_0_1 : Int) (a0_1_0_2 : Bool) (a0_1_1_0 : Int) (a0_1_1_1 : Int) (a0_1_1_2 : Bool) (a0_1_2_0 : Int) (a0_1_2_1 : Int) (a0_1_2_2 : Bool) (a0_2_0 : Int) (a0_2_1 : Int) (a0_2_2 : Bool) (a0_3_0 : Int) (a0_3_1 : Int) (a0_3_2 : Bool) (a0_4 : List Int) (a0_5 : Int) (a8 : List Int) (u : Int) (z : Out) : Prop := ∃ env st, z = some (.ret, env, st) ∧ env = sp 83 0 [(2, .d (.int .i64 u))]
def Q_p_spyref3_RowFault_l0 (a0_0 : Int) (a0_1_0_0 : Int) (a0_1_0_1 : Int) (a0_1_0_2 : Bool) (a0_1_1_0 : Int) (a0_1_1_1 : Int) (a0_1_1_2 : Bool) (a0_1_2_0 : Int) (a0_1_2_1 : Int) (a0_1_2_2 : Bool) (a0_2_0 : Int) (a0_2_1 : Int) (a0_2_2 : Bool) (a0_3_0 : Int) (a0_3_1 : Int) (a0_3_2 : Bool) (a0_4 : List Int) (a0_5 : Int) (a8 : List Int) (o : Sum Unit Int) (z : Out) : Prop := match o with | (.inl u) => Q0_p_spyref3_RowFault_l0 a0_0 a0_1_0_0 a0_1_0_1 a0_1_0_2 a0_1_1_0 a0_1_1_1 a0_1_1_2 a0_1_2_0 a0_1_2_1 a0_1_2_2 a0_2_0 a0_2_1 a0_2_2 a0_3_0 a0_3_1 a0_3_2 a0_4 a0_5 a8 u z | (.inr u) => Q1_p_spyref3_RowFault_l0 a0_0 a0_1_0_0 a0_1_0_1 a0_1_0_2 a0_1_1_0 a0_1_1_1 a0_1_1_2 a0_1_2_0 a0_1_2_1 a0_1_2_2 a0_2_0 a0_2_1 a0_2_2 a0_3_0 a0_3_1 a0_3_2 a0_4 a0_5 a8 u z
theorem l_p_spyref3_RowFault_l0 (L : Nat) (hL : L ≤ 4611686018427387904) (a0_0 : Int) (a0_1_0_0 : Int) (a0_1_0_1 : Int) (a0_1_0_2 : Bool) (a0_1_1_0 : Int) (a0_1_1_1 : Int) (a0_1_1_2 : Bool) (a0_1_2_0 : Int) (a0_1_2_1 : Int) (a0_1_2_2 : Bool) (a0_2_0 : Int) (a0_2_1 : Int) (a0_2_2 : Bool) (a0_3_0 : Int) (a0_3_1 : Int) (a0_3_2 : Bool) (a0_4 : List Int) (a0_5 : Int) (a8 : List Int) : ∀ (tl n : Nat) (s7 : Int) (env : List V) (st : Store) (o : Sum Unit Int), tl < n → Cnt 5 s7 tl → mask (maskOf en46.ms 0) env = sp 83 0 [(1, .p (0, 1) (st (0, 1)).ver 0 []), (34, .rs 27 (0, 34) (st (0, 34)).ver 0 a8.length true), (35, .d (.int .i64 5)), (36, .d (.int .i64 s7))] → Bk (st (0, 1)) 89 [.d (.agg 89 [.int .i64 a0_0, .agg 66 [.agg 64 [.int .i64 a0_1_0_0, .int .i64 a0_1_0_1, .bool a0_1_0_2], .agg 64 [.int .i64 a0_1_1_0, .int .i64 a0_1_1_1, .bool a0_1_1_2], .agg 64 [.int .i64 a0_1_2_0, .int .i64 a0_1_2_1, .bool a0_1_2_2]], .agg 35 [.int .i64 a0_2_0, .int .i64 a0_2_1, .bool a0_2_2], .agg 87 [.int .i64 a0_3_0, .int .i64 a0_3_1, .bool a0_3_2], .sl 3 (a0_4.map (D.int .i64)), .int .i64 a0_5])] → Bk (st (0, 34)) 27 (rowV (D.int .i64) a8) → p_spyref3_RowFault_l0 L a8 tl s7  = some o →
    Q_p_spyref3_RowFault_l0 a0_0 a0_1_0_0 a0_1_0_1 a0_1_0_2 a0_1_1_0 a0_1_1_1 a0_1_1_2 a0_1_2_0 a0_1_2_1 a0_1_2_2 a0_2_0 a0_2_1 a0_2_2 a0_3_0 a0_3_1 a0_3_2 a0_4 a0_5 a8 o (iter (evC Try.prog (G_spyref3_RowFault L) (evF Try.prog (G_spyref3_RowFault L) T_spyref3_RowFault L 0) L en46.ms 0 0 lb46_0) (maskOf en46.ms 0) n env st) := by
  intro tl
  induction tl with
  | zero =>
    intro n s7  env st o hn hR he hb0 hb1 h
    obtain ⟨n, rfl⟩ : ∃ m, n = m + 1 := ⟨n - 1, by omega⟩
    obtain ⟨be0, bv0, bl0⟩ := hb0
    obtain ⟨be1, bv1, bl1⟩ := hb1
    generalize hQ : Q_p_spyref3_RowFault_l0 a0_0 a0_1_0_0 a0_1_0_1 a0_1_0_2 a0_1_1_0 a0_1_1_1 a0_1_1_2 a0_1_2_0 a0_1_2_1 a0_1_2_2 a0_2_0 a0_2_1 a0_2_2 a0_3_0 a0_3_1 a0_3_2 a0_4 a0_5 a8 = Q
    have g0 := cnt_nil hR
    rw [iter, he]
    clear he
    generalize hK : iter _ _ n = K
    rw [p_spyref3_RowFault_l0] at h
    revert h
    rintro ⟨⟩
    simp only [go_sem, *]
    subst hQ
    refine (⟨_, _, rfl, ?_, ?_⟩ : Q0_p_spyref3_RowFault_l0 _ _ _ _ _ _ _ _ _ _ _ _ _ _ _ _ _ _ _ _ _)
    all_goals simp only [go_sem, *]
  | succ tl ih =>
    intro n s7  env st o hn hR he hb0 hb1 h
    obtain ⟨n, rfl⟩ : ∃ m, n = m + 1 := ⟨n - 1, by omega⟩
    obtain ⟨be0, bv0, bl0⟩ := hb0
    obtain ⟨be1, bv1, bl1⟩ := hb1
    generalize hQ : Q_p_spyref3_RowFault_l0 a0_0 a0_1_0_0 a0_1_0_1 a0_1_0_2 a0_1_1_0 a0_1_1_1 a0_1_1_2 a0_1_2_0 a0_1_2_1 a0_1_2_2 a0_2_0 a0_2_1 a0_2_2 a0_3_0 a0_3_1 a0_3_2 a0_4 a0_5 a8 = Q at ih ⊢
    replace ih : Hold _ := ih
    replace hR := cnt_s hR
    obtain ⟨g0, g1, g3, hR⟩ := hR
    rw [iter, he]
    clear he
    generalize hK : iter _ _ n = K
    rw [p_spyref3_RowFault_l0] at h
    revert h
    refine idx_i fun x10 c1 c2 c3 => ?_
    refine cb_i (fun c4 => ?_) (fun c4 => ?_)
    · intro h
      simp only [go_sem, *]
      subst hK
      refine ih n (s7 + 1)  _ _ _ (by omega) hR ?_ ?_ ?_ h
      all_goals simp only [go_sem, *]
    · rintro ⟨⟩
      simp only [go_sem, *]
      subst hQ
      refine (⟨_, _, rfl, ?_⟩ : Q1_p_spyref3_RowFault_l0 _ _ _ _ _ _ _ _ _ _ _ _ _ _ _ _ _ _ _ _ _)
      all_goals simp only [go_sem, *]
def Q0_p_spyref3_RowFault_l1 (a0_4 : List Int) (a0_0 : Int) (a0_1_0_0 : Int) (a0_1_0_1 : Int) (a0_1_0_2 : Bool) (a0_1_1_0 : Int) (a0_1_1_1 : Int) (a0_1_1_2 : Bool) (a0_1_2_0 : Int) (a0_1_2_1 : Int) (a0_1_2_2 : Bool) (a0_2_0 : Int) (a0_2_1 : Int) (a0_2_2 : Bool) (a0_3_0 : Int) (a0_3_1 : Int) (a0_3_2 : Bool) (a0_5 : Int) (u : Unit) (z : Out) : Prop := ∃ env st, z = some (.exit 2, env, st) ∧ env = sp 83 0 [(1, .p (0, 1) (st (0, 1)).ver 0 [])] ∧ Bk (st (0, 1)) 89 [.d (.agg 89 [.int .i64 a0_0, .agg 66 [.agg 64 [.int .i64 a0_1_0_0, .int .i64 a0_1_0_1, .bool a0_1_0_2], .agg 64 [.int .i64 a0_1_1_0, .int .i64 a0_1_1_1, .bool a0_1_1_2], .agg 64 [.int .i64 a0_1_2_0, .int .i64 a0_1_2_1, .bool a0_1_2_2]], .agg 35 [.int .i64 a0_2_0, .int .i64 a0_2_1, .bool a0_2_2], .agg 87 [.int .i64 a0_3_0, .int .i64 a0_3_1, .bool a0_3_2], .sl 3 (a0_4.map (D.int .i64)), .int .i64 a0_5])]
def Q1_p_spyref3_RowFault_l1 (a0_4 : List Int) (a0_0 : Int) (a0_1_0_0 : Int) (a0_1_0_1 : Int) (a0_1_0_2 : Bool) (a0_1_1_0 : Int) (a0_1_1_1 : Int) (a0_1_1_2 : Bool) (a0_1_2_0 : Int) (a0_1_2_1 : Int) (a0_1_2_2 : Bool) (a0_2_0 : Int) (a0_2_1 : Int) (a0_2_2 : Bool) (a0_3_0 : Int) (a0_3_1 : Int) (a0_3_2 : Bool) (a0_5 : Int) (u : Int) (z : Out) : Prop := ∃ env st, z = some (.ret, env, st) ∧ env = sp 83 0 [(2, .d (.int .i64 u))]
def Q_p_spyref3_RowFault_l1 (a0_4 : List Int) (a0_0 : Int) (a0_1_0_0 : Int) (a0_1_0_1 : Int) (a0_1_0_2 : Bool) (a0_1_1_0 : Int) (a0_1_1_1 : Int) (a0_1_1_2 : Bool) (a0_1_2_0 : Int) (a0_1_2_1 : Int) (a0_1_2_2 : Bool) (a0_2_0 : Int) (a0_2_1 : Int) (a0_2_2 : Bool) (a0_3_0 : Int) (a0_3_1 : Int) (a0_3_2 : Bool) (a0_5 : Int) (o : Sum Unit Int) (z : Out) : Prop := match o with | (.inl u) => Q0_p_spyref3_RowFault_l1 a0_4 a0_0 a0_1_0_0 a0_1_0_1 a0_1_0_2 a0_1_1_0 a0_1_1_1 a0_1_1_2 a0_1_2_0 a0_1_2_1 a0_1_2_2 a0_2_0 a0_2_1 a0_2_2 a0_3_0 a0_3_1 a0_3_2 a0_5 u z | (.inr u) => Q1_p_spyref3_RowFault_l1 a0_4 a0_0 a0_1_0_0 a0_1_0_1 a0_1_0_2 a0_1_1_0 a0_1_1_1 a0_1_1_2 a0_1_2_0 a0_1_2_1 a0_1_2_2 a0_2_0 a0_2_1 a0_2_2 a0_3_0 a0_3_1 a0_3_2 a0_5 u z
theorem l_p_spyref3_RowFault_l1 (L : Nat) (hL : L ≤ 4611686018427387904) (a0_4 : List Int) (a0_0 : Int) (a0_1_0_0 : Int) (a0_1_0_1 : Int) (a0_1_0_2 : Bool) (a0_1_1_0 : Int) (a0_1_1_1 : Int) (a0_1_1_2 : Bool) (a0_1_2_0 : Int) (a0_1_2_1 : Int) (a0_1_2_2 : Bool) (a0_2_0 : Int) (a0_2_1 : Int) (a0_2_2 : Bool) (a0_3_0 : Int) (a0_3_1 : Int) (a0_3_2 : Bool) (a0_5 : Int) : ∀ (tl : List Int) (n : Nat) (s14 : Int) (s15 : Int) (env : List V) (st : Store) (o : Sum Unit Int), tl.length < n → Rng a0_4 s14 tl → mask (maskOf en46.ms 2) env = sp 83 0 [(1, .p (0, 1) (st (0, 1)).ver 0 []), (5, .d (.int .i64 s15)), (53, .d (.sl 3 (a0_4.map (D.int .i64)))), (54, .d (.int .i64 (a0_4.length : Int))), (55, .d (.int .i64 s14))] → Bk (st (0, 1)) 89 [.d (.agg 89 [.int .i64 a0_0, .agg 66 [.agg 64 [.int .i64 a0_1_0_0, .int .i64 a0_1_0_1, .bool a0_1_0_2], .agg 64 [.int .i64 a0_1_1_0, .int .i64 a0_1_1_1, .bool a0_1_1_2], .agg 64 [.int .i64 a0_1_2_0, .int .i64 a0_1_2_1, .bool a0_1_2_2]], .agg 35 [.int .i64 a0_2_0, .int .i64 a0_2_1, .bool a0_2_2], .agg 87 [.int .i64 a0_3_0, .int .i64 a0_3_1, .bool a0_3_2], .sl 3 (a0_4.map (D.int .i64)), .int .i64 a0_5])] → p_spyref3_RowFault_l1 L  tl s14 s15 = some o →
    Q_p_spyref3_RowFault_l1 a0_4 a0_0 a0_1_0_0 a0_1_0_1 a0_1_0_2 a0_1_1_0 a0_1_1_1 a0_1_1_2 a0_1_2_0 a0_1_2_1 a0_1_2_2 a0_2_0 a0_2_1 a0_2_2 a0_3_0 a0_3_1 a0_3_2 a0_5 o (iter (evC Try.prog (G_spyref3_RowFault L) (evF Try.prog (G_spyref3_RowFault L) T_spyref3_RowFault L 0) L en46.ms 0 2 lb46_2) (maskOf en46.ms 2) n env st) := by
  intro tl
  induction tl with
  | nil =>
    intro n s14 s15 env st o hn hR he hb0 h
    obtain ⟨n, rfl⟩ : ∃ m, n = m + 1 := ⟨n - 1, by omega⟩
    obtain ⟨be0, bv0, bl0⟩ := hb0
    generalize hQ : Q_p_spyref3_RowFault_l1 a0_4 a0_0 a0_1_0_0 a0_1_0_1 a0_1_0_2 a0_1_1_0 a0_1_1_1 a0_1_1_2 a0_1_2_0 a0_1_2_1 a0_1_2_2 a0_2_0 a0_2_1 a0_2_2 a0_3_0 a0_3_1 a0_3_2 a0_5 = Q
    have g0 := rng_nil hR
    rw [iter, he]
    clear he
    generalize hK : iter _ _ n = K
    rw [p_spyref3_RowFault_l1] at h
    revert h
    rintro ⟨⟩
    simp only [go_sem, *]
    subst hQ
    refine (⟨_, _, rfl, ?_, ?_⟩ : Q0_p_spyref3_RowFault_l1 _ _ _ _ _ _ _ _ _ _ _ _ _ _ _ _ _ _ _ _)
    all_goals simp only [go_sem, *]
  | cons x13 tl ih =>
    intro n s14 s15 env st o hn hR he hb0 h
    obtain ⟨n, rfl⟩ : ∃ m, n = m + 1 := ⟨n - 1, by omega⟩
    obtain ⟨be0, bv0, bl0⟩ := hb0
    generalize hQ : Q_p_spyref3_RowFault_l1 a0_4 a0_0 a0_1_0_0 a0_1_0_1 a0_1_0_2 a0_1_1_0 a0_1_1_1 a0_1_1_2 a0_1_2_0 a0_1_2_1 a0_1_2_2 a0_2_0 a0_2_1 a0_2_2 a0_3_0 a0_3_1 a0_3_2 a0_5 = Q at ih ⊢
    replace ih : Hold _ := ih
    replace hR := rng_s hR
    obtain ⟨g0, g1, g2, g3, hR⟩ := hR
    rw [iter, he]
    clear he
    generalize hK : iter _ _ n = K
    rw [p_spyref3_RowFault_l1] at h
    revert h
    refine ite_i (fun c1 => ?_) (fun c1 => ?_)
    · rintro ⟨⟩
      simp only [go_sem, *]
      subst hQ
      refine (⟨_, _, rfl, ?_⟩ : Q1_p_spyref3_RowFault_l1 _ _ _ _ _ _ _ _ _ _ _ _ _ _ _ _ _ _ _ _)
      all_goals simp only [go_sem, *]
    · refine ite_i (fun c2 => ?_) (fun c2 => ?_)
      · rintro ⟨⟩
        simp only [go_sem, *]
        subst hQ
        refine (⟨_, _, rfl, ?_⟩ : Q1_p_spyref3_RowFault_l1 _ _ _ _ _ _ _ _ _ _ _ _ _ _ _ _ _ _ _ _)
        all_goals simp only [go_sem, *]
      · refine ite_i (fun c3 => ?_) (fun c3 => ?_)
        · refine ite_i (fun c4 => ?_) (fun c4 => ?_)
          · rintro ⟨⟩
            simp only [go_sem, *]
            subst hQ
            refine (⟨_, _, rfl, ?_⟩ : Q1_p_spyref3_RowFault_l1 _ _ _ _ _ _ _ _ _ _ _ _ _ _ _ _ _ _ _ _)
            all_goals simp only [go_sem, *]
          · intro h
            simp only [go_sem, *]
            subst hK
            refine ih n (s14 + 1) x13 _ _ _ (by simp only [List.length_cons] at hn; omega) hR ?_ ?_ h
            all_goals simp only [go_sem, *]
        · intro h
          simp only [go_sem, *]
          subst hK
          refine ih n (s14 + 1) x13 _ _ _ (by simp only [List.length_cons] at hn; omega) hR ?_ ?_ h
          all_goals simp only [go_sem, *]
theorem e_spyref3_RowFault (L : Nat) (hL : L ≤ 4611686018427387904) (a0_0 : Int) (a0_1_0_0 : Int) (a0_1_0_1 : Int) (a0_1_0_2 : Bool) (a0_1_1_0 : Int) (a0_1_1_1 : Int) (a0_1_1_2 : Bool) (a0_1_2_0 : Int) (a0_1_2_1 : Int) (a0_1_2_2 : Bool) (a0_2_0 : Int) (a0_2_1 : Int) (a0_2_2 : Bool) (a0_3_0 : Int) (a0_3_1 : Int) (a0_3_2 : Bool) (a0_4 : List Int) (a0_5 : Int) (res : Int) (h : p_spyref3_RowFault L a0_0 a0_1_0_0 a0_1_0_1 a0_1_0_2 a0_1_1_0 a0_1_1_1 a0_1_1_2 a0_1_2_0 a0_1_2_1 a0_1_2_2 a0_2_0 a0_2_1 a0_2_2 a0_3_0 a0_3_1 a0_3_2 a0_4 a0_5 = some res) : evTop Try.prog (G_spyref3_RowFault L) T_spyref3_RowFault L 1 46 [.agg 89 [.int .i64 a0_0, .agg 66 [.agg 64 [.int .i64 a0_1_0_0, .int .i64 a0_1_0_1, .bool a0_1_0_2], .agg 64 [.int .i64 a0_1_1_0, .int .i64 a0_1_1_1, .bool a0_1_1_2], .agg 64 [.int .i64 a0_1_2_0, .int .i64 a0_1_2_1, .bool a0_1_2_2]], .agg 35 [.int .i64 a0_2_0, .int .i64 a0_2_1, .bool a0_2_2], .agg 87 [.int .i64 a0_3_0, .int .i64 a0_3_1, .bool a0_3_2], .sl 3 (a0_4.map (D.int .i64)), .int .i64 a0_5]] = some [.int .i64 res] := by
  revert h
  unfold p_spyref3_RowFault evTop
  simp only [List.map]
  rw [evF_s (fn := Try.f46) (msk := en46.ms) (hT := by rfl) (hb := by rfl)]
  refine ite_i (fun c1 => ?_) (fun c1 => ?_)
  · rintro ⟨⟩
    simp only [go_sem, *]
  · refine ite_i (fun c2 => ?_) (fun c2 => ?_)
    · rintro ⟨⟩
      simp only [go_sem, *]
    · refine bnd_i fun r1 c3 => ?_
      refine bnd_i fun r2 c4 => ?_
      refine bnd_i fun r3 c5 => ?_
      refine bnd_i fun r4 c6 => ?_
      refine bnd_i fun r5 c7 => ?_
      refine rq_i fun c8 => ?_
      refine bnd_i fun o11 ho9 => ?_
      intro h
      simp only [go_sem, *]
      generalize hz11 : iter _ _ _ _ _ = z10
      have hq12 : Q_p_spyref3_RowFault_l0 a0_0 a0_1_0_0 a0_1_0_1 a0_1_0_2 a0_1_1_0 a0_1_1_1 a0_1_1_2 a0_1_2_0 a0_1_2_1 a0_1_2_2 a0_2_0 a0_2_1 a0_2_2 a0_3_0 a0_3_1 a0_3_2 a0_4 a0_5 ([r1, r2, r3, r4, r5]) o11 z10 := by
        rw [← hz11]
        refine l_p_spyref3_RowFault_l0 L hL a0_0 a0_1_0_0 a0_1_0_1 a0_1_0_2 a0_1_1_0 a0_1_1_1 a0_1_1_2 a0_1_2_0 a0_1_2_1 a0_1_2_2 a0_2_0 a0_2_1 a0_2_2 a0_3_0 a0_3_1 a0_3_2 a0_4 a0_5 ([r1, r2, r3, r4, r5]) _ L 0  _ _ _ c8 (cnt_0 (by decide) (by decide)) ?_ ?_ ?_ ho9
        all_goals simp only [go_sem, *]
      clear hz11 ho9
      rcases o11 with o11_0 | o11_1
      · obtain ⟨_, st12, rfl, rfl, ⟨k131, k132, k133⟩⟩ := hq12
        dsimp only at h
        revert h
        refine cb_i (fun c14 => ?_) (fun c14 => ?_)
        · rintro ⟨⟩
          simp only [go_sem, *]
        · refine ite_i (fun c15 => ?_) (fun c15 => ?_)
          · rintro ⟨⟩
            simp only [go_sem, *]
          · refine rq_i fun c16 => ?_
            refine bnd_i fun o16 ho17 => ?_
            intro h
            simp only [go_sem, *]
            generalize hz19 : iter _ _ _ _ _ = z18
            have hq20 : Q_p_spyref3_RowFault_l1 a0_4 a0_0 a0_1_0_0 a0_1_0_1 a0_1_0_2 a0_1_1_0 a0_1_1_1 a0_1_1_2 a0_1_2_0 a0_1_2_1 a0_1_2_2 a0_2_0 a0_2_1 a0_2_2 a0_3_0 a0_3_1 a0_3_2 a0_5 o16 z18 := by
              rw [← hz19]
              refine l_p_spyref3_RowFault_l1 L hL a0_4 a0_0 a0_1_0_0 a0_1_0_1 a0_1_0_2 a0_1_1_0 a0_1_1_1 a0_1_1_2 a0_1_2_0 a0_1_2_1 a0_1_2_2 a0_2_0 a0_2_1 a0_2_2 a0_3_0 a0_3_1 a0_3_2 a0_5 a0_4 L 0 0 _ _ _ c16 (rng_0 c16 hL) ?_ ?_ ho17
              all_goals simp only [go_sem, *]
            clear hz19 ho17
            rcases o16 with o16_0 | o16_1
            · obtain ⟨_, st17, rfl, rfl, ⟨k211, k212, k213⟩⟩ := hq20
              dsimp only at h
              revert h
              refine ite_i (fun c22 => ?_) (fun c22 => ?_)
              · rintro ⟨⟩
                simp only [go_sem, *]
              · refine ite_i (fun c23 => ?_) (fun c23 => ?_)
                · rintro ⟨⟩
                  simp only [go_sem, *]
                · rintro ⟨⟩
                  simp only [go_sem, *]
            · obtain ⟨_, st18, rfl, rfl⟩ := hq20
              dsimp only at h
              revert h
              rintro ⟨⟩
              simp only [go_sem, *]
      · obtain ⟨_, st19, rfl, rfl⟩ := hq12
        dsimp only at h
        revert h
        rintro ⟨⟩
        simp only [go_sem, *]
noncomputable def s_spyref3_RowFault (L : Nat) : Ev.Spec := specP (cCons k89 cNil) (fun x => p_spyref3_RowFault L x.1.1 x.1.2.1.1.1 x.1.2.1.1.2.1 x.1.2.1.1.2.2.1 x.1.2.1.2.1.1 x.1.2.1.2.1.2.1 x.1.2.1.2.1.2.2.1 x.1.2.1.2.2.1.1 x.1.2.1.2.2.1.2.1 x.1.2.1.2.2.1.2.2.1 x.1.2.2.1.1 x.1.2.2.1.2.1 x.1.2.2.1.2.2.1 x.1.2.2.2.1.1 x.1.2.2.2.1.2.1 x.1.2.2.2.1.2.2.1 x.1.2.2.2.2.1 x.1.2.2.2.2.2.1) (fun r => [.int .i64 r])
theorem s_spyref3_RowFault_run (L : Nat) (a0_0 : Int) (a0_1_0_0 : Int) (a0_1_0_1 : Int) (a0_1_0_2 : Bool) (a0_1_1_0 : Int) (a0_1_1_1 : Int) (a0_1_1_2 : Bool) (a0_1_2_0 : Int) (a0_1_2_1 : Int) (a0_1_2_2 : Bool) (a0_2_0 : Int) (a0_2_1 : Int) (a0_2_2 : Bool) (a0_3_0 : Int) (a0_3_1 : Int) (a0_3_2 : Bool) (a0_4 : List Int) (a0_5 : Int) : (s_spyref3_RowFault L).run [.agg 89 [.int .i64 a0_0, .agg 66 [.agg 64 [.int .i64 a0_1_0_0, .int .i64 a0_1_0_1, .bool a0_1_0_2], .agg 64 [.int .i64 a0_1_1_0, .int .i64 a0_1_1_1, .bool a0_1_1_2], .agg 64 [.int .i64 a0_1_2_0, .int .i64 a0_1_2_1, .bool a0_1_2_2]], .agg 35 [.int .i64 a0_2_0, .int .i64 a0_2_1, .bool a0_2_2], .agg 87 [.int .i64 a0_3_0, .int .i64 a0_3_1, .bool a0_3_2], .sl 3 (a0_4.map (D.int .i64)), .int .i64 a0_5]] = (p_spyref3_RowFault L a0_0 a0_1_0_0 a0_1_0_1 a0_1_0_2 a0_1_1_0 a0_1_1_1 a0_1_1_2 a0_1_2_0 a0_1_2_1 a0_1_2_2 a0_2_0 a0_2_1 a0_2_2 a0_3_0 a0_3_1 a0_3_2 a0_4 a0_5).map fun r => [.int .i64 r] := specP_run (cCons k89 cNil) (fun x => p_spyref3_RowFault L x.1.1 x.1.2.1.1.1 x.1.2.1.1.2.1 x.1.2.1.1.2.2.1 x.1.2.1.2.1.1 x.1.2.1.2.1.2.1 x.1.2.1.2.1.2.2.1 x.1.2.1.2.2.1.1 x.1.2.1.2.2.1.2.1 x.1.2.1.2.2.1.2.2.1 x.1.2.2.1.1 x.1.2.2.1.2.1 x.1.2.2.1.2.2.1 x.1.2.2.2.1.1 x.1.2.2.2.1.2.1 x.1.2.2.2.1.2.2.1 x.1.2.2.2.2.1 x.1.2.2.2.2.2.1) (fun r => [.int .i64 r]) ((a0_0, ((a0_1_0_0, a0_1_0_1, a0_1_0_2, ()), (a0_1_1_0, a0_1_1_1, a0_1_1_2, ()), (a0_1_2_0, a0_1_2_1, a0_1_2_2, ()), ()), (a0_2_0, a0_2_1, a0_2_2, ()), (a0_3_0, a0_3_1, a0_3_2, ()), a0_4, a0_5, ()), ())
theorem ok_spyref3_RowFault (L : Nat) (hL : L ≤ 4611686018427387904) : SpecOk Try.prog 46 (s_spyref3_RowFault L) := specP_ok mixed (Go_spyref3_RowFault L hL) (To_spyref3_RowFault L) fun x r h => ⟨L, 1, e_spyref3_RowFault L hL x.1.1 x.1.2.1.1.1 x.1.2.1.1.2.1 x.1.2.1.1.2.2.1 x.1.2.1.2.1.1 x.1.2.1.2.1.2.1 x.1.2.1.2.1.2.2.1 x.1.2.1.2.2.1.1 x.1.2.1.2.2.1.2.1 x.1.2.1.2.2.1.2.2.1 x.1.2.2.1.1 x.1.2.2.1.2.1 x.1.2.2.1.2.2.1 x.1.2.2.2.1.1 x.1.2.2.2.1.2.1 x.1.2.2.2.1.2.2.1 x.1.2.2.2.2.1 x.1.2.2.2.2.2.1 r h⟩
end Go.Proofs.Ytnojehmbiceceaa.P
end
section
set_option linter.unusedVariables false
set_option linter.unusedSimpArgs false
set_option maxRecDepth 100000
namespace Go.Proofs.Ytnojehmbiceceaa.P
open Go.Ev Go.IntKind Go.Proofs.Ytnojehmbiceceaa Go.Proofs.Ytnojehmbiceceaa.Ty Go.Proofs.Ytnojehmbiceceaa.E
def p_spyref3_RowsFault_l0 (L : Nat) (a0 : List (Int × ((Int × Int × Bool × Unit) × (Int × Int × Bool × Unit) × (Int × Int × Bool × Unit) × Unit) × (Int × Int × Bool × Unit) × (Int × Int × Bool × Unit) × (List Int) × Int × Unit)) : List (Int × ((Int × Int × Bool × Unit) × (Int × Int × Bool × Unit) × (Int × Int × Bool × Unit) × Unit) × (Int × Int × Bool × Unit) × (Int × Int × Bool × Unit) × (List Int) × Int × Unit) → Int → Option (Sum Unit Int)
  | [], s2 => some (.inl ())
  | x1 :: tl, s2 => bnd (p_spyref3_RowFault L x1.1 x1.2.1.1.1 x1.2.1.1.2.1 x1.2.1.1.2.2.1 x1.2.1.2.1.1 x1.2.1.2.1.2.1 x1.2.1.2.1.2.2.1 x1.2.1.2.2.1.1 x1.2.1.2.2.1.2.1 x1.2.1.2.2.1.2.2.1 x1.2.2.1.1 x1.2.2.1.2.1 x1.2.2.1.2.2.1 x1.2.2.2.1.1 x1.2.2.2.1.2.1 x1.2.2.2.1.2.2.1 x1.2.2.2.2.1 x1.2.2.2.2.2.1) fun r5 => cb (decide (r5 = 0)) (if s2 > 0 then (bnd (idx a0 (i64.wrap (s2 - 1))) fun x6 => if x6.1 ≥ x1.1 then (some (.inr 11)) else (p_spyref3_RowsFault_l0 L a0 tl (s2 + 1))) else (p_spyref3_RowsFault_l0 L a0 tl (s2 + 1))) (some (.inr r5))
def p_spyref3_RowsFault (L : Nat) (a0 : List (Int × ((Int × Int × Bool × Unit) × (Int × Int × Bool × Unit) × (Int × Int × Bool × Unit) × Unit) × (Int × Int × Bool × Unit) × (Int × Int × Bool × Unit) × (List Int) × Int × Unit)) : Option Int := if (a0.length : Int) > 200 then (some 2) else (rq (a0.length < L) <| bnd (p_spyref3_RowsFault_l0 L a0 a0 0) fun o7 => match o7 with | (.inl o7_0) => (some 0) | (.inr o7_1) => (some o7_1))
noncomputable def G_spyref3_RowsFault (L : Nat) : Specs := [(46, s_spyref3_RowFault L)]
noncomputable def T_spyref3_RowsFault : Table := tableOf [(42, en42)]
theorem Go_spyref3_RowsFault (L : Nat) (hL : L ≤ 4611686018427387904) : ∀ g s, Ev.look (G_spyref3_RowsFault L) g = some s → SpecOk Try.prog g s := (specs_cons (ok_spyref3_RowFault L hL) specs_nil)
theorem To_spyref3_RowsFault (L : Nat) : TableOk Try.prog ((G_spyref3_RowsFault L).map (·.1)) T_spyref3_RowsFault := (table_cons Try.func42 (by kernel_rfl) (by kernel_rfl) table_nil)
theorem lk_spyref3_RowsFault_46 (L : Nat) : Ev.look (G_spyref3_RowsFault L) 46 = some (s_spyref3_RowFault L) := nr rfl
attribute [local go_sem] Ty.tk3 Ty.ik3 Ty.ek3 Ty.zv3 Ty.by3 Ty.so3 Ty.tk4 Ty.ub4 Ty.ek4 Ty.zv4 Ty.by4 Ty.so4 Ty.tk22 Ty.zv22 Ty.by22 Ty.so22 Ty.tk24 Ty.ik24 Ty.ek24 Ty.zv24 Ty.by24 Ty.so24 Ty.tk27 Ty.ik27 Ty.ek27 Ty.zv27 Ty.by27 Ty.so27 Ty.tk35 Ty.ct35 Ty.ek35 Ty.zv35 Ty.by35 Ty.so35 Ty.tk62 Ty.ik62 Ty.ek62 Ty.zv62 Ty.by62 Ty.so62 Ty.tk64 Ty.ct64 Ty.ek64 Ty.zv64 Ty.by64 Ty.so64 Ty.tk66 Ty.ct66 Ty.ek66 Ty.zv66 Ty.by66 Ty.so66 Ty.tk70 Ty.zv70 Ty.by70 Ty.so70 Ty.tk72 Ty.ik72 Ty.ek72 Ty.zv72 Ty.by72 Ty.so72 Ty.tk87 Ty.ct87 Ty.ek87 Ty.zv87 Ty.by87 Ty.so87 Ty.tk89 Ty.ct89 Ty.zv89 Ty.by89 Ty.so89 Ty.k22_e Ty.k35_e Ty.k64_e Ty.k66_e Ty.k70_e Ty.k87_e Ty.k89_e E.dw42_9 E.kl42_9 E.nc42_9 E.mk42_0 E.mk42_1000001 E.mk42_1000002 E.mk42_1000000 E.fz42_0 E.fi42_0 E.lb42_0 lk_spyref3_RowsFault_46 s_spyref3_RowFault_run loopN loops Try.f42
def Q0_p_spyref3_RowsFault_l0 (a0 : List (Int × ((Int × Int × Bool × Unit) × (Int × Int × Bool × Unit) × (Int × Int × Bool × Unit) × Unit) × (Int × Int × Bool × Unit) × (Int × Int × Bool × Unit) × (List Int) × Int × Unit)) (u : Unit) (z : Out) : Prop := ∃ env st, z = some (.exit 0, env, st) ∧ env = sp 35 0 []
def Q1_p_spyref3_RowsFault_l0 (a0 : List (Int × ((Int × Int × Bool × Unit) × (Int × Int × Bool × Unit) × (Int × Int × Bool × Unit) × Unit) × (Int × Int × Bool × Unit) × (Int × Int × Bool × Unit) × (List Int) × Int × Unit)) (u : Int) (z : Out) : Prop := ∃ env st, z = some (.ret, env, st) ∧ env = sp 35 0 [(2, .d (.int .i64 u))]
def Q_p_spyref3_RowsFault_l0 (a0 : List (Int × ((Int × Int × Bool × Unit) × (Int × Int × Bool × Unit) × (Int × Int × Bool × Unit) × Unit) × (Int × Int × Bool × Unit) × (Int × Int × Bool × Unit) × (List Int) × Int × Unit)) (o : Sum Unit Int) (z : Out) : Prop := match o with | (.inl u) => Q0_p_spyref3_RowsFault_l0 a0 u z | (.inr u) => Q1_p_spyref3_RowsFault_l0 a0 u z
theorem l_p_spyref3_RowsFault_l0 (L : Nat) (hL : L ≤ 4611686018427387904) (a0 : List (Int × ((Int × Int × Bool × Unit) × (Int × Int × Bool × Unit) × (Int × Int × Bool × Unit) × Unit) × (Int × Int × Bool × Unit) × (Int × Int × Bool × Unit) × (List Int) × Int × Unit)) : ∀ (tl : List (Int × ((Int × Int × Bool × Unit) × (Int × Int × Bool × Unit) × (Int × Int × Bool × Unit) × Unit) × (Int × Int × Bool × Unit) × (Int × Int × Bool × Unit) × (List Int) × Int × Unit)) (n : Nat) (s2 : Int) (env : List V) (st : Store) (o : Sum Unit Int), tl.length < n → Rng a0 s2 tl → mask (maskOf en42.ms 0) env = sp 35 0 [(0, .d (.sl 89 (a0.map k89.e))), (9, .d (.sl 89 (a0.map k89.e))), (10, .d (.int .i64 (a0.length : Int))), (11, .d (.int .i64 s2))] → p_spyref3_RowsFault_l0 L a0 tl s2  = some o →
    Q_p_spyref3_RowsFault_l0 a0 o (iter (evC Try.prog (G_spyref3_RowsFault L) (evF Try.prog (G_spyref3_RowsFault L) T_spyref3_RowsFault L 0) L en42.ms 0 0 lb42_0) (maskOf en42.ms 0) n env st) := by
  intro tl
  induction tl with
  | nil =>
    intro n s2  env st o hn hR he  h
    obtain ⟨n, rfl⟩ : ∃ m, n = m + 1 := ⟨n - 1, by omega⟩
    have g0 := rng_nil hR
    rw [iter, he]
    clear he
    generalize hK : iter _ _ n = K
    rw [p_spyref3_RowsFault_l0] at h
    revert h
    rintro ⟨⟩
    simp only [go_sem, *]
    refine (⟨_, _, rfl, ?_⟩ : Q0_p_spyref3_RowsFault_l0 _ _ _)
    all_goals simp only [go_sem, *]
  | cons x1 tl ih =>
    intro n s2  env st o hn hR he  h
    obtain ⟨n, rfl⟩ : ∃ m, n = m + 1 := ⟨n - 1, by omega⟩
    replace ih : Hold _ := ih
    replace hR := rng_s hR
    obtain ⟨g0, g1, g2, g3, hR⟩ := hR
    rw [iter, he]
    clear he
    generalize hK : iter _ _ n = K
    rw [p_spyref3_RowsFault_l0] at h
    revert h
    refine bnd_i fun r5 c1 => ?_
    refine cb_i (fun c2 => ?_) (fun c2 => ?_)
    · refine ite_i (fun c3 => ?_) (fun c3 => ?_)
      · refine idx_i fun x6 c4 c5 c6 => ?_
        refine ite_i (fun c7 => ?_) (fun c7 => ?_)
        · rintro ⟨⟩
          simp only [go_sem, *]
          refine (⟨_, _, rfl, ?_⟩ : Q1_p_spyref3_RowsFault_l0 _ _ _)
          all_goals simp only [go_sem, *]
        · intro h
          simp only [go_sem, *]
          subst hK
          refine ih n (s2 + 1)  _ _ _ (by simp only [List.length_cons] at hn; omega) hR ?_ h
          all_goals simp only [go_sem, *]
      · intro h
        simp only [go_sem, *]
        subst hK
        refine ih n (s2 + 1)  _ _ _ (by simp only [List.length_cons] at hn; omega) hR ?_ h
        all_goals simp only [go_sem, *]
    · rintro ⟨⟩
      simp only [go_sem, *]
      refine (⟨_, _, rfl, ?_⟩ : Q1_p_spyref3_RowsFault_l0 _ _ _)
      all_goals simp only [go_sem, *]
theorem e_spyref3_RowsFault (L : Nat) (hL : L ≤ 4611686018427387904) (a0 : List (Int × ((Int × Int × Bool × Unit) × (Int × Int × Bool × Unit) × (Int × Int × Bool × Unit) × Unit) × (Int × Int × Bool × Unit) × (Int × Int × Bool × Unit) × (List Int) × Int × Unit)) (res : Int) (h : p_spyref3_RowsFault L a0 = some res) : evTop Try.prog (G_spyref3_RowsFault L) T_spyref3_RowsFault L 1 42 [.sl 89 (a0.map k89.e)] = some [.int .i64 res] := by
  revert h
  unfold p_spyref3_RowsFault evTop
  simp only [List.map]
  rw [evF_s (fn := Try.f42) (msk := en42.ms) (hT := by rfl) (hb := by rfl)]
  refine ite_i (fun c1 => ?_) (fun c1 => ?_)
  · rintro ⟨⟩
    simp only [go_sem, *]
  · refine rq_i fun c2 => ?_
    refine bnd_i fun o7 ho3 => ?_
    intro h
    simp only [go_sem, *]
    generalize hz5 : iter _ _ _ _ _ = z4
    have hq6 : Q_p_spyref3_RowsFault_l0 a0 o7 z4 := by
      rw [← hz5]
      refine l_p_spyref3_RowsFault_l0 L hL a0 a0 L 0  _ _ _ c2 (rng_0 c2 hL) ?_ ho3
      all_goals simp only [go_sem, *]
    clear hz5 ho3
    rcases o7 with o7_0 | o7_1
    · obtain ⟨_, st8, rfl, rfl⟩ := hq6
      dsimp only at h
      revert h
      rintro ⟨⟩
      simp only [go_sem, *]
    · obtain ⟨_, st9, rfl, rfl⟩ := hq6
      dsimp only at h
      revert h
      rintro ⟨⟩
      simp only [go_sem, *]
noncomputable def s_spyref3_RowsFault (L : Nat) : Ev.Spec := specP (cCons k70 cNil) (fun x => p_spyref3_RowsFault L x.1) (fun r => [.int .i64 r])
theorem s_spyref3_RowsFault_run (L : Nat) (a0 : List (Int × ((Int × Int × Bool × Unit) × (Int × Int × Bool × Unit) × (Int × Int × Bool × Unit) × Unit) × (Int × Int × Bool × Unit) × (Int × Int × Bool × Unit) × (List Int) × Int × Unit)) : (s_spyref3_RowsFault L).run [.sl 89 (a0.map k89.e)] = (p_spyref3_RowsFault L a0).map fun r => [.int .i64 r] := specP_run (cCons k70 cNil) (fun x => p_spyref3_RowsFault L x.1) (fun r => [.int .i64 r]) (a0, ())
theorem ok_spyref3_RowsFault (L : Nat) (hL : L ≤ 4611686018427387904) : SpecOk Try.prog 42 (s_spyref3_RowsFault L) := specP_ok mixed (Go_spyref3_RowsFault L hL) (To_spyref3_RowsFault L) fun x r h => ⟨L, 1, e_spyref3_RowsFault L hL x.1 r h⟩
end Go.Proofs.Ytnojehmbiceceaa.P
end
section
set_option linter.unusedVariables false
set_option linter.unusedSimpArgs false
set_option maxRecDepth 100000
namespace Go.Proofs.Ytnojehmbiceceaa.E
open Go.Ev
noncomputable def en43 : Entry := ⟨Try.f43, [(1000000, mb 8 0 [4])]⟩
theorem mk43_1000000 (vs : List V) : mask (maskOf en43.ms 1000000) vs = km 8 0 [4] vs := mask_mb _ _ _ _
end Go.Proofs.Ytnojehmbiceceaa.E
end
section
set_option linter.unusedVariables false
set_option linter.unusedSimpArgs false
set_option maxRecDepth 100000
namespace Go.Proofs.Ytnojehmbiceceaa.E
open Go.Ev
noncomputable def en123 : Entry := ⟨Try.f123, [(0, mb 32 0 [1, 2, 15, 16, 17]), (1000001, mb 32 0 []), (1000002, mb 32 0 [1, 2, 15, 16, 17]), (1000000, mb 32 0 [6])]⟩
theorem mk123_0 (vs : List V) : mask (maskOf en123.ms 0) vs = km 32 0 [1, 2, 15, 16, 17] vs := mask_mb _ _ _ _
theorem mk123_1000001 (vs : List V) : mask (maskOf en123.ms 1000001) vs = km 32 0 [] vs := mask_mb _ _ _ _
theorem mk123_1000002 (vs : List V) : mask (maskOf en123.ms 1000002) vs = km 32 0 [1, 2, 15, 16, 17] vs := mask_mb _ _ _ _
theorem mk123_1000000 (vs : List V) : mask (maskOf en123.ms 1000000) vs = km 32 0 [6] vs := mask_mb _ _ _ _
theorem fz123_0 (lv : Nat) (f : Run) : frzF en123.ms lv 0 f = f := nr rfl
theorem fi123_0 (lv : Nat) (env : List V) (st : Store) (q : Store → Out) : frzI en123.ms lv 0 env st q = q st := nr rfl
noncomputable def lb123_0 : Code := loopN Try.f123 0
end Go.Proofs.Ytnojehmbiceceaa.E
end
section
set_option linter.unusedVariables false
set_option linter.unusedSimpArgs false
set_option maxRecDepth 100000
namespace Go.Proofs.Ytnojehmbiceceaa.E
open Go.Ev
noncomputable def en48 : Entry := ⟨Try.f48, [(1000000, mb 51 0 [4]), (3000001, mb 51 0 [3, 5]), (4000001, mb 51 0 [5]), (5000001, mb 51 0 [5, 6])]⟩
theorem dw48_1 (lv : Nat) (env : List V) (st : Store) (o : Option (List V × Store)) : drawR en48.ms 1 lv env st o = if lv < 1000000000000000000000000000000 then (if (!(st (lv, 5)).live && (!(st (lv, 6)).live && true)) = true then (if apartAll (sel (mb 51 0 [3, 5]) (aenvG lv 0 (mb 51 0 [5]) env)) = true ∧ freeAll (sel (mb 51 0 [5]) env) = true then o else none) else none) else none := nr rfl
theorem kl48_1 (lv : Nat) (st : Store) : killR en48.ms 1 lv st = killAt (killAt (st) (lv, 5)) (lv, 6) := nr rfl
theorem nc48_1 : ncOf en48.ms 1 = false := nr rfl
theorem mk48_1000000 (vs : List V) : mask (maskOf en48.ms 1000000) vs = km 51 0 [4] vs := mask_mb _ _ _ _
end Go.Proofs.Ytnojehmbiceceaa.E
end
section
set_option linter.unusedVariables false
set_option linter.unusedSimpArgs false
set_option maxRecDepth 100000
namespace Go.Proofs.Ytnojehmbiceceaa.P
open Go.Ev Go.IntKind Go.Proofs.Ytnojehmbiceceaa Go.Proofs.Ytnojehmbiceceaa.Ty Go.Proofs.Ytnojehmbiceceaa.E
def p_slices_Equal_int_l0 (L : Nat) (a0 : List Int) (a1 : List Int) : Nat → Int → Option (Sum Unit Unit)
  | 0, s3 => some (.inl ())
  | tl + 1, s3 => bnd (idx a0 s3) fun x6 => bnd (idx a1 s3) fun x7 => cb (decide (x6 = x7)) (p_slices_Equal_int_l0 L a0 a1 tl (s3 + 1)) (some (.inr ()))
def p_slices_Equal_int (L : Nat) (a0 : List Int) (a1 : List Int) : Option Bool := cb (decide ((a0.length : Int) = (a1.length : Int))) (rq ((a0.length : Int).toNat < L) <| rq ((a0.length : Int) < 4611686018427387904) <| bnd (p_slices_Equal_int_l0 L a0 a1 (a0.length : Int).toNat 0) fun o8 => match o8 with | (.inl o8_0) => (some true) | (.inr o8_1) => (some false)) (some false)
noncomputable def G_slices_Equal_int (L : Nat) : Specs := []
noncomputable def T_slices_Equal_int : Table := tableOf [(25, en25)]
theorem Go_slices_Equal_int (L : Nat) (hL : L ≤ 4611686018427387904) : ∀ g s, Ev.look (G_slices_Equal_int L) g = some s → SpecOk Try.prog g s := specs_nil
theorem To_slices_Equal_int (L : Nat) : TableOk Try.prog ((G_slices_Equal_int L).map (·.1)) T_slices_Equal_int := (table_cons Try.func25 (by kernel_rfl) (by kernel_rfl) table_nil)
attribute [local go_sem] Ty.tk3 Ty.ik3 Ty.ek3 Ty.zv3 Ty.by3 Ty.so3 Ty.tk4 Ty.ub4 Ty.ek4 Ty.zv4 Ty.by4 Ty.so4 Ty.tk22 Ty.zv22 Ty.by22 Ty.so22 Ty.k22_e E.dw25_6 E.kl25_6 E.nc25_6 E.mk25_0 E.mk25_1000001 E.mk25_1000002 E.mk25_1000000 E.fz25_0 E.fi25_0 E.lb25_0 loopN loops Try.f25
def Q0_p_slices_Equal_int_l0 (a0 : List Int) (a1 : List Int) (a2 : Int) (u : Unit) (z : Out) : Prop := ∃ env st, z = some (.exit 0, env, st) ∧ env = sp 26 0 []
def Q1_p_slices_Equal_int_l0 (a0 : List Int) (a1 : List Int) (a2 : Int) (u : Unit) (z : Out) : Prop := ∃ env st, z = some (.ret, env, st) ∧ env = sp 26 0 [(4, .d (.bool false))]
def Q_p_slices_Equal_int_l0 (a0 : List Int) (a1 : List Int) (a2 : Int) (o : Sum Unit Unit) (z : Out) : Prop := match o with | (.inl u) => Q0_p_slices_Equal_int_l0 a0 a1 a2 u z | (.inr u) => Q1_p_slices_Equal_int_l0 a0 a1 a2 u z
theorem l_p_slices_Equal_int_l0 (L : Nat) (hL : L ≤ 4611686018427387904) (a0 : List Int) (a1 : List Int) (a2 : Int) : ∀ (tl n : Nat) (s3 : Int) (env : List V) (st : Store) (o : Sum Unit Unit), tl < n → Cnt a2 s3 tl → mask (maskOf en25.ms 0) env = sp 26 0 [(0, .d (.sl 3 (a0.map (D.int .i64)))), (1, .d (.sl 3 (a1.map (D.int .i64)))), (12, .d (.int .i64 a2)), (13, .d (.int .i64 s3))] → p_slices_Equal_int_l0 L a0 a1 tl s3  = some o →
    Q_p_slices_Equal_int_l0 a0 a1 a2 o (iter (evC Try.prog (G_slices_Equal_int L) (evF Try.prog (G_slices_Equal_int L) T_slices_Equal_int L 0) L en25.ms 0 0 lb25_0) (maskOf en25.ms 0) n env st) := by
  intro tl
  induction tl with
  | zero =>
    intro n s3  env st o hn hR he  h
    obtain ⟨n, rfl⟩ : ∃ m, n = m + 1 := ⟨n - 1, by omega⟩
    have g0 := cnt_nil hR
    rw [iter, he]
    clear he
    generalize hK : iter _ _ n = K
    rw [p_slices_Equal_int_l0] at h
    revert h
    rintro ⟨⟩
    simp only [go_sem, *]
    refine (⟨_, _, rfl, ?_⟩ : Q0_p_slices_Equal_int_l0 _ _ _ _ _)
    all_goals simp only [go_sem, *]
  | succ tl ih =>
    intro n s3  env st o hn hR he  h
    obtain ⟨n, rfl⟩ : ∃ m, n = m + 1 := ⟨n - 1, by omega⟩
    replace ih : Hold _ := ih
    replace hR := cnt_s hR
    obtain ⟨g0, g1, g3, hR⟩ := hR
    rw [iter, he]
    clear he
    generalize hK : iter _ _ n = K
    rw [p_slices_Equal_int_l0] at h
    revert h
    refine idx_i fun x6 c1 c2 c3 => ?_
    refine idx_i fun x7 c4 c5 c6 => ?_
    refine cb_i (fun c7 => ?_) (fun c7 => ?_)
    · intro h
      simp only [go_sem, *]
      subst hK
      refine ih n (s3 + 1)  _ _ _ (by omega) hR ?_ h
      all_goals simp only [go_sem, *]
    · rintro ⟨⟩
      simp only [go_sem, *]
      refine (⟨_, _, rfl, ?_⟩ : Q1_p_slices_Equal_int_l0 _ _ _ _ _)
      all_goals simp only [go_sem, *]
theorem e_slices_Equal_int (L : Nat) (hL : L ≤ 4611686018427387904) (a0 : List Int) (a1 : List Int) (res : Bool) (h : p_slices_Equal_int L a0 a1 = some res) : evTop Try.prog (G_slices_Equal_int L) T_slices_Equal_int L 1 25 [.sl 3 (a0.map (D.int .i64)), .sl 3 (a1.map (D.int .i64))] = some [.bool res] := by
  revert h
  unfold p_slices_Equal_int evTop
  simp only [List.map]
  rw [evF_s (fn := Try.f25) (msk := en25.ms) (hT := by rfl) (hb := by rfl)]
  refine cb_i (fun c1 => ?_) (fun c1 => ?_)
  · refine rq_i fun c2 => ?_
    refine rq_i fun c3 => ?_
    refine bnd_i fun o8 ho4 => ?_
    intro h
    simp only [go_sem, *]
    generalize hz6 : iter _ _ _ _ _ = z5
    have hq7 : Q_p_slices_Equal_int_l0 a0 a1 (a0.length : Int) o8 z5 := by
      rw [← hz6]
      refine l_p_slices_Equal_int_l0 L hL a0 a1 (a0.length : Int) _ L 0  _ _ _ c2 (cnt_00 (by decide) c3) ?_ ho4
      all_goals simp only [go_sem, *]
    clear hz6 ho4
    rcases o8 with o8_0 | o8_1
    · obtain ⟨_, st9, rfl, rfl⟩ := hq7
      dsimp only at h
      revert h
      rintro ⟨⟩
      simp only [go_sem, *]
    · obtain ⟨_, st10, rfl, rfl⟩ := hq7
      dsimp only at h
      revert h
      rintro ⟨⟩
      simp only [go_sem, *]
  · rintro ⟨⟩
    simp only [go_sem, *]
noncomputable def s_slices_Equal_int (L : Nat) : Ev.Spec := specP (cCons k22 (cCons k22 cNil)) (fun x => p_slices_Equal_int L x.1 x.2.1) (fun r => [.bool r])
theorem s_slices_Equal_int_run (L : Nat) (a0 : List Int) (a1 : List Int) : (s_slices_Equal_int L).run [.sl 3 (a0.map (D.int .i64)), .sl 3 (a1.map (D.int .i64))] = (p_slices_Equal_int L a0 a1).map fun r => [.bool r] := specP_run (cCons k22 (cCons k22 cNil)) (fun x => p_slices_Equal_int L x.1 x.2.1) (fun r => [.bool r]) (a0, a1, ())
theorem ok_slices_Equal_int (L : Nat) (hL : L ≤ 4611686018427387904) : SpecOk Try.prog 25 (s_slices_Equal_int L) := specP_ok mixed (Go_slices_Equal_int L hL) (To_slices_Equal_int L) fun x r h => ⟨L, 1, e_slices_Equal_int L hL x.1 x.2.1 r h⟩
end Go.Proofs.Ytnojehmbiceceaa.P
end
section
set_option linter.unusedVariables false
set_option linter.unusedSimpArgs false
set_option maxRecDepth 100000
namespace Go.Proofs.Ytnojehmbiceceaa.P
open Go.Ev Go.IntKind Go.Proofs.Ytnojehmbiceceaa Go.Proofs.Ytnojehmbiceceaa.Ty Go.Proofs.Ytnojehmbiceceaa.E
def p_spyref3_SameRow (L : Nat) (a0_0 : Int) (a0_1_0_0 : Int) (a0_1_0_1 : Int) (a0_1_0_2 : Bool) (a0_1_1_0 : Int) (a0_1_1_1 : Int) (a0_1_1_2 : Bool) (a0_1_2_0 : Int) (a0_1_2_1 : Int) (a0_1_2_2 : Bool) (a0_2_0 : Int) (a0_2_1 : Int) (a0_2_2 : Bool) (a0_3_0 : Int) (a0_3_1 : Int) (a0_3_2 : Bool) (a0_4 : List Int) (a0_5 : Int) (a1_0 : Int) (a1_1_0_0 : Int) (a1_1_0_1 : Int) (a1_1_0_2 : Bool) (a1_1_1_0 : Int) (a1_1_1_1 : Int) (a1_1_1_2 : Bool) (a1_1_2_0 : Int) (a1_1_2_1 : Int) (a1_1_2_2 : Bool) (a1_2_0 : Int) (a1_2_1 : Int) (a1_2_2 : Bool) (a1_3_0 : Int) (a1_3_1 : Int) (a1_3_2 : Bool) (a1_4 : List Int) (a1_5 : Int) : Option Bool := bnd (p_slices_Equal_int L a0_4 a1_4) fun r1 => cb r1 (cb (decide (a0_0 = a1_0)) (cb (((decide (a0_1_0_0 = a1_1_0_0)) && ((decide (a0_1_0_1 = a1_1_0_1)) && (a0_1_0_2 == a1_1_0_2))) && (((decide (a0_1_1_0 = a1_1_1_0)) && ((decide (a0_1_1_1 = a1_1_1_1)) && (a0_1_1_2 == a1_1_1_2))) && ((decide (a0_1_2_0 = a1_1_2_0)) && ((decide (a0_1_2_1 = a1_1_2_1)) && (a0_1_2_2 == a1_1_2_2))))) (cb ((decide (a0_2_0 = a1_2_0)) && ((decide (a0_2_1 = a1_2_1)) && (a0_2_2 == a1_2_2))) (cb ((decide (a0_3_0 = a1_3_0)) && ((decide (a0_3_1 = a1_3_1)) && (a0_3_2 == a1_3_2))) (some (decide (a0_5 = a1_5))) (some false)) (some false)) (some false)) (some false)) (some false)
noncomputable def G_spyref3_SameRow (L : Nat) : Specs := [(25, s_slices_Equal_int L)]
noncomputable def T_spyref3_SameRow : Table := tableOf [(48, en48)]
theorem Go_spyref3_SameRow (L : Nat) (hL : L ≤ 4611686018427387904) : ∀ g s, Ev.look (G_spyref3_SameRow L) g = some s → SpecOk Try.prog g s := (specs_cons (ok_slices_Equal_int L hL) specs_nil)
theorem To_spyref3_SameRow (L : Nat) : TableOk Try.prog ((G_spyref3_SameRow L).map (·.1)) T_spyref3_SameRow := (table_cons Try.func48 (by kernel_rfl) (by kernel_rfl) table_nil)
theorem lk_spyref3_SameRow_25 (L : Nat) : Ev.look (G_spyref3_SameRow L) 25 = some (s_slices_Equal_int L) := nr rfl
attribute [local go_sem] Ty.tk3 Ty.ik3 Ty.ek3 Ty.zv3 Ty.by3 Ty.so3 Ty.tk4 Ty.ub4 Ty.ek4 Ty.zv4 Ty.by4 Ty.so4 Ty.tk22 Ty.zv22 Ty.by22 Ty.so22 Ty.tk24 Ty.ik24 Ty.ek24 Ty.zv24 Ty.by24 Ty.so24 Ty.tk35 Ty.ct35 Ty.ek35 Ty.zv35 Ty.by35 Ty.so35 Ty.tk62 Ty.ik62 Ty.ek62 Ty.zv62 Ty.by62 Ty.so62 Ty.tk64 Ty.ct64 Ty.ek64 Ty.zv64 Ty.by64 Ty.so64 Ty.tk66 Ty.ct66 Ty.ek66 Ty.zv66 Ty.by66 Ty.so66 Ty.tk72 Ty.ik72 Ty.ek72 Ty.zv72 Ty.by72 Ty.so72 Ty.tk87 Ty.ct87 Ty.ek87 Ty.zv87 Ty.by87 Ty.so87 Ty.tk89 Ty.ct89 Ty.zv89 Ty.by89 Ty.so89 Ty.k22_e Ty.k35_e Ty.k64_e Ty.k66_e Ty.k87_e Ty.k89_e E.dw48_1 E.kl48_1 E.nc48_1 E.mk48_1000000 lk_spyref3_SameRow_25 s_slices_Equal_int_run loopN loops Try.f48
theorem e_spyref3_SameRow (L : Nat) (hL : L ≤ 4611686018427387904) (a0_0 : Int) (a0_1_0_0 : Int) (a0_1_0_1 : Int) (a0_1_0_2 : Bool) (a0_1_1_0 : Int) (a0_1_1_1 : Int) (a0_1_1_2 : Bool) (a0_1_2_0 : Int) (a0_1_2_1 : Int) (a0_1_2_2 : Bool) (a0_2_0 : Int) (a0_2_1 : Int) (a0_2_2 : Bool) (a0_3_0 : Int) (a0_3_1 : Int) (a0_3_2 : Bool) (a0_4 : List Int) (a0_5 : Int) (a1_0 : Int) (a1_1_0_0 : Int) (a1_1_0_1 : Int) (a1_1_0_2 : Bool) (a1_1_1_0 : Int) (a1_1_1_1 : Int) (a1_1_1_2 : Bool) (a1_1_2_0 : Int) (a1_1_2_1 : Int) (a1_1_2_2 : Bool) (a1_2_0 : Int) (a1_2_1 : Int) (a1_2_2 : Bool) (a1_3_0 : Int) (a1_3_1 : Int) (a1_3_2 : Bool) (a1_4 : List Int) (a1_5 : Int) (res : Bool) (h : p_spyref3_SameRow L a0_0 a0_1_0_0 a0_1_0_1 a0_1_0_2 a0_1_1_0 a0_1_1_1 a0_1_1_2 a0_1_2_0 a0_1_2_1 a0_1_2_2 a0_2_0 a0_2_1 a0_2_2 a0_3_0 a0_3_1 a0_3_2 a0_4 a0_5 a1_0 a1_1_0_0 a1_1_0_1 a1_1_0_2 a1_1_1_0 a1_1_1_1 a1_1_1_2 a1_1_2_0 a1_1_2_1 a1_1_2_2 a1_2_0 a1_2_1 a1_2_2 a1_3_0 a1_3_1 a1_3_2 a1_4 a1_5 = some res) : evTop Try.prog (G_spyref3_SameRow L) T_spyref3_SameRow L 1 48 [.agg 89 [.int .i64 a0_0, .agg 66 [.agg 64 [.int .i64 a0_1_0_0, .int .i64 a0_1_0_1, .bool a0_1_0_2], .agg 64 [.int .i64 a0_1_1_0, .int .i64 a0_1_1_1, .bool a0_1_1_2], .agg 64 [.int .i64 a0_1_2_0, .int .i64 a0_1_2_1, .bool a0_1_2_2]], .agg 35 [.int .i64 a0_2_0, .int .i64 a0_2_1, .bool a0_2_2], .agg 87 [.int .i64 a0_3_0, .int .i64 a0_3_1, .bool a0_3_2], .sl 3 (a0_4.map (D.int .i64)), .int .i64 a0_5], .agg 89 [.int .i64 a1_0, .agg 66 [.agg 64 [.int .i64 a1_1_0_0, .int .i64 a1_1_0_1, .bool a1_1_0_2], .agg 64 [.int .i64 a1_1_1_0, .int .i64 a1_1_1_1, .bool a1_1_1_2], .agg 64 [.int .i64 a1_1_2_0, .int .i64 a1_1_2_1, .bool a1_1_2_2]], .agg 35 [.int .i64 a1_2_0, .int .i64 a1_2_1, .bool a1_2_2], .agg 87 [.int .i64 a1_3_0, .int .i64 a1_3_1, .bool a1_3_2], .sl 3 (a1_4.map (D.int .i64)), .int .i64 a1_5]] = some [.bool res] := by
  revert h
  unfold p_spyref3_SameRow evTop
  simp only [List.map]
  rw [evF_s (fn := Try.f48) (msk := en48.ms) (hT := by rfl) (hb := by rfl)]
  refine bnd_i fun r1 c1 => ?_
  refine cb_i (fun c2 => ?_) (fun c2 => ?_)
  · refine cb_i (fun c3 => ?_) (fun c3 => ?_)
    · refine cb_i (fun c4 => ?_) (fun c4 => ?_)
      · refine cb_i (fun c5 => ?_) (fun c5 => ?_)
        · refine cb_i (fun c6 => ?_) (fun c6 => ?_)
          · rintro ⟨⟩
            simp only [go_sem, *]
          · rintro ⟨⟩
            simp only [go_sem, *]
        · rintro ⟨⟩
          simp only [go_sem, *]
      · rintro ⟨⟩
        simp only [go_sem, *]
    · rintro ⟨⟩
      simp only [go_sem, *]
  · rintro ⟨⟩
    simp only [go_sem, *]
noncomputable def s_spyref3_SameRow (L : Nat) : Ev.Spec := specP (cCons k89 (cCons k89 cNil)) (fun x => p_spyref3_SameRow L x.1.1 x.1.2.1.1.1 x.1.2.1.1.2.1 x.1.2.1.1.2.2.1 x.1.2.1.2.1.1 x.1.2.1.2.1.2.1 x.1.2.1.2.1.2.2.1 x.1.2.1.2.2.1.1 x.1.2.1.2.2.1.2.1 x.1.2.1.2.2.1.2.2.1 x.1.2.2.1.1 x.1.2.2.1.2.1 x.1.2.2.1.2.2.1 x.1.2.2.2.1.1 x.1.2.2.2.1.2.1 x.1.2.2.2.1.2.2.1 x.1.2.2.2.2.1 x.1.2.2.2.2.2.1 x.2.1.1 x.2.1.2.1.1.1 x.2.1.2.1.1.2.1 x.2.1.2.1.1.2.2.1 x.2.1.2.1.2.1.1 x.2.1.2.1.2.1.2.1 x.2.1.2.1.2.1.2.2.1 x.2.1.2.1.2.2.1.1 x.2.1.2.1.2.2.1.2.1 x.2.1.2.1.2.2.1.2.2.1 x.2.1.2.2.1.1 x.2.1.2.2.1.2.1 x.2.1.2.2.1.2.2.1 x.2.1.2.2.2.1.1 x.2.1.2.2.2.1.2.1 x.2.1.2.2.2.1.2.2.1 x.2.1.2.2.2.2.1 x.2.1.2.2.2.2.2.1) (fun r => [.bool r])
theorem s_spyref3_SameRow_run (L : Nat) (a0_0 : Int) (a0_1_0_0 : Int) (a0_1_0_1 : Int) (a0_1_0_2 : Bool) (a0_1_1_0 : Int) (a0_1_1_1 : Int) (a0_1_1_2 : Bool) (a0_1_2_0 : Int) (a0_1_2_1 : Int) (a0_1_2_2 : Bool) (a0_2_0 : Int) (a0_2_1 : Int) (a0_2_2 : Bool) (a0_3_0 : Int) (a0_3_1 : Int) (a0_3_2 : Bool) (a0_4 : List Int) (a0_5 : Int) (a1_0 : Int) (a1_1_0_0 : Int) (a1_1_0_1 : Int) (a1_1_0_2 : Bool) (a1_1_1_0 : Int) (a1_1_1_1 : Int) (a1_1_1_2 : Bool) (a1_1_2_0 : Int) (a1_1_2_1 : Int) (a1_1_2_2 : Bool) (a1_2_0 : Int) (a1_2_1 : Int) (a1_2_2 : Bool) (a1_3_0 : Int) (a1_3_1 : Int) (a1_3_2 : Bool) (a1_4 : List Int) (a1_5 : Int) : (s_spyref3_SameRow L).run [.agg 89 [.int .i64 a0_0, .agg 66 [.agg 64 [.int .i64 a0_1_0_0, .int .i64 a0_1_0_1, .bool a0_1_0_2], .agg 64 [.int .i64 a0_1_1_0, .int .i64 a0_1_1_1, .bool a0_1_1_2], .agg 64 [.int .i64 a0_1_2_0, .int .i64 a0_1_2_1, .bool a0_1_2_2]], .agg 35 [.int .i64 a0_2_0, .int .i64 a0_2_1, .bool a0_2_2], .agg 87 [.int .i64 a0_3_0, .int .i64 a0_3_1, .bool a0_3_2], .sl 3 (a0_4.map (D.int .i64)), .int .i64 a0_5], .agg 89 [.int .i64 a1_0, .agg 66 [.agg 64 [.int .i64 a1_1_0_0, .int .i64 a1_1_0_1, .bool a1_1_0_2], .agg 64 [.int .i64 a1_1_1_0, .int .i64 a1_1_1_1, .bool a1_1_1_2], .agg 64 [.int .i64 a1_1_2_0, .int .i64 a1_1_2_1, .bool a1_1_2_2]], .agg 35 [.int .i64 a1_2_0, .int .i64 a1_2_1, .bool a1_2_2], .agg 87 [.int .i64 a1_3_0, .int .i64 a1_3_1, .bool a1_3_2], .sl 3 (a1_4.map (D.int .i64)), .int .i64 a1_5]] = (p_spyref3_SameRow L a0_0 a0_1_0_0 a0_1_0_1 a0_1_0_2 a0_1_1_0 a0_1_1_1 a0_1_1_2 a0_1_2_0 a0_1_2_1 a0_1_2_2 a0_2_0 a0_2_1 a0_2_2 a0_3_0 a0_3_1 a0_3_2 a0_4 a0_5 a1_0 a1_1_0_0 a1_1_0_1 a1_1_0_2 a1_1_1_0 a1_1_1_1 a1_1_1_2 a1_1_2_0 a1_1_2_1 a1_1_2_2 a1_2_0 a1_2_1 a1_2_2 a1_3_0 a1_3_1 a1_3_2 a1_4 a1_5).map fun r => [.bool r] := specP_run (cCons k89 (cCons k89 cNil)) (fun x => p_spyref3_SameRow L x.1.1 x.1.2.1.1.1 x.1.2.1.1.2.1 x.1.2.1.1.2.2.1 x.1.2.1.2.1.1 x.1.2.1.2.1.2.1 x.1.2.1.2.1.2.2.1 x.1.2.1.2.2.1.1 x.1.2.1.2.2.1.2.1 x.1.2.1.2.2.1.2.2.1 x.1.2.2.1.1 x.1.2.2.1.2.1 x.1.2.2.1.2.2.1 x.1.2.2.2.1.1 x.1.2.2.2.1.2.1 x.1.2.2.2.1.2.2.1 x.1.2.2.2.2.1 x.1.2.2.2.2.2.1 x.2.1.1 x.2.1.2.1.1.1 x.2.1.2.1.1.2.1 x.2.1.2.1.1.2.2.1 x.2.1.2.1.2.1.1 x.2.1.2.1.2.1.2.1 x.2.1.2.1.2.1.2.2.1 x.2.1.2.1.2.2.1.1 x.2.1.2.1.2.2.1.2.1 x.2.1.2.1.2.2.1.2.2.1 x.2.1.2.2.1.1 x.2.1.2.2.1.2.1 x.2.1.2.2.1.2.2.1 x.2.1.2.2.2.1.1 x.2.1.2.2.2.1.2.1 x.2.1.2.2.2.1.2.2.1 x.2.1.2.2.2.2.1 x.2.1.2.2.2.2.2.1) (fun r => [.bool r]) ((a0_0, ((a0_1_0_0, a0_1_0_1, a0_1_0_2, ()), (a0_1_1_0, a0_1_1_1, a0_1_1_2, ()), (a0_1_2_0, a0_1_2_1, a0_1_2_2, ()), ()), (a0_2_0, a0_2_1, a0_2_2, ()), (a0_3_0, a0_3_1, a0_3_2, ()), a0_4, a0_5, ()), (a1_0, ((a1_1_0_0, a1_1_0_1, a1_1_0_2, ()), (a1_1_1_0, a1_1_1_1, a1_1_1_2, ()), (a1_1_2_0, a1_1_2_1, a1_1_2_2, ()), ()), (a1_2_0, a1_2_1, a1_2_2, ()), (a1_3_0, a1_3_1, a1_3_2, ()), a1_4, a1_5, ()), ())
theorem ok_spyref3_SameRow (L : Nat) (hL : L ≤ 4611686018427387904) : SpecOk Try.prog 48 (s_spyref3_SameRow L) := specP_ok mixed (Go_spyref3_SameRow L hL) (To_spyref3_SameRow L) fun x r h => ⟨L, 1, e_spyref3_SameRow L hL x.1.1 x.1.2.1.1.1 x.1.2.1.1.2.1 x.1.2.1.1.2.2.1 x.1.2.1.2.1.1 x.1.2.1.2.1.2.1 x.1.2.1.2.1.2.2.1 x.1.2.1.2.2.1.1 x.1.2.1.2.2.1.2.1 x.1.2.1.2.2.1.2.2.1 x.1.2.2.1.1 x.1.2.2.1.2.1 x.1.2.2.1.2.2.1 x.1.2.2.2.1.1 x.1.2.2.2.1.2.1 x.1.2.2.2.1.2.2.1 x.1.2.2.2.2.1 x.1.2.2.2.2.2.1 x.2.1.1 x.2.1.2.1.1.1 x.2.1.2.1.1.2.1 x.2.1.2.1.1.2.2.1 x.2.1.2.1.2.1.1 x.2.1.2.1.2.1.2.1 x.2.1.2.1.2.1.2.2.1 x.2.1.2.1.2.2.1.1 x.2.1.2.1.2.2.1.2.1 x.2.1.2.1.2.2.1.2.2.1 x.2.1.2.2.1.1 x.2.1.2.2.1.2.1 x.2.1.2.2.1.2.2.1 x.2.1.2.2.2.1.1 x.2.1.2.2.2.1.2.1 x.2.1.2.2.2.1.2.2.1 x.2.1.2.2.2.2.1 x.2.1.2.2.2.2.2.1 r h⟩
end Go.Proofs.Ytnojehmbiceceaa.P
end
end
