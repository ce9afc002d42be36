/- Parts of one proof, joined: G104, PlBndAQuanta, E89, G89, E97, G97, E31, E28, G28, G31, PlField, E7, E24, E22, E25, E88, E90, E94, E95, E96, E173, E176, E177, E214, E215, E216, E217, E218, E219, E220. -/
import Derived.Test.YtnojehmbiceceaaMLevelSubtracts6
import Derived.Test.YtnojehmbiceceaaProg
section
set_option linter.unusedVariables false
set_option linter.unusedSimpArgs false
set_option maxRecDepth 100000
namespace Go.Proofs.Ytnojehmbiceceaa.P
open Go.Ev Go.IntKind Go.Proofs.Ytnojehmbiceceaa Go.Proofs.Ytnojehmbiceceaa.Ty Go.Proofs.Ytnojehmbiceceaa.E
def p_spyref3_BoundFault_Quanta (L : Nat) (a0_0 : Int) (a0_1 : Int) (a0_2 : Bool) (a1 : Int) (a2 : Int) : Option Int := cb a0_2 (cb (decide (a0_0 = 0)) (cb (decide (a0_1 = 0)) (if a0_0 < (-1152921504606846976) then (some 4) else (if a0_0 > 1152921504606846976 then (some 4) else (if a0_1 < (-1152921504606846976) then (some 4) else (if a0_1 > 1152921504606846976 then (some 4) else (if a0_0 > a0_1 then (some 11) else (if a0_0 < a1 then (some 4) else (if a0_1 > a2 then (some 4) else (some 0)))))))) (some 3)) (some 3)) (if a0_0 < (-1152921504606846976) then (some 4) else (if a0_0 > 1152921504606846976 then (some 4) else (if a0_1 < (-1152921504606846976) then (some 4) else (if a0_1 > 1152921504606846976 then (some 4) else (if a0_0 > a0_1 then (some 11) else (if a0_0 < a1 then (some 4) else (if a0_1 > a2 then (some 4) else (some 0))))))))
attribute [local go_sem] Ev.putR_s Ev.putR_0 Ev.thenO_s Ev.thenO_0 Ev.seqR_n Ev.seqR_e Ev.seqR_r Ev.seqR_0 Ev.blkR_e Ev.blkR_n Ev.blkR_r Ev.blkR_0 Ev.normR_s Ev.normR_0 Ev.outR_r Ev.outR_n Ev.outR_0 Ev.retS_s Ev.retS_0 Ev.pureO_s Ev.pureO_0 Ev.topR_0 Ev.topR_t Ev.topR_t0 Ev.oneL_0 Ev.oneL_s Ev.topR_d Ev.topR_nils Ev.topR_agg Ev.topR_rs Ev.evOp_move Ev.evOp_assign Ev.evOp_pick Ev.evOp_alloc Ev.evOp_box Ev.evOp_build Ev.evOp_buildSlice Ev.evOp_load Ev.evOp_store Ev.evOp_makeMap Ev.evOp_lookup Ev.evOp_mapUpdate Ev.evOp_insert Ev.evOp_nilCheck Ev.evOp_binOp Ev.evOp_unOp Ev.evOp_convert Ev.evOp_makeFunc Ev.evOp_makeSlice Ev.evOp_slice Ev.evOp_fieldAddr Ev.evOp_field Ev.evOp_indexAddr Ev.evOp_index Ev.evOp_extract Ev.evOp_call Ev.evOp_append Ev.evOp_clear Ev.evOp_len Ev.evOp_min Ev.evOp_max Ev.condR_b Ev.condR_t Ev.evOps_nil Ev.evOps_plain Ev.evOps_guard Ev.runG_eq Ev.skipG_eq Ev.condL_tt Ev.condL_ff Ev.condL_tf Ev.condL_ft Ev.condL_u Ev.condC_t Ev.condC_f Ev.evC_skip Ev.evC_ret Ev.evC_exit Ev.evC_label Ev.evC_region Ev.evC_draw Ev.evC_seq Ev.evC_cond Ev.evC_block Ev.evC_loop Ev.fin_d Ev.fin_nils Ev.fin_agg_ Ev.fin_rs Ev.finS_s Ev.mapO_fin Ev.upd_upd Ev.argv_d Ev.argv_nils Ev.argv_agg Ev.argv_rs Ev.argv_p Ev.fk_low Ev.appendTo_nils Ev.appendTo_rs Ev.consV_d Ev.consV_agg Ev.consV_p Ev.consV_rs Ev.consV_nils Ev.consV_fn Ev.consV_und Ev.consV_jk Ev.consV_grown Ev.topR_grown Ev.len_grown Ev.consV_mp Ev.sameK_i Ev.sameK_s Ev.mget_0 Ev.mget_hit Ev.mget_miss Ev.mput_0 Ev.mput_hit Ev.mput_miss Ev.apartAll Ev.apartL Ev.apartV Ev.freeAll Ev.sel Ev.keyOfV Ev.evLookup Ev.evPut Ev.hintOk Ev.keyOk Ev.consP Ev.lookV Ev.guardV Ev.dstAt Ev.evPure Ev.evStore Ev.evBin Ev.evBinO Ev.evNil Ev.isNilC Ev.evUn Ev.evConv Ev.evSlice Ev.optI Ev.foldI Ev.capsOk Ev.noTup Ev.nth Ev.setN Ev.killAt Ev.pad Ev.V.get Ev.V.put Ev.putD Ev.newBlk Ev.upd Ev.keq Ev.empty Ev.evCall Ev.V.args Ev.argP Ev.callOf Ev.evNilP Ev.isNilP Ev.look Ev.V.view.views Ev.V.view Ev.V.toD Ev.V.toD.V.toDs Ev.V.pure.pures Ev.V.pure Ev.D.flat.flats Ev.D.flat Ev.mkAgg Ev.allD Ev.aggParts Ev.setParts Ev.setElems Ev.getPath Ev.setPath Ev.subL Ev.eqD Ev.eqD.eqDs Ev.and2 Ev.strCut Ev.evalT Ev.constT Ev.evArgs Ev.mask Ev.maskOf Ev.tableOf Ev.compT Ev.resV Ev.retV Ev.mapO Ev.frzO_n Ev.frzO_e Ev.frzO_r Ev.frzO_0 Ev.mb_z Ev.mb_0 Ev.mb_s Ev.frzL_t Ev.frzL_f Ev.frzL_0 Ev.frzT_nils Ev.frzT_rs Ev.frzT_p Ev.frzK_i Ev.keyIn_i Ev.rI_nil Ev.rI_cons Ev.rI_row Ev.rI_app Ev.r_d Ev.r_nils Ev.r_agg Ev.r_rs Ev.r_gl Ev.vw_row Ev.vw_app Ev.appO_s Ev.frzT_gl Ev.allD_gl Ev.killAt_i Ev.tkOne_i Ev.hT_agg Ev.hT_vagg Ev.hT_int Ev.hT_bool Ev.hT_str Ev.hT_sl Ev.hT_ptr Ev.hT_np Ev.hT_p Ev.hT_rs Ev.hT_mp Ev.hT_nils Ev.hT_fn Ev.hT_jk Ev.hT_gl Ev.eO_sl Ev.eO_nils Ev.eO_rs Ev.eT_sl Ev.eT_rs Ev.pL_str Ev.pL_sl Ev.pL_rs Ev.pL_nils Ev.pL_min Ev.pL_max Ev.len_glB Ev.noTup_gl Ev.rowV_len Ev.rowV_nil Ev.rowV_cons Ev.rowV_append Ev.rowV_set Ev.rowV_replicate Ev.nth_row Ev.row_take Ev.row_drop Ev.toDs_row Ev.fin_row Ev.map_row Ev.map_take_ Ev.map_drop_ Ev.Bk_i Ev.GlB_0 Ev.GlB_mk Ev.gl_nil Ev.gl_cons Ev.gl_snoc Ev.gl_setN Ev.appendTo_gl Ev.consV_gl Ev.elems_gl Ev.fin_gl Ev.view_gl Ev.argv_gl Ev.topR_gl Ev.sp_z Ev.sp_0 Ev.sp_s Ev.km_z Ev.km_0 Ev.km_s Ev.beq_toList Ev.nc0 Ev.bq_t Ev.bq_f Ev.bodyN Ev.le_maxRow Int.cast_ofNat_Int IntWalk.i64_in IntWalk.u64_in IntWalk.u8_in beq_self_eq_true Bool.true_beq Bool.false_beq Bool.and_true Bool.true_and Bool.false_and Bool.and_false Bool.and_self Bool.not_true Bool.not_false Bool.not_eq_true cond_true cond_false if_true if_false and_true true_and and_self decide_true decide_false Bool.or_true Bool.true_or Bool.or_false Bool.false_or List.isEmpty List.isEmpty_nil List.size_toArray List.map List.length_map List.length_cons List.length_nil Option.map Option.bind Option.getD Option.isSome List.replicate Bool.false_eq_true implies_true false_implies forall_const Array.toList Array.isEmpty List.append List.nil_append List.cons_append List.drop_zero List.take_length List.take_succ_cons List.take_zero List.take_nil List.getElem?_map List.getElem?_cons_zero List.getElem?_cons_succ List.getElem?_nil List.append_nil eq_self Int.toNat_natCast List.length_append Nat.zero_add Nat.add_zero List.length_replicate Nat.sub_zero Option.map_some Option.map_none Int.le_refl Nat.le_refl Int.natCast_nonneg List.map_append
noncomputable def G_spyref3_BoundFault_Quanta (L : Nat) : Specs := []
noncomputable def T_spyref3_BoundFault_Quanta : Table := tableOf [(104, en104)]
theorem Go_spyref3_BoundFault_Quanta (L : Nat) (hL : L ≤ 4611686018427387904) : ∀ g s, Ev.look (G_spyref3_BoundFault_Quanta L) g = some s → SpecOk Try.prog g s := specs_nil
theorem To_spyref3_BoundFault_Quanta (L : Nat) : TableOk Try.prog ((G_spyref3_BoundFault_Quanta L).map (·.1)) T_spyref3_BoundFault_Quanta := (table_cons Try.func104 (by kernel_rfl) (by kernel_rfl) table_nil)
attribute [local go_sem] Ty.tk4 Ty.ub4 Ty.ek4 Ty.zv4 Ty.by4 Ty.so4 Ty.tk24 Ty.ik24 Ty.ek24 Ty.zv24 Ty.by24 Ty.so24 Ty.tk27 Ty.ik27 Ty.ek27 Ty.zv27 Ty.by27 Ty.so27 Ty.tk35 Ty.ct35 Ty.ek35 Ty.zv35 Ty.by35 Ty.so35 Ty.k35_e E.mk104_1000001 E.mk104_1000000 loopN loops Try.f104
theorem e_spyref3_BoundFault_Quanta (L : Nat) (hL : L ≤ 4611686018427387904) (a0_0 : Int) (a0_1 : Int) (a0_2 : Bool) (a1 : Int) (a2 : Int) (res : Int) (h : p_spyref3_BoundFault_Quanta L a0_0 a0_1 a0_2 a1 a2 = some res) : evTop Try.prog (G_spyref3_BoundFault_Quanta L) T_spyref3_BoundFault_Quanta L 1 104 [.agg 35 [.int .i64 a0_0, .int .i64 a0_1, .bool a0_2], .int .i64 a1, .int .i64 a2] = some [.int .i64 res] := by
  revert h
  unfold p_spyref3_BoundFault_Quanta evTop
  simp only [List.map]
  rw [evF_s (fn := Try.f104) (msk := en104.ms) (hT := by rfl) (hb := by rfl)]
  refine cb_i (fun c1 => ?_) (fun c1 => ?_)
  · refine cb_i (fun c2 => ?_) (fun c2 => ?_)
    · refine cb_i (fun c3 => ?_) (fun c3 => ?_)
      · refine ite_i (fun c4 => ?_) (fun c4 => ?_)
        · rintro ⟨⟩
          simp only [go_sem, Nat.reduceAdd, Nat.reduceSub, Nat.reduceMul, Nat.reduceEqDiff, Nat.reduceBEq, Nat.reduceLT, Nat.reduceLeDiff, Nat.reducePow, Int.reduceToNat, Int.reduceLT, Int.reduceLE, Int.reduceGT, Int.reduceGE, Int.reduceEq, Int.reduceNeg, Int.reduceAdd, Int.reduceSub, Int.reduceMul, ↓reduceIte, reduceCtorEq, *]
        · refine ite_i (fun c5 => ?_) (fun c5 => ?_)
          · rintro ⟨⟩
            simp only [go_sem, Nat.reduceAdd, Nat.reduceSub, Nat.reduceMul, Nat.reduceEqDiff, Nat.reduceBEq, Nat.reduceLT, Nat.reduceLeDiff, Nat.reducePow, Int.reduceToNat, Int.reduceLT, Int.reduceLE, Int.reduceGT, Int.reduceGE, Int.reduceEq, Int.reduceNeg, Int.reduceAdd, Int.reduceSub, Int.reduceMul, ↓reduceIte, reduceCtorEq, *]
          · refine ite_i (fun c6 => ?_) (fun c6 => ?_)
            · rintro ⟨⟩
              simp only [go_sem, Nat.reduceAdd, Nat.reduceSub, Nat.reduceMul, Nat.reduceEqDiff, Nat.reduceBEq, Nat.reduceLT, Nat.reduceLeDiff, Nat.reducePow, Int.reduceToNat, Int.reduceLT, Int.reduceLE, Int.reduceGT, Int.reduceGE, Int.reduceEq, Int.reduceNeg, Int.reduceAdd, Int.reduceSub, Int.reduceMul, ↓reduceIte, reduceCtorEq, *]
            · refine ite_i (fun c7 => ?_) (fun c7 => ?_)
              · rintro ⟨⟩
                simp only [go_sem, Nat.reduceAdd, Nat.reduceSub, Nat.reduceMul, Nat.reduceEqDiff, Nat.reduceBEq, Nat.reduceLT, Nat.reduceLeDiff, Nat.reducePow, Int.reduceToNat, Int.reduceLT, Int.reduceLE, Int.reduceGT, Int.reduceGE, Int.reduceEq, Int.reduceNeg, Int.reduceAdd, Int.reduceSub, Int.reduceMul, ↓reduceIte, reduceCtorEq, *]
              · refine ite_i (fun c8 => ?_) (fun c8 => ?_)
                · rintro ⟨⟩
                  simp only [go_sem, Nat.reduceAdd, Nat.reduceSub, Nat.reduceMul, Nat.reduceEqDiff, Nat.reduceBEq, Nat.reduceLT, Nat.reduceLeDiff, Nat.reducePow, Int.reduceToNat, Int.reduceLT, Int.reduceLE, Int.reduceGT, Int.reduceGE, Int.reduceEq, Int.reduceNeg, Int.reduceAdd, Int.reduceSub, Int.reduceMul, ↓reduceIte, reduceCtorEq, *]
                · refine ite_i (fun c9 => ?_) (fun c9 => ?_)
                  · rintro ⟨⟩
                    simp only [go_sem, Nat.reduceAdd, Nat.reduceSub, Nat.reduceMul, Nat.reduceEqDiff, Nat.reduceBEq, Nat.reduceLT, Nat.reduceLeDiff, Nat.reducePow, Int.reduceToNat, Int.reduceLT, Int.reduceLE, Int.reduceGT, Int.reduceGE, Int.reduceEq, Int.reduceNeg, Int.reduceAdd, Int.reduceSub, Int.reduceMul, ↓reduceIte, reduceCtorEq, *]
                  · refine ite_i (fun c10 => ?_) (fun c10 => ?_)
                    · rintro ⟨⟩
                      simp only [go_sem, Nat.reduceAdd, Nat.reduceSub, Nat.reduceMul, Nat.reduceEqDiff, Nat.reduceBEq, Nat.reduceLT, Nat.reduceLeDiff, Nat.reducePow, Int.reduceToNat, Int.reduceLT, Int.reduceLE, Int.reduceGT, Int.reduceGE, Int.reduceEq, Int.reduceNeg, Int.reduceAdd, Int.reduceSub, Int.reduceMul, ↓reduceIte, reduceCtorEq, *]
                    · rintro ⟨⟩
                      simp only [go_sem, Nat.reduceAdd, Nat.reduceSub, Nat.reduceMul, Nat.reduceEqDiff, Nat.reduceBEq, Nat.reduceLT, Nat.reduceLeDiff, Nat.reducePow, Int.reduceToNat, Int.reduceLT, Int.reduceLE, Int.reduceGT, Int.reduceGE, Int.reduceEq, Int.reduceNeg, Int.reduceAdd, Int.reduceSub, Int.reduceMul, ↓reduceIte, reduceCtorEq, *]
      · rintro ⟨⟩
        simp only [go_sem, Nat.reduceAdd, Nat.reduceSub, Nat.reduceMul, Nat.reduceEqDiff, Nat.reduceBEq, Nat.reduceLT, Nat.reduceLeDiff, Nat.reducePow, Int.reduceToNat, Int.reduceLT, Int.reduceLE, Int.reduceGT, Int.reduceGE, Int.reduceEq, Int.reduceNeg, Int.reduceAdd, Int.reduceSub, Int.reduceMul, ↓reduceIte, reduceCtorEq, *]
    · rintro ⟨⟩
      simp only [go_sem, Nat.reduceAdd, Nat.reduceSub, Nat.reduceMul, Nat.reduceEqDiff, Nat.reduceBEq, Nat.reduceLT, Nat.reduceLeDiff, Nat.reducePow, Int.reduceToNat, Int.reduceLT, Int.reduceLE, Int.reduceGT, Int.reduceGE, Int.reduceEq, Int.reduceNeg, Int.reduceAdd, Int.reduceSub, Int.reduceMul, ↓reduceIte, reduceCtorEq, *]
  · refine ite_i (fun c11 => ?_) (fun c11 => ?_)
    · rintro ⟨⟩
      simp only [go_sem, Nat.reduceAdd, Nat.reduceSub, Nat.reduceMul, Nat.reduceEqDiff, Nat.reduceBEq, Nat.reduceLT, Nat.reduceLeDiff, Nat.reducePow, Int.reduceToNat, Int.reduceLT, Int.reduceLE, Int.reduceGT, Int.reduceGE, Int.reduceEq, Int.reduceNeg, Int.reduceAdd, Int.reduceSub, Int.reduceMul, ↓reduceIte, reduceCtorEq, *]
    · refine ite_i (fun c12 => ?_) (fun c12 => ?_)
      · rintro ⟨⟩
        simp only [go_sem, Nat.reduceAdd, Nat.reduceSub, Nat.reduceMul, Nat.reduceEqDiff, Nat.reduceBEq, Nat.reduceLT, Nat.reduceLeDiff, Nat.reducePow, Int.reduceToNat, Int.reduceLT, Int.reduceLE, Int.reduceGT, Int.reduceGE, Int.reduceEq, Int.reduceNeg, Int.reduceAdd, Int.reduceSub, Int.reduceMul, ↓reduceIte, reduceCtorEq, *]
      · refine ite_i (fun c13 => ?_) (fun c13 => ?_)
        · rintro ⟨⟩
          simp only [go_sem, Nat.reduceAdd, Nat.reduceSub, Nat.reduceMul, Nat.reduceEqDiff, Nat.reduceBEq, Nat.reduceLT, Nat.reduceLeDiff, Nat.reducePow, Int.reduceToNat, Int.reduceLT, Int.reduceLE, Int.reduceGT, Int.reduceGE, Int.reduceEq, Int.reduceNeg, Int.reduceAdd, Int.reduceSub, Int.reduceMul, ↓reduceIte, reduceCtorEq, *]
        · refine ite_i (fun c14 => ?_) (fun c14 => ?_)
          · rintro ⟨⟩
            simp only [go_sem, Nat.reduceAdd, Nat.reduceSub, Nat.reduceMul, Nat.reduceEqDiff, Nat.reduceBEq, Nat.reduceLT, Nat.reduceLeDiff, Nat.reducePow, Int.reduceToNat, Int.reduceLT, Int.reduceLE, Int.reduceGT, Int.reduceGE, Int.reduceEq, Int.reduceNeg, Int.reduceAdd, Int.reduceSub, Int.reduceMul, ↓reduceIte, reduceCtorEq, *]
          · refine ite_i (fun c15 => ?_) (fun c15 => ?_)
            · rintro ⟨⟩
              simp only [go_sem, Nat.reduceAdd, Nat.reduceSub, Nat.reduceMul, Nat.reduceEqDiff, Nat.reduceBEq, Nat.reduceLT, Nat.reduceLeDiff, Nat.reducePow, Int.reduceToNat, Int.reduceLT, Int.reduceLE, Int.reduceGT, Int.reduceGE, Int.reduceEq, Int.reduceNeg, Int.reduceAdd, Int.reduceSub, Int.reduceMul, ↓reduceIte, reduceCtorEq, *]
            · refine ite_i (fun c16 => ?_) (fun c16 => ?_)
              · rintro ⟨⟩
                simp only [go_sem, Nat.reduceAdd, Nat.reduceSub, Nat.reduceMul, Nat.reduceEqDiff, Nat.reduceBEq, Nat.reduceLT, Nat.reduceLeDiff, Nat.reducePow, Int.reduceToNat, Int.reduceLT, Int.reduceLE, Int.reduceGT, Int.reduceGE, Int.reduceEq, Int.reduceNeg, Int.reduceAdd, Int.reduceSub, Int.reduceMul, ↓reduceIte, reduceCtorEq, *]
              · refine ite_i (fun c17 => ?_) (fun c17 => ?_)
                · rintro ⟨⟩
                  simp only [go_sem, Nat.reduceAdd, Nat.reduceSub, Nat.reduceMul, Nat.reduceEqDiff, Nat.reduceBEq, Nat.reduceLT, Nat.reduceLeDiff, Nat.reducePow, Int.reduceToNat, Int.reduceLT, Int.reduceLE, Int.reduceGT, Int.reduceGE, Int.reduceEq, Int.reduceNeg, Int.reduceAdd, Int.reduceSub, Int.reduceMul, ↓reduceIte, reduceCtorEq, *]
                · rintro ⟨⟩
                  simp only [go_sem, Nat.reduceAdd, Nat.reduceSub, Nat.reduceMul, Nat.reduceEqDiff, Nat.reduceBEq, Nat.reduceLT, Nat.reduceLeDiff, Nat.reducePow, Int.reduceToNat, Int.reduceLT, Int.reduceLE, Int.reduceGT, Int.reduceGE, Int.reduceEq, Int.reduceNeg, Int.reduceAdd, Int.reduceSub, Int.reduceMul, ↓reduceIte, reduceCtorEq, *]
noncomputable def s_spyref3_BoundFault_Quanta (L : Nat) : Ev.Spec := specP (cCons k35 (cCons (cI .i64) (cCons (cI .i64) cNil))) (fun x => p_spyref3_BoundFault_Quanta L x.1.1 x.1.2.1 x.1.2.2.1 x.2.1 x.2.2.1) (fun r => [.int .i64 r])
theorem s_spyref3_BoundFault_Quanta_run (L : Nat) (a0_0 : Int) (a0_1 : Int) (a0_2 : Bool) (a1 : Int) (a2 : Int) : (s_spyref3_BoundFault_Quanta L).run [.agg 35 [.int .i64 a0_0, .int .i64 a0_1, .bool a0_2], .int .i64 a1, .int .i64 a2] = (p_spyref3_BoundFault_Quanta L a0_0 a0_1 a0_2 a1 a2).map fun r => [.int .i64 r] := specP_run (cCons k35 (cCons (cI .i64) (cCons (cI .i64) cNil))) (fun x => p_spyref3_BoundFault_Quanta L x.1.1 x.1.2.1 x.1.2.2.1 x.2.1 x.2.2.1) (fun r => [.int .i64 r]) ((a0_0, a0_1, a0_2, ()), a1, a2, ())
theorem ok_spyref3_BoundFault_Quanta (L : Nat) (hL : L ≤ 4611686018427387904) : SpecOk Try.prog 104 (s_spyref3_BoundFault_Quanta L) := specP_ok mixed (Go_spyref3_BoundFault_Quanta L hL) (To_spyref3_BoundFault_Quanta L) fun x r h => ⟨L, 1, e_spyref3_BoundFault_Quanta L hL x.1.1 x.1.2.1 x.1.2.2.1 x.2.1 x.2.2.1 r h⟩
end Go.Proofs.Ytnojehmbiceceaa.P
end
section
set_option linter.unusedVariables false
set_option linter.unusedSimpArgs false
namespace Go.Proofs.Ytnojehmbiceceaa.PlBndAQuanta
open Go.Ev Go.IntKind Go.Pl Go.Proofs.Ytnojehmbiceceaa.P
abbrev Bd := Int × Int × Bool × Unit
def chk (a b : Int) (u : Bool) : Int := if u = true ∧ (a ≠ 0 ∨ b ≠ 0) then 3 else if a < -1152921504606846976 ∨ a > 1152921504606846976 ∨ b < -1152921504606846976 ∨ b > 1152921504606846976 then 4 else if a > b then 11 else 0
def bad (b : Bd) : Bool := b.2.2.1 || decide (b.1 > b.2.1) || decide (b.1 < -1152921504606846976) || decide (b.2.1 > 1152921504606846976)
def fault (a b : Int) (u : Bool) (lo hi : Int) : Int := if chk a b u ≠ 0 then chk a b u else if a < lo ∨ b > hi then 4 else 0
theorem check_eq (L : Nat) (a b : Int) (u : Bool) : p_bound_Check_Quanta L a b u = some (chk a b u) := by
  unfold p_bound_Check_Quanta chk
  unfold minI maxI
  cases u
  · simp only [cb_f, Bool.false_eq_true, false_and, if_false]
    repeat' split
    all_goals first | rfl | (exfalso; omega)
  · rw [cb_t, cb_d, cb_d]
    by_cases h1 : a = 0
    · by_cases h2 : b = 0
      · subst h1 h2; decide
      · rw [if_pos h1, if_neg h2, if_pos ⟨rfl, .inr h2⟩]
    · rw [if_neg h1, if_pos ⟨rfl, .inl h1⟩]
theorem fault_eq (L : Nat) (a b : Int) (u : Bool) (lo hi : Int) : p_spyref3_BoundFault_Quanta L a b u lo hi = some (fault a b u lo hi) := by
  unfold p_spyref3_BoundFault_Quanta fault chk
  cases u
  · simp only [cb_f, Bool.false_eq_true, false_and, if_false]
    repeat' split
    all_goals first | rfl | (exfalso; omega)
  · simp only [cb_t, cb_d, true_and]
    repeat' split
    all_goals first | rfl | (exfalso; omega)
theorem chk_known (a b : Int) : chk a b false = 0 ↔ bad (a, b, false, ()) = false := by
  unfold chk bad
  simp only [Bool.false_eq_true, false_and, if_false, Bool.false_or, Bool.or_eq_false_iff, decide_eq_false_iff_not]
  split
  · omega
  · split <;> omega
def none_ : Int × Int × Bool := (0, 0, true)
def norm (a b : Int) (u : Bool) : Int × Int × Bool := if chk a b u = 0 then (a, b, u) else none_
theorem norm_eq (L : Nat) (a b : Int) (u : Bool) : p_bound_Norm_Quanta L a b u = some (norm a b u) := by
  unfold p_bound_Norm_Quanta norm
  rw [check_eq, bnd_s, cb_d]
  split <;> rfl
theorem norm_vague (a b : Int) (u : Bool) : (norm a b u).2.2 = bad (a, b, u, ()) := by
  unfold norm
  cases u with
  | true => split <;> simp [bad, none_]
  | false =>
    by_cases h : chk a b false = 0
    · rw [if_pos h, (chk_known a b).1 h]
    · rw [if_neg h]
      have : ¬ bad (a, b, false, ()) = false := fun e => h ((chk_known a b).2 e)
      simp only [none_]
      exact (Bool.not_eq_false _ ▸ this : bad (a, b, false, ()) = true).symm
theorem norm_good {a b : Int} {u : Bool} (h : bad (a, b, u, ()) = false) : norm a b u = (a, b, u) := by
  have := norm_vague a b u
  rw [h] at this
  unfold norm at this ⊢
  split
  · rfl
  · rename_i hc
    rw [if_neg hc] at this
    cases this
theorem none_eq (L : Nat) : p_bound_None_Quanta L = some none_ := rfl
theorem of_eq (L : Nat) (a b : Int) : p_bound_Of_Quanta L a b = some (norm a b false) := by unfold p_bound_Of_Quanta; rw [norm_eq, bnd_s]
theorem vague_eq (L : Nat) (a b : Int) (u : Bool) (c d : Int) (v : Bool) : p_bound_vague_Quanta L a b u c d v = some (bad (a, b, u, ()) || bad (c, d, v, ())) := by
  unfold p_bound_vague_Quanta
  rw [norm_eq, bnd_s, norm_vague, norm_eq, bnd_s, norm_vague]
  cases bad (a, b, u, ()) <;> rfl
end Go.Proofs.Ytnojehmbiceceaa.PlBndAQuanta
end
section
set_option linter.unusedVariables false
set_option linter.unusedSimpArgs false
set_option maxRecDepth 100000
namespace Go.Proofs.Ytnojehmbiceceaa.E
open Go.Ev
noncomputable def en89 : Entry := ⟨Try.f89, [(0, mb 52 0 [32, 33, 34]), (1000001, mb 52 0 []), (1000002, mb 52 0 [32, 33, 34]), (1000000, mb 52 0 [2])]⟩
theorem mk89_0 (vs : List V) : mask (maskOf en89.ms 0) vs = km 52 0 [32, 33, 34] vs := mask_mb _ _ _ _
theorem mk89_1000001 (vs : List V) : mask (maskOf en89.ms 1000001) vs = km 52 0 [] vs := mask_mb _ _ _ _
theorem mk89_1000002 (vs : List V) : mask (maskOf en89.ms 1000002) vs = km 52 0 [32, 33, 34] vs := mask_mb _ _ _ _
theorem mk89_1000000 (vs : List V) : mask (maskOf en89.ms 1000000) vs = km 52 0 [2] vs := mask_mb _ _ _ _
theorem fz89_0 (lv : Nat) (f : Run) : frzF en89.ms lv 0 f = f := nr rfl
noncomputable def lb89_0 : Code := loopN Try.f89 0
end Go.Proofs.Ytnojehmbiceceaa.E
end
section
set_option linter.unusedVariables false
set_option linter.unusedSimpArgs false
set_option maxRecDepth 100000
namespace Go.Proofs.Ytnojehmbiceceaa.P
open Go.Ev Go.IntKind Go.Proofs.Ytnojehmbiceceaa Go.Proofs.Ytnojehmbiceceaa.Ty Go.Proofs.Ytnojehmbiceceaa.E
def p_clean_Check_l0 (L : Nat)  : List (Int × Int × Bool × Unit) → Option (Sum Unit Int)
  | [] => some (.inl ())
  | x1 :: tl => bnd (p_bound_Check_Quanta L x1.1 x1.2.1 x1.2.2.1) fun r4 => cb (decide (r4 = 0)) (if x1.1 < (-1099511627776) then (some (.inr 4)) else (if x1.2.1 > 1099511627776 then (some (.inr 4)) else (p_clean_Check_l0 L  tl))) (some (.inr r4))
def p_clean_Check (L : Nat) (a0_0 : Int) (a0_1 : Int) (a0_2 : List (Int × Int × Bool × Unit)) : Option Int := if (minI a0_0 a0_1) < 1 then (some 3) else (if (maxI a0_0 a0_1) > 32 then (some 3) else (cb (decide ((a0_2.length : Int) = (i64.wrap (a0_0 * a0_1)))) (rq (a0_2.length < L) <| bnd (p_clean_Check_l0 L a0_2) fun o5 => match o5 with | (.inl o5_0) => (some 0) | (.inr o5_1) => (some o5_1)) (some 3)))
attribute [local go_sem] Ev.putR_s Ev.putR_0 Ev.thenO_s Ev.thenO_0 Ev.seqR_n Ev.seqR_e Ev.seqR_r Ev.seqR_0 Ev.blkR_e Ev.blkR_n Ev.blkR_r Ev.blkR_0 Ev.normR_s Ev.normR_0 Ev.outR_r Ev.outR_n Ev.outR_0 Ev.retS_s Ev.retS_0 Ev.pureO_s Ev.pureO_0 Ev.topR_0 Ev.topR_t Ev.topR_t0 Ev.oneL_0 Ev.oneL_s Ev.topR_d Ev.topR_nils Ev.topR_agg Ev.topR_rs Ev.evOp_move Ev.evOp_assign Ev.evOp_pick Ev.evOp_alloc Ev.evOp_box Ev.evOp_build Ev.evOp_buildSlice Ev.evOp_load Ev.evOp_store Ev.evOp_makeMap Ev.evOp_lookup Ev.evOp_mapUpdate Ev.evOp_insert Ev.evOp_nilCheck Ev.evOp_binOp Ev.evOp_unOp Ev.evOp_convert Ev.evOp_makeFunc Ev.evOp_makeSlice Ev.evOp_slice Ev.evOp_fieldAddr Ev.evOp_field Ev.evOp_indexAddr Ev.evOp_index Ev.evOp_extract Ev.evOp_call Ev.evOp_append Ev.evOp_clear Ev.evOp_len Ev.evOp_min Ev.evOp_max Ev.condR_b Ev.condR_t Ev.evOps_nil Ev.evOps_plain Ev.evOps_guard Ev.runG_eq Ev.skipG_eq Ev.condL_tt Ev.condL_ff Ev.condL_tf Ev.condL_ft Ev.condL_u Ev.condC_t Ev.condC_f Ev.evC_skip Ev.evC_ret Ev.evC_exit Ev.evC_label Ev.evC_region Ev.evC_draw Ev.evC_seq Ev.evC_cond Ev.evC_block Ev.evC_loop Ev.fin_d Ev.fin_nils Ev.fin_agg_ Ev.fin_rs Ev.finS_s Ev.mapO_fin Ev.upd_upd Ev.argv_d Ev.argv_nils Ev.argv_agg Ev.argv_rs Ev.argv_p Ev.fk_low Ev.appendTo_nils Ev.appendTo_rs Ev.consV_d Ev.consV_agg Ev.consV_p Ev.consV_rs Ev.consV_nils Ev.consV_fn Ev.consV_und Ev.consV_jk Ev.consV_grown Ev.topR_grown Ev.len_grown Ev.consV_mp Ev.sameK_i Ev.sameK_s Ev.mget_0 Ev.mget_hit Ev.mget_miss Ev.mput_0 Ev.mput_hit Ev.mput_miss Ev.apartAll Ev.apartL Ev.apartV Ev.freeAll Ev.sel Ev.keyOfV Ev.evLookup Ev.evPut Ev.hintOk Ev.keyOk Ev.consP Ev.lookV Ev.guardV Ev.dstAt Ev.evPure Ev.evStore Ev.evBin Ev.evBinO Ev.evNil Ev.isNilC Ev.evUn Ev.evConv Ev.evSlice Ev.optI Ev.foldI Ev.capsOk Ev.noTup Ev.nth Ev.setN Ev.killAt Ev.pad Ev.V.get Ev.V.put Ev.putD Ev.newBlk Ev.upd Ev.keq Ev.empty Ev.evCall Ev.V.args Ev.argP Ev.callOf Ev.evNilP Ev.isNilP Ev.look Ev.V.view.views Ev.V.view Ev.V.toD Ev.V.toD.V.toDs Ev.V.pure.pures Ev.V.pure Ev.D.flat.flats Ev.D.flat Ev.mkAgg Ev.allD Ev.aggParts Ev.setParts Ev.setElems Ev.getPath Ev.setPath Ev.subL Ev.eqD Ev.eqD.eqDs Ev.and2 Ev.strCut Ev.evalT Ev.constT Ev.evArgs Ev.mask Ev.maskOf Ev.tableOf Ev.compT Ev.resV Ev.retV Ev.mapO Ev.frzO_n Ev.frzO_e Ev.frzO_r Ev.frzO_0 Ev.mb_z Ev.mb_0 Ev.mb_s Ev.frzL_t Ev.frzL_f Ev.frzL_0 Ev.frzT_nils Ev.frzT_rs Ev.frzT_p Ev.frzK_i Ev.keyIn_i Ev.rI_nil Ev.rI_cons Ev.rI_row Ev.rI_app Ev.r_d Ev.r_nils Ev.r_agg Ev.r_rs Ev.r_gl Ev.vw_row Ev.vw_app Ev.appO_s Ev.frzT_gl Ev.allD_gl Ev.killAt_i Ev.tkOne_i Ev.hT_agg Ev.hT_vagg Ev.hT_int Ev.hT_bool Ev.hT_str Ev.hT_sl Ev.hT_ptr Ev.hT_np Ev.hT_p Ev.hT_rs Ev.hT_mp Ev.hT_nils Ev.hT_fn Ev.hT_jk Ev.hT_gl Ev.eO_sl Ev.eO_nils Ev.eO_rs Ev.eT_sl Ev.eT_rs Ev.pL_str Ev.pL_sl Ev.pL_rs Ev.pL_nils Ev.pL_min Ev.pL_max Ev.len_glB Ev.noTup_gl Ev.rowV_len Ev.rowV_nil Ev.rowV_cons Ev.rowV_append Ev.rowV_set Ev.rowV_replicate Ev.nth_row Ev.row_take Ev.row_drop Ev.toDs_row Ev.fin_row Ev.map_row Ev.map_take_ Ev.map_drop_ Ev.Bk_i Ev.GlB_0 Ev.GlB_mk Ev.gl_nil Ev.gl_cons Ev.gl_snoc Ev.gl_setN Ev.appendTo_gl Ev.consV_gl Ev.elems_gl Ev.fin_gl Ev.view_gl Ev.argv_gl Ev.topR_gl Ev.sp_z Ev.sp_0 Ev.sp_s Ev.km_z Ev.km_0 Ev.km_s Ev.beq_toList Ev.nc0 Ev.bq_t Ev.bq_f Ev.bodyN Ev.le_maxRow Int.cast_ofNat_Int IntWalk.i64_in IntWalk.u64_in IntWalk.u8_in beq_self_eq_true Bool.true_beq Bool.false_beq Bool.and_true Bool.true_and Bool.false_and Bool.and_false Bool.and_self Bool.not_true Bool.not_false Bool.not_eq_true cond_true cond_false if_true if_false and_true true_and and_self decide_true decide_false Bool.or_true Bool.true_or Bool.or_false Bool.false_or List.isEmpty List.isEmpty_nil List.size_toArray List.map List.length_map List.length_cons List.length_nil Option.map Option.bind Option.getD Option.isSome List.replicate Bool.false_eq_true implies_true false_implies forall_const Array.toList Array.isEmpty List.append List.nil_append List.cons_append List.drop_zero List.take_length List.take_succ_cons List.take_zero List.take_nil List.getElem?_map List.getElem?_cons_zero List.getElem?_cons_succ List.getElem?_nil List.append_nil eq_self Int.toNat_natCast List.length_append Nat.zero_add Nat.add_zero List.length_replicate Nat.sub_zero Option.map_some Option.map_none Int.le_refl Nat.le_refl Int.natCast_nonneg List.map_append
noncomputable def G_clean_Check (L : Nat) : Specs := [(99, s_bound_Check_Quanta L)]
noncomputable def T_clean_Check : Table := tableOf [(89, en89)]
theorem Go_clean_Check (L : Nat) (hL : L ≤ 4611686018427387904) : ∀ g s, Ev.look (G_clean_Check L) g = some s → SpecOk Try.prog g s := (specs_cons (ok_bound_Check_Quanta L hL) specs_nil)
theorem To_clean_Check (L : Nat) : TableOk Try.prog ((G_clean_Check L).map (·.1)) T_clean_Check := (table_cons Try.func89 (by kernel_rfl) (by kernel_rfl) table_nil)
theorem lk_clean_Check_99 (L : Nat) : Ev.look (G_clean_Check L) 99 = some (s_bound_Check_Quanta L) := nr rfl
attribute [local go_sem] Ty.tk3 Ty.ik3 Ty.ek3 Ty.zv3 Ty.by3 Ty.so3 Ty.tk4 Ty.ub4 Ty.ek4 Ty.zv4 Ty.by4 Ty.so4 Ty.tk24 Ty.ik24 Ty.ek24 Ty.zv24 Ty.by24 Ty.so24 Ty.tk27 Ty.ik27 Ty.ek27 Ty.zv27 Ty.by27 Ty.so27 Ty.tk35 Ty.ct35 Ty.ek35 Ty.zv35 Ty.by35 Ty.so35 Ty.tk43 Ty.zv43 Ty.by43 Ty.so43 Ty.tk45 Ty.ct45 Ty.zv45 Ty.by45 Ty.so45 Ty.k35_e Ty.k43_e Ty.k45_e E.mk89_0 E.mk89_1000001 E.mk89_1000002 E.mk89_1000000 E.fz89_0 E.lb89_0 lk_clean_Check_99 s_bound_Check_Quanta_run loopN loops Try.f89
def Q0_p_clean_Check_l0 (a0_2 : List (Int × Int × Bool × Unit)) (u : Unit) (z : Out) : Prop := ∃ env st, z = some (.exit 0, env, st) ∧ env = sp 52 0 []
def Q1_p_clean_Check_l0 (a0_2 : List (Int × Int × Bool × Unit)) (u : Int) (z : Out) : Prop := ∃ env st, z = some (.ret, env, st) ∧ env = sp 52 0 [(2, .d (.int .i64 u))]
def Q_p_clean_Check_l0 (a0_2 : List (Int × Int × Bool × Unit)) (o : Sum Unit Int) (z : Out) : Prop := match o with | (.inl u) => Q0_p_clean_Check_l0 a0_2 u z | (.inr u) => Q1_p_clean_Check_l0 a0_2 u z
theorem l_p_clean_Check_l0 (L : Nat) (hL : L ≤ 4611686018427387904) (a0_2 : List (Int × Int × Bool × Unit)) : ∀ (tl : List (Int × Int × Bool × Unit)) (n : Nat) (s2 : Int) (env : List V) (st : Store) (o : Sum Unit Int), tl.length < n → Rng a0_2 s2 tl → mask (maskOf en89.ms 0) env = sp 52 0 [(32, .d (.sl 35 (a0_2.map k35.e))), (33, .d (.int .i64 (a0_2.length : Int))), (34, .d (.int .i64 s2))] → p_clean_Check_l0 L  tl  = some o →
    Q_p_clean_Check_l0 a0_2 o (iter (evC Try.prog (G_clean_Check L) (evF Try.prog (G_clean_Check L) T_clean_Check L 0) L en89.ms 0 0 lb89_0) (maskOf en89.ms 0) n env st) := by
  intro tl
  induction tl with
  | nil =>
    intro n s2  env st o hn hR he  h
    obtain ⟨n, rfl⟩ : ∃ m, n = m + 1 := ⟨n - 1, by omega⟩
    have g0 := rng_nil hR
    rw [iter, he]
    clear he
    generalize hK : iter _ _ n = K
    rw [p_clean_Check_l0] at h
    revert h
    rintro ⟨⟩
    simp only [go_sem, Nat.reduceAdd, Nat.reduceSub, Nat.reduceMul, Nat.reduceEqDiff, Nat.reduceBEq, Nat.reduceLT, Nat.reduceLeDiff, Nat.reducePow, Int.reduceToNat, Int.reduceLT, Int.reduceLE, Int.reduceGT, Int.reduceGE, Int.reduceEq, Int.reduceNeg, Int.reduceAdd, Int.reduceSub, Int.reduceMul, ↓reduceIte, reduceCtorEq, *]
    refine (⟨_, _, rfl, ?_⟩ : Q0_p_clean_Check_l0 a0_2 _ _)
    all_goals simp only [go_sem, Nat.reduceAdd, Nat.reduceSub, Nat.reduceMul, Nat.reduceEqDiff, Nat.reduceBEq, Nat.reduceLT, Nat.reduceLeDiff, Nat.reducePow, Int.reduceToNat, Int.reduceLT, Int.reduceLE, Int.reduceGT, Int.reduceGE, Int.reduceEq, Int.reduceNeg, Int.reduceAdd, Int.reduceSub, Int.reduceMul, ↓reduceIte, reduceCtorEq, *]
  | cons x1 tl ih =>
    intro n s2  env st o hn hR he  h
    obtain ⟨n, rfl⟩ : ∃ m, n = m + 1 := ⟨n - 1, by omega⟩
    replace ih : Hold _ := ih
    replace hR := rng_s hR
    obtain ⟨g0, g1, g2, g3, hR⟩ := hR
    rw [iter, he]
    clear he
    generalize hK : iter _ _ n = K
    rw [p_clean_Check_l0] at h
    revert h
    refine bnd_i fun r4 c1 => ?_
    refine cb_i (fun c2 => ?_) (fun c2 => ?_)
    · refine ite_i (fun c3 => ?_) (fun c3 => ?_)
      · rintro ⟨⟩
        simp only [go_sem, Nat.reduceAdd, Nat.reduceSub, Nat.reduceMul, Nat.reduceEqDiff, Nat.reduceBEq, Nat.reduceLT, Nat.reduceLeDiff, Nat.reducePow, Int.reduceToNat, Int.reduceLT, Int.reduceLE, Int.reduceGT, Int.reduceGE, Int.reduceEq, Int.reduceNeg, Int.reduceAdd, Int.reduceSub, Int.reduceMul, ↓reduceIte, reduceCtorEq, *]
        refine (⟨_, _, rfl, ?_⟩ : Q1_p_clean_Check_l0 a0_2 _ _)
        all_goals simp only [go_sem, Nat.reduceAdd, Nat.reduceSub, Nat.reduceMul, Nat.reduceEqDiff, Nat.reduceBEq, Nat.reduceLT, Nat.reduceLeDiff, Nat.reducePow, Int.reduceToNat, Int.reduceLT, Int.reduceLE, Int.reduceGT, Int.reduceGE, Int.reduceEq, Int.reduceNeg, Int.reduceAdd, Int.reduceSub, Int.reduceMul, ↓reduceIte, reduceCtorEq, *]
      · refine ite_i (fun c4 => ?_) (fun c4 => ?_)
        · rintro ⟨⟩
          simp only [go_sem, Nat.reduceAdd, Nat.reduceSub, Nat.reduceMul, Nat.reduceEqDiff, Nat.reduceBEq, Nat.reduceLT, Nat.reduceLeDiff, Nat.reducePow, Int.reduceToNat, Int.reduceLT, Int.reduceLE, Int.reduceGT, Int.reduceGE, Int.reduceEq, Int.reduceNeg, Int.reduceAdd, Int.reduceSub, Int.reduceMul, ↓reduceIte, reduceCtorEq, *]
          refine (⟨_, _, rfl, ?_⟩ : Q1_p_clean_Check_l0 a0_2 _ _)
          all_goals simp only [go_sem, Nat.reduceAdd, Nat.reduceSub, Nat.reduceMul, Nat.reduceEqDiff, Nat.reduceBEq, Nat.reduceLT, Nat.reduceLeDiff, Nat.reducePow, Int.reduceToNat, Int.reduceLT, Int.reduceLE, Int.reduceGT, Int.reduceGE, Int.reduceEq, Int.reduceNeg, Int.reduceAdd, Int.reduceSub, Int.reduceMul, ↓reduceIte, reduceCtorEq, *]
        · intro h
          simp only [go_sem, Nat.reduceAdd, Nat.reduceSub, Nat.reduceMul, Nat.reduceEqDiff, Nat.reduceBEq, Nat.reduceLT, Nat.reduceLeDiff, Nat.reducePow, Int.reduceToNat, Int.reduceLT, Int.reduceLE, Int.reduceGT, Int.reduceGE, Int.reduceEq, Int.reduceNeg, Int.reduceAdd, Int.reduceSub, Int.reduceMul, ↓reduceIte, reduceCtorEq, *]
          subst hK
          refine ih n (s2 + 1)  _ _ _ (by simp only [List.length_cons] at hn; omega) hR ?_ h
          all_goals simp only [go_sem, Nat.reduceAdd, Nat.reduceSub, Nat.reduceMul, Nat.reduceEqDiff, Nat.reduceBEq, Nat.reduceLT, Nat.reduceLeDiff, Nat.reducePow, Int.reduceToNat, Int.reduceLT, Int.reduceLE, Int.reduceGT, Int.reduceGE, Int.reduceEq, Int.reduceNeg, Int.reduceAdd, Int.reduceSub, Int.reduceMul, ↓reduceIte, reduceCtorEq, *]
    · rintro ⟨⟩
      simp only [go_sem, Nat.reduceAdd, Nat.reduceSub, Nat.reduceMul, Nat.reduceEqDiff, Nat.reduceBEq, Nat.reduceLT, Nat.reduceLeDiff, Nat.reducePow, Int.reduceToNat, Int.reduceLT, Int.reduceLE, Int.reduceGT, Int.reduceGE, Int.reduceEq, Int.reduceNeg, Int.reduceAdd, Int.reduceSub, Int.reduceMul, ↓reduceIte, reduceCtorEq, *]
      refine (⟨_, _, rfl, ?_⟩ : Q1_p_clean_Check_l0 a0_2 _ _)
      all_goals simp only [go_sem, Nat.reduceAdd, Nat.reduceSub, Nat.reduceMul, Nat.reduceEqDiff, Nat.reduceBEq, Nat.reduceLT, Nat.reduceLeDiff, Nat.reducePow, Int.reduceToNat, Int.reduceLT, Int.reduceLE, Int.reduceGT, Int.reduceGE, Int.reduceEq, Int.reduceNeg, Int.reduceAdd, Int.reduceSub, Int.reduceMul, ↓reduceIte, reduceCtorEq, *]
theorem e_clean_Check (L : Nat) (hL : L ≤ 4611686018427387904) (a0_0 : Int) (a0_1 : Int) (a0_2 : List (Int × Int × Bool × Unit)) (res : Int) (h : p_clean_Check L a0_0 a0_1 a0_2 = some res) : evTop Try.prog (G_clean_Check L) T_clean_Check L 1 89 [.agg 45 [.int .i64 a0_0, .int .i64 a0_1, .sl 35 (a0_2.map k35.e)]] = some [.int .i64 res] := by
  revert h
  unfold p_clean_Check evTop
  simp only [List.map]
  rw [evF_s (fn := Try.f89) (msk := en89.ms) (hT := by rfl) (hb := by rfl)]
  refine ite_i (fun c1 => ?_) (fun c1 => ?_)
  · rintro ⟨⟩
    simp only [go_sem, Nat.reduceAdd, Nat.reduceSub, Nat.reduceMul, Nat.reduceEqDiff, Nat.reduceBEq, Nat.reduceLT, Nat.reduceLeDiff, Nat.reducePow, Int.reduceToNat, Int.reduceLT, Int.reduceLE, Int.reduceGT, Int.reduceGE, Int.reduceEq, Int.reduceNeg, Int.reduceAdd, Int.reduceSub, Int.reduceMul, ↓reduceIte, reduceCtorEq, *]
  · refine ite_i (fun c2 => ?_) (fun c2 => ?_)
    · rintro ⟨⟩
      simp only [go_sem, Nat.reduceAdd, Nat.reduceSub, Nat.reduceMul, Nat.reduceEqDiff, Nat.reduceBEq, Nat.reduceLT, Nat.reduceLeDiff, Nat.reducePow, Int.reduceToNat, Int.reduceLT, Int.reduceLE, Int.reduceGT, Int.reduceGE, Int.reduceEq, Int.reduceNeg, Int.reduceAdd, Int.reduceSub, Int.reduceMul, ↓reduceIte, reduceCtorEq, *]
    · refine cb_i (fun c3 => ?_) (fun c3 => ?_)
      · refine rq_i fun c4 => ?_
        refine bnd_i fun o5 ho5 => ?_
        intro h
        simp only [go_sem, Nat.reduceAdd, Nat.reduceSub, Nat.reduceMul, Nat.reduceEqDiff, Nat.reduceBEq, Nat.reduceLT, Nat.reduceLeDiff, Nat.reducePow, Int.reduceToNat, Int.reduceLT, Int.reduceLE, Int.reduceGT, Int.reduceGE, Int.reduceEq, Int.reduceNeg, Int.reduceAdd, Int.reduceSub, Int.reduceMul, ↓reduceIte, reduceCtorEq, *]
        generalize hz7 : iter _ _ _ _ _ = z6
        have hq8 : Q_p_clean_Check_l0 a0_2 o5 z6 := by
          rw [← hz7]
          refine l_p_clean_Check_l0 L hL a0_2 a0_2 L 0  _ _ _ c4 (rng_0 c4 hL) ?_ ho5
          all_goals simp only [go_sem, Nat.reduceAdd, Nat.reduceSub, Nat.reduceMul, Nat.reduceEqDiff, Nat.reduceBEq, Nat.reduceLT, Nat.reduceLeDiff, Nat.reducePow, Int.reduceToNat, Int.reduceLT, Int.reduceLE, Int.reduceGT, Int.reduceGE, Int.reduceEq, Int.reduceNeg, Int.reduceAdd, Int.reduceSub, Int.reduceMul, ↓reduceIte, reduceCtorEq, *]
        clear hz7 ho5
        rcases o5 with o5_0 | o5_1
        · obtain ⟨_, st6, rfl, rfl⟩ := hq8
          dsimp only at h
          revert h
          rintro ⟨⟩
          simp only [go_sem, Nat.reduceAdd, Nat.reduceSub, Nat.reduceMul, Nat.reduceEqDiff, Nat.reduceBEq, Nat.reduceLT, Nat.reduceLeDiff, Nat.reducePow, Int.reduceToNat, Int.reduceLT, Int.reduceLE, Int.reduceGT, Int.reduceGE, Int.reduceEq, Int.reduceNeg, Int.reduceAdd, Int.reduceSub, Int.reduceMul, ↓reduceIte, reduceCtorEq, *]
        · obtain ⟨_, st7, rfl, rfl⟩ := hq8
          dsimp only at h
          revert h
          rintro ⟨⟩
          simp only [go_sem, Nat.reduceAdd, Nat.reduceSub, Nat.reduceMul, Nat.reduceEqDiff, Nat.reduceBEq, Nat.reduceLT, Nat.reduceLeDiff, Nat.reducePow, Int.reduceToNat, Int.reduceLT, Int.reduceLE, Int.reduceGT, Int.reduceGE, Int.reduceEq, Int.reduceNeg, Int.reduceAdd, Int.reduceSub, Int.reduceMul, ↓reduceIte, reduceCtorEq, *]
      · rintro ⟨⟩
        simp only [go_sem, Nat.reduceAdd, Nat.reduceSub, Nat.reduceMul, Nat.reduceEqDiff, Nat.reduceBEq, Nat.reduceLT, Nat.reduceLeDiff, Nat.reducePow, Int.reduceToNat, Int.reduceLT, Int.reduceLE, Int.reduceGT, Int.reduceGE, Int.reduceEq, Int.reduceNeg, Int.reduceAdd, Int.reduceSub, Int.reduceMul, ↓reduceIte, reduceCtorEq, *]
noncomputable def s_clean_Check (L : Nat) : Ev.Spec := specP (cCons k45 cNil) (fun x => p_clean_Check L x.1.1 x.1.2.1 x.1.2.2.1) (fun r => [.int .i64 r])
theorem s_clean_Check_run (L : Nat) (a0_0 : Int) (a0_1 : Int) (a0_2 : List (Int × Int × Bool × Unit)) : (s_clean_Check L).run [.agg 45 [.int .i64 a0_0, .int .i64 a0_1, .sl 35 (a0_2.map k35.e)]] = (p_clean_Check L a0_0 a0_1 a0_2).map fun r => [.int .i64 r] := specP_run (cCons k45 cNil) (fun x => p_clean_Check L x.1.1 x.1.2.1 x.1.2.2.1) (fun r => [.int .i64 r]) ((a0_0, a0_1, a0_2, ()), ())
theorem ok_clean_Check (L : Nat) (hL : L ≤ 4611686018427387904) : SpecOk Try.prog 89 (s_clean_Check L) := specP_ok mixed (Go_clean_Check L hL) (To_clean_Check L) fun x r h => ⟨L, 1, e_clean_Check L hL x.1.1 x.1.2.1 x.1.2.2.1 r h⟩
end Go.Proofs.Ytnojehmbiceceaa.P
end
section
set_option linter.unusedVariables false
set_option linter.unusedSimpArgs false
set_option maxRecDepth 100000
namespace Go.Proofs.Ytnojehmbiceceaa.E
open Go.Ev
noncomputable def en97 : Entry := ⟨Try.f97, [(0, mb 48 0 [36, 37, 38]), (1000001, mb 48 0 []), (1000002, mb 48 0 [36, 37, 38]), (1000000, mb 48 0 [2])]⟩
theorem mk97_0 (vs : List V) : mask (maskOf en97.ms 0) vs = km 48 0 [36, 37, 38] vs := mask_mb _ _ _ _
theorem mk97_1000001 (vs : List V) : mask (maskOf en97.ms 1000001) vs = km 48 0 [] vs := mask_mb _ _ _ _
theorem mk97_1000002 (vs : List V) : mask (maskOf en97.ms 1000002) vs = km 48 0 [36, 37, 38] vs := mask_mb _ _ _ _
theorem mk97_1000000 (vs : List V) : mask (maskOf en97.ms 1000000) vs = km 48 0 [2] vs := mask_mb _ _ _ _
theorem fz97_0 (lv : Nat) (f : Run) : frzF en97.ms lv 0 f = f := nr rfl
noncomputable def lb97_0 : Code := loopN Try.f97 0
end Go.Proofs.Ytnojehmbiceceaa.E
end
section
set_option linter.unusedVariables false
set_option linter.unusedSimpArgs false
set_option maxRecDepth 100000
namespace Go.Proofs.Ytnojehmbiceceaa.P
open Go.Ev Go.IntKind Go.Proofs.Ytnojehmbiceceaa Go.Proofs.Ytnojehmbiceceaa.Ty Go.Proofs.Ytnojehmbiceceaa.E
def p_spyref3_FieldFault_l0 (L : Nat)  : List (Int × Int × Bool × Unit) → Option (Sum Unit Int)
  | [] => some (.inl ())
  | x1 :: tl => bnd (p_spyref3_BoundFault_Quanta L x1.1 x1.2.1 x1.2.2.1 (-1099511627776) 1099511627776) fun r4 => cb (decide (r4 = 0)) (p_spyref3_FieldFault_l0 L  tl) (some (.inr r4))
def p_spyref3_FieldFault (L : Nat) (a0_0 : Int) (a0_1 : Int) (a0_2 : List (Int × Int × Bool × Unit)) : Option Int := if a0_0 < 1 then (some 3) else (if a0_0 > 32 then (some 3) else (if a0_1 < 1 then (some 3) else (if a0_1 > 32 then (some 3) else (cb (decide ((a0_2.length : Int) = (i64.wrap (a0_0 * a0_1)))) (rq (a0_2.length < L) <| bnd (p_spyref3_FieldFault_l0 L a0_2) fun o5 => match o5 with | (.inl o5_0) => (some 0) | (.inr o5_1) => (some o5_1)) (some 3)))))
attribute [local go_sem] Ev.putR_s Ev.putR_0 Ev.thenO_s Ev.thenO_0 Ev.seqR_n Ev.seqR_e Ev.seqR_r Ev.seqR_0 Ev.blkR_e Ev.blkR_n Ev.blkR_r Ev.blkR_0 Ev.normR_s Ev.normR_0 Ev.outR_r Ev.outR_n Ev.outR_0 Ev.retS_s Ev.retS_0 Ev.pureO_s Ev.pureO_0 Ev.topR_0 Ev.topR_t Ev.topR_t0 Ev.oneL_0 Ev.oneL_s Ev.topR_d Ev.topR_nils Ev.topR_agg Ev.topR_rs Ev.evOp_move Ev.evOp_assign Ev.evOp_pick Ev.evOp_alloc Ev.evOp_box Ev.evOp_build Ev.evOp_buildSlice Ev.evOp_load Ev.evOp_store Ev.evOp_makeMap Ev.evOp_lookup Ev.evOp_mapUpdate Ev.evOp_insert Ev.evOp_nilCheck Ev.evOp_binOp Ev.evOp_unOp Ev.evOp_convert Ev.evOp_makeFunc Ev.evOp_makeSlice Ev.evOp_slice Ev.evOp_fieldAddr Ev.evOp_field Ev.evOp_indexAddr Ev.evOp_index Ev.evOp_extract Ev.evOp_call Ev.evOp_append Ev.evOp_clear Ev.evOp_len Ev.evOp_min Ev.evOp_max Ev.condR_b Ev.condR_t Ev.evOps_nil Ev.evOps_plain Ev.evOps_guard Ev.runG_eq Ev.skipG_eq Ev.condL_tt Ev.condL_ff Ev.condL_tf Ev.condL_ft Ev.condL_u Ev.condC_t Ev.condC_f Ev.evC_skip Ev.evC_ret Ev.evC_exit Ev.evC_label Ev.evC_region Ev.evC_draw Ev.evC_seq Ev.evC_cond Ev.evC_block Ev.evC_loop Ev.fin_d Ev.fin_nils Ev.fin_agg_ Ev.fin_rs Ev.finS_s Ev.mapO_fin Ev.upd_upd Ev.argv_d Ev.argv_nils Ev.argv_agg Ev.argv_rs Ev.argv_p Ev.fk_low Ev.appendTo_nils Ev.appendTo_rs Ev.consV_d Ev.consV_agg Ev.consV_p Ev.consV_rs Ev.consV_nils Ev.consV_fn Ev.consV_und Ev.consV_jk Ev.consV_grown Ev.topR_grown Ev.len_grown Ev.consV_mp Ev.sameK_i Ev.sameK_s Ev.mget_0 Ev.mget_hit Ev.mget_miss Ev.mput_0 Ev.mput_hit Ev.mput_miss Ev.apartAll Ev.apartL Ev.apartV Ev.freeAll Ev.sel Ev.keyOfV Ev.evLookup Ev.evPut Ev.hintOk Ev.keyOk Ev.consP Ev.lookV Ev.guardV Ev.dstAt Ev.evPure Ev.evStore Ev.evBin Ev.evBinO Ev.evNil Ev.isNilC Ev.evUn Ev.evConv Ev.evSlice Ev.optI Ev.foldI Ev.capsOk Ev.noTup Ev.nth Ev.setN Ev.killAt Ev.pad Ev.V.get Ev.V.put Ev.putD Ev.newBlk Ev.upd Ev.keq Ev.empty Ev.evCall Ev.V.args Ev.argP Ev.callOf Ev.evNilP Ev.isNilP Ev.look Ev.V.view.views Ev.V.view Ev.V.toD Ev.V.toD.V.toDs Ev.V.pure.pures Ev.V.pure Ev.D.flat.flats Ev.D.flat Ev.mkAgg Ev.allD Ev.aggParts Ev.setParts Ev.setElems Ev.getPath Ev.setPath Ev.subL Ev.eqD Ev.eqD.eqDs Ev.and2 Ev.strCut Ev.evalT Ev.constT Ev.evArgs Ev.mask Ev.maskOf Ev.tableOf Ev.compT Ev.resV Ev.retV Ev.mapO Ev.frzO_n Ev.frzO_e Ev.frzO_r Ev.frzO_0 Ev.mb_z Ev.mb_0 Ev.mb_s Ev.frzL_t Ev.frzL_f Ev.frzL_0 Ev.frzT_nils Ev.frzT_rs Ev.frzT_p Ev.frzK_i Ev.keyIn_i Ev.rI_nil Ev.rI_cons Ev.rI_row Ev.rI_app Ev.r_d Ev.r_nils Ev.r_agg Ev.r_rs Ev.r_gl Ev.vw_row Ev.vw_app Ev.appO_s Ev.frzT_gl Ev.allD_gl Ev.killAt_i Ev.tkOne_i Ev.hT_agg Ev.hT_vagg Ev.hT_int Ev.hT_bool Ev.hT_str Ev.hT_sl Ev.hT_ptr Ev.hT_np Ev.hT_p Ev.hT_rs Ev.hT_mp Ev.hT_nils Ev.hT_fn Ev.hT_jk Ev.hT_gl Ev.eO_sl Ev.eO_nils Ev.eO_rs Ev.eT_sl Ev.eT_rs Ev.pL_str Ev.pL_sl Ev.pL_rs Ev.pL_nils Ev.pL_min Ev.pL_max Ev.len_glB Ev.noTup_gl Ev.rowV_len Ev.rowV_nil Ev.rowV_cons Ev.rowV_append Ev.rowV_set Ev.rowV_replicate Ev.nth_row Ev.row_take Ev.row_drop Ev.toDs_row Ev.fin_row Ev.map_row Ev.map_take_ Ev.map_drop_ Ev.Bk_i Ev.GlB_0 Ev.GlB_mk Ev.gl_nil Ev.gl_cons Ev.gl_snoc Ev.gl_setN Ev.appendTo_gl Ev.consV_gl Ev.elems_gl Ev.fin_gl Ev.view_gl Ev.argv_gl Ev.topR_gl Ev.sp_z Ev.sp_0 Ev.sp_s Ev.km_z Ev.km_0 Ev.km_s Ev.beq_toList Ev.nc0 Ev.bq_t Ev.bq_f Ev.bodyN Ev.le_maxRow Int.cast_ofNat_Int IntWalk.i64_in IntWalk.u64_in IntWalk.u8_in beq_self_eq_true Bool.true_beq Bool.false_beq Bool.and_true Bool.true_and Bool.false_and Bool.and_false Bool.and_self Bool.not_true Bool.not_false Bool.not_eq_true cond_true cond_false if_true if_false and_true true_and and_self decide_true decide_false Bool.or_true Bool.true_or Bool.or_false Bool.false_or List.isEmpty List.isEmpty_nil List.size_toArray List.map List.length_map List.length_cons List.length_nil Option.map Option.bind Option.getD Option.isSome List.replicate Bool.false_eq_true implies_true false_implies forall_const Array.toList Array.isEmpty List.append List.nil_append List.cons_append List.drop_zero List.take_length List.take_succ_cons List.take_zero List.take_nil List.getElem?_map List.getElem?_cons_zero List.getElem?_cons_succ List.getElem?_nil List.append_nil eq_self Int.toNat_natCast List.length_append Nat.zero_add Nat.add_zero List.length_replicate Nat.sub_zero Option.map_some Option.map_none Int.le_refl Nat.le_refl Int.natCast_nonneg List.map_append
noncomputable def G_spyref3_FieldFault (L : Nat) : Specs := [(104, s_spyref3_BoundFault_Quanta L)]
noncomputable def T_spyref3_FieldFault : Table := tableOf [(97, en97)]
theorem Go_spyref3_FieldFault (L : Nat) (hL : L ≤ 4611686018427387904) : ∀ g s, Ev.look (G_spyref3_FieldFault L) g = some s → SpecOk Try.prog g s := (specs_cons (ok_spyref3_BoundFault_Quanta L hL) specs_nil)
theorem To_spyref3_FieldFault (L : Nat) : TableOk Try.prog ((G_spyref3_FieldFault L).map (·.1)) T_spyref3_FieldFault := (table_cons Try.func97 (by kernel_rfl) (by kernel_rfl) table_nil)
theorem lk_spyref3_FieldFault_104 (L : Nat) : Ev.look (G_spyref3_FieldFault L) 104 = some (s_spyref3_BoundFault_Quanta L) := nr rfl
attribute [local go_sem] Ty.tk3 Ty.ik3 Ty.ek3 Ty.zv3 Ty.by3 Ty.so3 Ty.tk4 Ty.ub4 Ty.ek4 Ty.zv4 Ty.by4 Ty.so4 Ty.tk24 Ty.ik24 Ty.ek24 Ty.zv24 Ty.by24 Ty.so24 Ty.tk27 Ty.ik27 Ty.ek27 Ty.zv27 Ty.by27 Ty.so27 Ty.tk35 Ty.ct35 Ty.ek35 Ty.zv35 Ty.by35 Ty.so35 Ty.tk43 Ty.zv43 Ty.by43 Ty.so43 Ty.tk45 Ty.ct45 Ty.zv45 Ty.by45 Ty.so45 Ty.k35_e Ty.k43_e Ty.k45_e E.mk97_0 E.mk97_1000001 E.mk97_1000002 E.mk97_1000000 E.fz97_0 E.lb97_0 lk_spyref3_FieldFault_104 s_spyref3_BoundFault_Quanta_run loopN loops Try.f97
def Q0_p_spyref3_FieldFault_l0 (a0_2 : List (Int × Int × Bool × Unit)) (u : Unit) (z : Out) : Prop := ∃ env st, z = some (.exit 0, env, st) ∧ env = sp 48 0 []
def Q1_p_spyref3_FieldFault_l0 (a0_2 : List (Int × Int × Bool × Unit)) (u : Int) (z : Out) : Prop := ∃ env st, z = some (.ret, env, st) ∧ env = sp 48 0 [(2, .d (.int .i64 u))]
def Q_p_spyref3_FieldFault_l0 (a0_2 : List (Int × Int × Bool × Unit)) (o : Sum Unit Int) (z : Out) : Prop := match o with | (.inl u) => Q0_p_spyref3_FieldFault_l0 a0_2 u z | (.inr u) => Q1_p_spyref3_FieldFault_l0 a0_2 u z
theorem l_p_spyref3_FieldFault_l0 (L : Nat) (hL : L ≤ 4611686018427387904) (a0_2 : List (Int × Int × Bool × Unit)) : ∀ (tl : List (Int × Int × Bool × Unit)) (n : Nat) (s2 : Int) (env : List V) (st : Store) (o : Sum Unit Int), tl.length < n → Rng a0_2 s2 tl → mask (maskOf en97.ms 0) env = sp 48 0 [(36, .d (.sl 35 (a0_2.map k35.e))), (37, .d (.int .i64 (a0_2.length : Int))), (38, .d (.int .i64 s2))] → p_spyref3_FieldFault_l0 L  tl  = some o →
    Q_p_spyref3_FieldFault_l0 a0_2 o (iter (evC Try.prog (G_spyref3_FieldFault L) (evF Try.prog (G_spyref3_FieldFault L) T_spyref3_FieldFault L 0) L en97.ms 0 0 lb97_0) (maskOf en97.ms 0) n env st) := by
  intro tl
  induction tl with
  | nil =>
    intro n s2  env st o hn hR he  h
    obtain ⟨n, rfl⟩ : ∃ m, n = m + 1 := ⟨n - 1, by omega⟩
    have g0 := rng_nil hR
    rw [iter, he]
    clear he
    generalize hK : iter _ _ n = K
    rw [p_spyref3_FieldFault_l0] at h
    revert h
    rintro ⟨⟩
    simp only [go_sem, Nat.reduceAdd, Nat.reduceSub, Nat.reduceMul, Nat.reduceEqDiff, Nat.reduceBEq, Nat.reduceLT, Nat.reduceLeDiff, Nat.reducePow, Int.reduceToNat, Int.reduceLT, Int.reduceLE, Int.reduceGT, Int.reduceGE, Int.reduceEq, Int.reduceNeg, Int.reduceAdd, Int.reduceSub, Int.reduceMul, ↓reduceIte, reduceCtorEq, *]
    refine (⟨_, _, rfl, ?_⟩ : Q0_p_spyref3_FieldFault_l0 a0_2 _ _)
    all_goals simp only [go_sem, Nat.reduceAdd, Nat.reduceSub, Nat.reduceMul, Nat.reduceEqDiff, Nat.reduceBEq, Nat.reduceLT, Nat.reduceLeDiff, Nat.reducePow, Int.reduceToNat, Int.reduceLT, Int.reduceLE, Int.reduceGT, Int.reduceGE, Int.reduceEq, Int.reduceNeg, Int.reduceAdd, Int.reduceSub, Int.reduceMul, ↓reduceIte, reduceCtorEq, *]
  | cons x1 tl ih =>
    intro n s2  env st o hn hR he  h
    obtain ⟨n, rfl⟩ : ∃ m, n = m + 1 := ⟨n - 1, by omega⟩
    replace ih : Hold _ := ih
    replace hR := rng_s hR
    obtain ⟨g0, g1, g2, g3, hR⟩ := hR
    rw [iter, he]
    clear he
    generalize hK : iter _ _ n = K
    rw [p_spyref3_FieldFault_l0] at h
    revert h
    refine bnd_i fun r4 c1 => ?_
    refine cb_i (fun c2 => ?_) (fun c2 => ?_)
    · intro h
      simp only [go_sem, Nat.reduceAdd, Nat.reduceSub, Nat.reduceMul, Nat.reduceEqDiff, Nat.reduceBEq, Nat.reduceLT, Nat.reduceLeDiff, Nat.reducePow, Int.reduceToNat, Int.reduceLT, Int.reduceLE, Int.reduceGT, Int.reduceGE, Int.reduceEq, Int.reduceNeg, Int.reduceAdd, Int.reduceSub, Int.reduceMul, ↓reduceIte, reduceCtorEq, *]
      subst hK
      refine ih n (s2 + 1)  _ _ _ (by simp only [List.length_cons] at hn; omega) hR ?_ h
      all_goals simp only [go_sem, Nat.reduceAdd, Nat.reduceSub, Nat.reduceMul, Nat.reduceEqDiff, Nat.reduceBEq, Nat.reduceLT, Nat.reduceLeDiff, Nat.reducePow, Int.reduceToNat, Int.reduceLT, Int.reduceLE, Int.reduceGT, Int.reduceGE, Int.reduceEq, Int.reduceNeg, Int.reduceAdd, Int.reduceSub, Int.reduceMul, ↓reduceIte, reduceCtorEq, *]
    · rintro ⟨⟩
      simp only [go_sem, Nat.reduceAdd, Nat.reduceSub, Nat.reduceMul, Nat.reduceEqDiff, Nat.reduceBEq, Nat.reduceLT, Nat.reduceLeDiff, Nat.reducePow, Int.reduceToNat, Int.reduceLT, Int.reduceLE, Int.reduceGT, Int.reduceGE, Int.reduceEq, Int.reduceNeg, Int.reduceAdd, Int.reduceSub, Int.reduceMul, ↓reduceIte, reduceCtorEq, *]
      refine (⟨_, _, rfl, ?_⟩ : Q1_p_spyref3_FieldFault_l0 a0_2 _ _)
      all_goals simp only [go_sem, Nat.reduceAdd, Nat.reduceSub, Nat.reduceMul, Nat.reduceEqDiff, Nat.reduceBEq, Nat.reduceLT, Nat.reduceLeDiff, Nat.reducePow, Int.reduceToNat, Int.reduceLT, Int.reduceLE, Int.reduceGT, Int.reduceGE, Int.reduceEq, Int.reduceNeg, Int.reduceAdd, Int.reduceSub, Int.reduceMul, ↓reduceIte, reduceCtorEq, *]
theorem e_spyref3_FieldFault (L : Nat) (hL : L ≤ 4611686018427387904) (a0_0 : Int) (a0_1 : Int) (a0_2 : List (Int × Int × Bool × Unit)) (res : Int) (h : p_spyref3_FieldFault L a0_0 a0_1 a0_2 = some res) : evTop Try.prog (G_spyref3_FieldFault L) T_spyref3_FieldFault L 1 97 [.agg 45 [.int .i64 a0_0, .int .i64 a0_1, .sl 35 (a0_2.map k35.e)]] = some [.int .i64 res] := by
  revert h
  unfold p_spyref3_FieldFault evTop
  simp only [List.map]
  rw [evF_s (fn := Try.f97) (msk := en97.ms) (hT := by rfl) (hb := by rfl)]
  refine ite_i (fun c1 => ?_) (fun c1 => ?_)
  · rintro ⟨⟩
    simp only [go_sem, Nat.reduceAdd, Nat.reduceSub, Nat.reduceMul, Nat.reduceEqDiff, Nat.reduceBEq, Nat.reduceLT, Nat.reduceLeDiff, Nat.reducePow, Int.reduceToNat, Int.reduceLT, Int.reduceLE, Int.reduceGT, Int.reduceGE, Int.reduceEq, Int.reduceNeg, Int.reduceAdd, Int.reduceSub, Int.reduceMul, ↓reduceIte, reduceCtorEq, *]
  · refine ite_i (fun c2 => ?_) (fun c2 => ?_)
    · rintro ⟨⟩
      simp only [go_sem, Nat.reduceAdd, Nat.reduceSub, Nat.reduceMul, Nat.reduceEqDiff, Nat.reduceBEq, Nat.reduceLT, Nat.reduceLeDiff, Nat.reducePow, Int.reduceToNat, Int.reduceLT, Int.reduceLE, Int.reduceGT, Int.reduceGE, Int.reduceEq, Int.reduceNeg, Int.reduceAdd, Int.reduceSub, Int.reduceMul, ↓reduceIte, reduceCtorEq, *]
    · refine ite_i (fun c3 => ?_) (fun c3 => ?_)
      · rintro ⟨⟩
        simp only [go_sem, Nat.reduceAdd, Nat.reduceSub, Nat.reduceMul, Nat.reduceEqDiff, Nat.reduceBEq, Nat.reduceLT, Nat.reduceLeDiff, Nat.reducePow, Int.reduceToNat, Int.reduceLT, Int.reduceLE, Int.reduceGT, Int.reduceGE, Int.reduceEq, Int.reduceNeg, Int.reduceAdd, Int.reduceSub, Int.reduceMul, ↓reduceIte, reduceCtorEq, *]
      · refine ite_i (fun c4 => ?_) (fun c4 => ?_)
        · rintro ⟨⟩
          simp only [go_sem, Nat.reduceAdd, Nat.reduceSub, Nat.reduceMul, Nat.reduceEqDiff, Nat.reduceBEq, Nat.reduceLT, Nat.reduceLeDiff, Nat.reducePow, Int.reduceToNat, Int.reduceLT, Int.reduceLE, Int.reduceGT, Int.reduceGE, Int.reduceEq, Int.reduceNeg, Int.reduceAdd, Int.reduceSub, Int.reduceMul, ↓reduceIte, reduceCtorEq, *]
        · refine cb_i (fun c5 => ?_) (fun c5 => ?_)
          · refine rq_i fun c6 => ?_
            refine bnd_i fun o5 ho7 => ?_
            intro h
            simp only [go_sem, Nat.reduceAdd, Nat.reduceSub, Nat.reduceMul, Nat.reduceEqDiff, Nat.reduceBEq, Nat.reduceLT, Nat.reduceLeDiff, Nat.reducePow, Int.reduceToNat, Int.reduceLT, Int.reduceLE, Int.reduceGT, Int.reduceGE, Int.reduceEq, Int.reduceNeg, Int.reduceAdd, Int.reduceSub, Int.reduceMul, ↓reduceIte, reduceCtorEq, *]
            generalize hz9 : iter _ _ _ _ _ = z8
            have hq10 : Q_p_spyref3_FieldFault_l0 a0_2 o5 z8 := by
              rw [← hz9]
              refine l_p_spyref3_FieldFault_l0 L hL a0_2 a0_2 L 0  _ _ _ c6 (rng_0 c6 hL) ?_ ho7
              all_goals simp only [go_sem, Nat.reduceAdd, Nat.reduceSub, Nat.reduceMul, Nat.reduceEqDiff, Nat.reduceBEq, Nat.reduceLT, Nat.reduceLeDiff, Nat.reducePow, Int.reduceToNat, Int.reduceLT, Int.reduceLE, Int.reduceGT, Int.reduceGE, Int.reduceEq, Int.reduceNeg, Int.reduceAdd, Int.reduceSub, Int.reduceMul, ↓reduceIte, reduceCtorEq, *]
            clear hz9 ho7
            rcases o5 with o5_0 | o5_1
            · obtain ⟨_, st6, rfl, rfl⟩ := hq10
              dsimp only at h
              revert h
              rintro ⟨⟩
              simp only [go_sem, Nat.reduceAdd, Nat.reduceSub, Nat.reduceMul, Nat.reduceEqDiff, Nat.reduceBEq, Nat.reduceLT, Nat.reduceLeDiff, Nat.reducePow, Int.reduceToNat, Int.reduceLT, Int.reduceLE, Int.reduceGT, Int.reduceGE, Int.reduceEq, Int.reduceNeg, Int.reduceAdd, Int.reduceSub, Int.reduceMul, ↓reduceIte, reduceCtorEq, *]
            · obtain ⟨_, st7, rfl, rfl⟩ := hq10
              dsimp only at h
              revert h
              rintro ⟨⟩
              simp only [go_sem, Nat.reduceAdd, Nat.reduceSub, Nat.reduceMul, Nat.reduceEqDiff, Nat.reduceBEq, Nat.reduceLT, Nat.reduceLeDiff, Nat.reducePow, Int.reduceToNat, Int.reduceLT, Int.reduceLE, Int.reduceGT, Int.reduceGE, Int.reduceEq, Int.reduceNeg, Int.reduceAdd, Int.reduceSub, Int.reduceMul, ↓reduceIte, reduceCtorEq, *]
          · rintro ⟨⟩
            simp only [go_sem, Nat.reduceAdd, Nat.reduceSub, Nat.reduceMul, Nat.reduceEqDiff, Nat.reduceBEq, Nat.reduceLT, Nat.reduceLeDiff, Nat.reducePow, Int.reduceToNat, Int.reduceLT, Int.reduceLE, Int.reduceGT, Int.reduceGE, Int.reduceEq, Int.reduceNeg, Int.reduceAdd, Int.reduceSub, Int.reduceMul, ↓reduceIte, reduceCtorEq, *]
noncomputable def s_spyref3_FieldFault (L : Nat) : Ev.Spec := specP (cCons k45 cNil) (fun x => p_spyref3_FieldFault L x.1.1 x.1.2.1 x.1.2.2.1) (fun r => [.int .i64 r])
theorem s_spyref3_FieldFault_run (L : Nat) (a0_0 : Int) (a0_1 : Int) (a0_2 : List (Int × Int × Bool × Unit)) : (s_spyref3_FieldFault L).run [.agg 45 [.int .i64 a0_0, .int .i64 a0_1, .sl 35 (a0_2.map k35.e)]] = (p_spyref3_FieldFault L a0_0 a0_1 a0_2).map fun r => [.int .i64 r] := specP_run (cCons k45 cNil) (fun x => p_spyref3_FieldFault L x.1.1 x.1.2.1 x.1.2.2.1) (fun r => [.int .i64 r]) ((a0_0, a0_1, a0_2, ()), ())
theorem ok_spyref3_FieldFault (L : Nat) (hL : L ≤ 4611686018427387904) : SpecOk Try.prog 97 (s_spyref3_FieldFault L) := specP_ok mixed (Go_spyref3_FieldFault L hL) (To_spyref3_FieldFault L) fun x r h => ⟨L, 1, e_spyref3_FieldFault L hL x.1.1 x.1.2.1 x.1.2.2.1 r h⟩
end Go.Proofs.Ytnojehmbiceceaa.P
end
section
set_option linter.unusedVariables false
set_option linter.unusedSimpArgs false
set_option maxRecDepth 100000
namespace Go.Proofs.Ytnojehmbiceceaa.E
open Go.Ev
noncomputable def en31 : Entry := ⟨Try.f31, [(1000000, mb 24 0 [4])]⟩
theorem mk31_1000000 (vs : List V) : mask (maskOf en31.ms 1000000) vs = km 24 0 [4] vs := mask_mb _ _ _ _
end Go.Proofs.Ytnojehmbiceceaa.E
end
section
set_option linter.unusedVariables false
set_option linter.unusedSimpArgs false
set_option maxRecDepth 100000
namespace Go.Proofs.Ytnojehmbiceceaa.E
open Go.Ev
noncomputable def en28 : Entry := ⟨Try.f28, [(0, mb 26 0 [0, 1, 12, 13]), (1000001, mb 26 0 []), (1000002, mb 26 0 [0, 1, 12, 13]), (1000000, mb 26 0 [4])]⟩
theorem dw28_6 (lv : Nat) (env : List V) (st : Store) (o : Option (List V × Store)) : drawR en28.ms 6 lv env st o = if lv < 1000000000000000000000000000000 then (o) else none := nr rfl
theorem kl28_6 (lv : Nat) (st : Store) : killR en28.ms 6 lv st = st := nr rfl
theorem nc28_6 : ncOf en28.ms 6 = false := nr rfl
theorem mk28_0 (vs : List V) : mask (maskOf en28.ms 0) vs = km 26 0 [0, 1, 12, 13] vs := mask_mb _ _ _ _
theorem mk28_1000001 (vs : List V) : mask (maskOf en28.ms 1000001) vs = km 26 0 [] vs := mask_mb _ _ _ _
theorem mk28_1000002 (vs : List V) : mask (maskOf en28.ms 1000002) vs = km 26 0 [0, 1, 12, 13] vs := mask_mb _ _ _ _
theorem mk28_1000000 (vs : List V) : mask (maskOf en28.ms 1000000) vs = km 26 0 [4] vs := mask_mb _ _ _ _
theorem fz28_0 (lv : Nat) (f : Run) : frzF en28.ms lv 0 f = f := nr rfl
noncomputable def lb28_0 : Code := loopN Try.f28 0
end Go.Proofs.Ytnojehmbiceceaa.E
end
section
set_option linter.unusedVariables false
set_option linter.unusedSimpArgs false
set_option maxRecDepth 100000
namespace Go.Proofs.Ytnojehmbiceceaa.P
open Go.Ev Go.IntKind Go.Proofs.Ytnojehmbiceceaa Go.Proofs.Ytnojehmbiceceaa.Ty Go.Proofs.Ytnojehmbiceceaa.E
def p_slices_Equal_Quanta__l0 (L : Nat) (a0 : List (Int × Int × Bool × Unit)) (a1 : List (Int × Int × Bool × Unit)) : Nat → Int → Option (Sum Unit Unit)
  | 0, s3 => some (.inl ())
  | tl + 1, s3 => bnd (idx a0 s3) fun x6 => bnd (idx a1 s3) fun x7 => cb ((decide (x6.1 = x7.1)) && ((decide (x6.2.1 = x7.2.1)) && (x6.2.2.1 == x7.2.2.1))) (p_slices_Equal_Quanta__l0 L a0 a1 tl (s3 + 1)) (some (.inr ()))
def p_slices_Equal_Quanta_ (L : Nat) (a0 : List (Int × Int × Bool × Unit)) (a1 : List (Int × Int × Bool × Unit)) : Option Bool := cb (decide ((a0.length : Int) = (a1.length : Int))) (rq ((a0.length : Int).toNat < L) <| rq ((a0.length : Int) < 4611686018427387904) <| bnd (p_slices_Equal_Quanta__l0 L a0 a1 (a0.length : Int).toNat 0) fun o8 => match o8 with | (.inl o8_0) => (some true) | (.inr o8_1) => (some false)) (some false)
attribute [local go_sem] Ev.putR_s Ev.putR_0 Ev.thenO_s Ev.thenO_0 Ev.seqR_n Ev.seqR_e Ev.seqR_r Ev.seqR_0 Ev.blkR_e Ev.blkR_n Ev.blkR_r Ev.blkR_0 Ev.normR_s Ev.normR_0 Ev.outR_r Ev.outR_n Ev.outR_0 Ev.retS_s Ev.retS_0 Ev.pureO_s Ev.pureO_0 Ev.topR_0 Ev.topR_t Ev.topR_t0 Ev.oneL_0 Ev.oneL_s Ev.topR_d Ev.topR_nils Ev.topR_agg Ev.topR_rs Ev.evOp_move Ev.evOp_assign Ev.evOp_pick Ev.evOp_alloc Ev.evOp_box Ev.evOp_build Ev.evOp_buildSlice Ev.evOp_load Ev.evOp_store Ev.evOp_makeMap Ev.evOp_lookup Ev.evOp_mapUpdate Ev.evOp_insert Ev.evOp_nilCheck Ev.evOp_binOp Ev.evOp_unOp Ev.evOp_convert Ev.evOp_makeFunc Ev.evOp_makeSlice Ev.evOp_slice Ev.evOp_fieldAddr Ev.evOp_field Ev.evOp_indexAddr Ev.evOp_index Ev.evOp_extract Ev.evOp_call Ev.evOp_append Ev.evOp_clear Ev.evOp_len Ev.evOp_min Ev.evOp_max Ev.condR_b Ev.condR_t Ev.evOps_nil Ev.evOps_plain Ev.evOps_guard Ev.runG_eq Ev.skipG_eq Ev.condL_tt Ev.condL_ff Ev.condL_tf Ev.condL_ft Ev.condL_u Ev.condC_t Ev.condC_f Ev.evC_skip Ev.evC_ret Ev.evC_exit Ev.evC_label Ev.evC_region Ev.evC_draw Ev.evC_seq Ev.evC_cond Ev.evC_block Ev.evC_loop Ev.fin_d Ev.fin_nils Ev.fin_agg_ Ev.fin_rs Ev.finS_s Ev.mapO_fin Ev.upd_upd Ev.argv_d Ev.argv_nils Ev.argv_agg Ev.argv_rs Ev.argv_p Ev.fk_low Ev.appendTo_nils Ev.appendTo_rs Ev.consV_d Ev.consV_agg Ev.consV_p Ev.consV_rs Ev.consV_nils Ev.consV_fn Ev.consV_und Ev.consV_jk Ev.consV_grown Ev.topR_grown Ev.len_grown Ev.consV_mp Ev.sameK_i Ev.sameK_s Ev.mget_0 Ev.mget_hit Ev.mget_miss Ev.mput_0 Ev.mput_hit Ev.mput_miss Ev.apartAll Ev.apartL Ev.apartV Ev.freeAll Ev.sel Ev.keyOfV Ev.evLookup Ev.evPut Ev.hintOk Ev.keyOk Ev.consP Ev.lookV Ev.guardV Ev.dstAt Ev.evPure Ev.evStore Ev.evBin Ev.evBinO Ev.evNil Ev.isNilC Ev.evUn Ev.evConv Ev.evSlice Ev.optI Ev.foldI Ev.capsOk Ev.noTup Ev.nth Ev.setN Ev.killAt Ev.pad Ev.V.get Ev.V.put Ev.putD Ev.newBlk Ev.upd Ev.keq Ev.empty Ev.evCall Ev.V.args Ev.argP Ev.callOf Ev.evNilP Ev.isNilP Ev.look Ev.V.view.views Ev.V.view Ev.V.toD Ev.V.toD.V.toDs Ev.V.pure.pures Ev.V.pure Ev.D.flat.flats Ev.D.flat Ev.mkAgg Ev.allD Ev.aggParts Ev.setParts Ev.setElems Ev.getPath Ev.setPath Ev.subL Ev.eqD Ev.eqD.eqDs Ev.and2 Ev.strCut Ev.evalT Ev.constT Ev.evArgs Ev.mask Ev.maskOf Ev.tableOf Ev.compT Ev.resV Ev.retV Ev.mapO Ev.frzO_n Ev.frzO_e Ev.frzO_r Ev.frzO_0 Ev.mb_z Ev.mb_0 Ev.mb_s Ev.frzL_t Ev.frzL_f Ev.frzL_0 Ev.frzT_nils Ev.frzT_rs Ev.frzT_p Ev.frzK_i Ev.keyIn_i Ev.rI_nil Ev.rI_cons Ev.rI_row Ev.rI_app Ev.r_d Ev.r_nils Ev.r_agg Ev.r_rs Ev.r_gl Ev.vw_row Ev.vw_app Ev.appO_s Ev.frzT_gl Ev.allD_gl Ev.killAt_i Ev.tkOne_i Ev.hT_agg Ev.hT_vagg Ev.hT_int Ev.hT_bool Ev.hT_str Ev.hT_sl Ev.hT_ptr Ev.hT_np Ev.hT_p Ev.hT_rs Ev.hT_mp Ev.hT_nils Ev.hT_fn Ev.hT_jk Ev.hT_gl Ev.eO_sl Ev.eO_nils Ev.eO_rs Ev.eT_sl Ev.eT_rs Ev.pL_str Ev.pL_sl Ev.pL_rs Ev.pL_nils Ev.pL_min Ev.pL_max Ev.len_glB Ev.noTup_gl Ev.rowV_len Ev.rowV_nil Ev.rowV_cons Ev.rowV_append Ev.rowV_set Ev.rowV_replicate Ev.nth_row Ev.row_take Ev.row_drop Ev.toDs_row Ev.fin_row Ev.map_row Ev.map_take_ Ev.map_drop_ Ev.Bk_i Ev.GlB_0 Ev.GlB_mk Ev.gl_nil Ev.gl_cons Ev.gl_snoc Ev.gl_setN Ev.appendTo_gl Ev.consV_gl Ev.elems_gl Ev.fin_gl Ev.view_gl Ev.argv_gl Ev.topR_gl Ev.sp_z Ev.sp_0 Ev.sp_s Ev.km_z Ev.km_0 Ev.km_s Ev.beq_toList Ev.nc0 Ev.bq_t Ev.bq_f Ev.bodyN Ev.le_maxRow Int.cast_ofNat_Int IntWalk.i64_in IntWalk.u64_in IntWalk.u8_in beq_self_eq_true Bool.true_beq Bool.false_beq Bool.and_true Bool.true_and Bool.false_and Bool.and_false Bool.and_self Bool.not_true Bool.not_false Bool.not_eq_true cond_true cond_false if_true if_false and_true true_and and_self decide_true decide_false Bool.or_true Bool.true_or Bool.or_false Bool.false_or List.isEmpty List.isEmpty_nil List.size_toArray List.map List.length_map List.length_cons List.length_nil Option.map Option.bind Option.getD Option.isSome List.replicate Bool.false_eq_true implies_true false_implies forall_const Array.toList Array.isEmpty List.append List.nil_append List.cons_append List.drop_zero List.take_length List.take_succ_cons List.take_zero List.take_nil List.getElem?_map List.getElem?_cons_zero List.getElem?_cons_succ List.getElem?_nil List.append_nil eq_self Int.toNat_natCast List.length_append Nat.zero_add Nat.add_zero List.length_replicate Nat.sub_zero Option.map_some Option.map_none Int.le_refl Nat.le_refl Int.natCast_nonneg List.map_append
noncomputable def G_slices_Equal_Quanta_ (L : Nat) : Specs := []
noncomputable def T_slices_Equal_Quanta_ : Table := tableOf [(28, en28)]
theorem Go_slices_Equal_Quanta_ (L : Nat) (hL : L ≤ 4611686018427387904) : ∀ g s, Ev.look (G_slices_Equal_Quanta_ L) g = some s → SpecOk Try.prog g s := specs_nil
theorem To_slices_Equal_Quanta_ (L : Nat) : TableOk Try.prog ((G_slices_Equal_Quanta_ L).map (·.1)) T_slices_Equal_Quanta_ := (table_cons Try.func28 (by kernel_rfl) (by kernel_rfl) table_nil)
attribute [local go_sem] Ty.tk3 Ty.ik3 Ty.ek3 Ty.zv3 Ty.by3 Ty.so3 Ty.tk4 Ty.ub4 Ty.ek4 Ty.zv4 Ty.by4 Ty.so4 Ty.tk24 Ty.ik24 Ty.ek24 Ty.zv24 Ty.by24 Ty.so24 Ty.tk35 Ty.ct35 Ty.ek35 Ty.zv35 Ty.by35 Ty.so35 Ty.tk43 Ty.zv43 Ty.by43 Ty.so43 Ty.k35_e Ty.k43_e E.dw28_6 E.kl28_6 E.nc28_6 E.mk28_0 E.mk28_1000001 E.mk28_1000002 E.mk28_1000000 E.fz28_0 E.lb28_0 loopN loops Try.f28
def Q0_p_slices_Equal_Quanta__l0 (a0 : List (Int × Int × Bool × Unit)) (a1 : List (Int × Int × Bool × Unit)) (a2 : Int) (u : Unit) (z : Out) : Prop := ∃ env st, z = some (.exit 0, env, st) ∧ env = sp 26 0 []
def Q1_p_slices_Equal_Quanta__l0 (a0 : List (Int × Int × Bool × Unit)) (a1 : List (Int × Int × Bool × Unit)) (a2 : Int) (u : Unit) (z : Out) : Prop := ∃ env st, z = some (.ret, env, st) ∧ env = sp 26 0 [(4, .d (.bool false))]
def Q_p_slices_Equal_Quanta__l0 (a0 : List (Int × Int × Bool × Unit)) (a1 : List (Int × Int × Bool × Unit)) (a2 : Int) (o : Sum Unit Unit) (z : Out) : Prop := match o with | (.inl u) => Q0_p_slices_Equal_Quanta__l0 a0 a1 a2 u z | (.inr u) => Q1_p_slices_Equal_Quanta__l0 a0 a1 a2 u z
theorem l_p_slices_Equal_Quanta__l0 (L : Nat) (hL : L ≤ 4611686018427387904) (a0 : List (Int × Int × Bool × Unit)) (a1 : List (Int × Int × Bool × Unit)) (a2 : Int) : ∀ (tl n : Nat) (s3 : Int) (env : List V) (st : Store) (o : Sum Unit Unit), tl < n → Cnt a2 s3 tl → mask (maskOf en28.ms 0) env = sp 26 0 [(0, .d (.sl 35 (a0.map k35.e))), (1, .d (.sl 35 (a1.map k35.e))), (12, .d (.int .i64 a2)), (13, .d (.int .i64 s3))] → p_slices_Equal_Quanta__l0 L a0 a1 tl s3  = some o →
    Q_p_slices_Equal_Quanta__l0 a0 a1 a2 o (iter (evC Try.prog (G_slices_Equal_Quanta_ L) (evF Try.prog (G_slices_Equal_Quanta_ L) T_slices_Equal_Quanta_ L 0) L en28.ms 0 0 lb28_0) (maskOf en28.ms 0) n env st) := by
  intro tl
  induction tl with
  | zero =>
    intro n s3  env st o hn hR he  h
    obtain ⟨n, rfl⟩ : ∃ m, n = m + 1 := ⟨n - 1, by omega⟩
    have g0 := cnt_nil hR
    rw [iter, he]
    clear he
    generalize hK : iter _ _ n = K
    rw [p_slices_Equal_Quanta__l0] at h
    revert h
    rintro ⟨⟩
    simp only [go_sem, Nat.reduceAdd, Nat.reduceSub, Nat.reduceMul, Nat.reduceEqDiff, Nat.reduceBEq, Nat.reduceLT, Nat.reduceLeDiff, Nat.reducePow, Int.reduceToNat, Int.reduceLT, Int.reduceLE, Int.reduceGT, Int.reduceGE, Int.reduceEq, Int.reduceNeg, Int.reduceAdd, Int.reduceSub, Int.reduceMul, ↓reduceIte, reduceCtorEq, *]
    refine (⟨_, _, rfl, ?_⟩ : Q0_p_slices_Equal_Quanta__l0 a0 a1 a2 _ _)
    all_goals simp only [go_sem, Nat.reduceAdd, Nat.reduceSub, Nat.reduceMul, Nat.reduceEqDiff, Nat.reduceBEq, Nat.reduceLT, Nat.reduceLeDiff, Nat.reducePow, Int.reduceToNat, Int.reduceLT, Int.reduceLE, Int.reduceGT, Int.reduceGE, Int.reduceEq, Int.reduceNeg, Int.reduceAdd, Int.reduceSub, Int.reduceMul, ↓reduceIte, reduceCtorEq, *]
  | succ tl ih =>
    intro n s3  env st o hn hR he  h
    obtain ⟨n, rfl⟩ : ∃ m, n = m + 1 := ⟨n - 1, by omega⟩
    replace ih : Hold _ := ih
    replace hR := cnt_s hR
    obtain ⟨g0, g1, g3, hR⟩ := hR
    rw [iter, he]
    clear he
    generalize hK : iter _ _ n = K
    rw [p_slices_Equal_Quanta__l0] at h
    revert h
    refine idx_i fun x6 c1 c2 c3 => ?_
    refine idx_i fun x7 c4 c5 c6 => ?_
    refine cb_i (fun c7 => ?_) (fun c7 => ?_)
    · intro h
      simp only [go_sem, Nat.reduceAdd, Nat.reduceSub, Nat.reduceMul, Nat.reduceEqDiff, Nat.reduceBEq, Nat.reduceLT, Nat.reduceLeDiff, Nat.reducePow, Int.reduceToNat, Int.reduceLT, Int.reduceLE, Int.reduceGT, Int.reduceGE, Int.reduceEq, Int.reduceNeg, Int.reduceAdd, Int.reduceSub, Int.reduceMul, ↓reduceIte, reduceCtorEq, *]
      subst hK
      refine ih n (s3 + 1)  _ _ _ (by omega) hR ?_ h
      all_goals simp only [go_sem, Nat.reduceAdd, Nat.reduceSub, Nat.reduceMul, Nat.reduceEqDiff, Nat.reduceBEq, Nat.reduceLT, Nat.reduceLeDiff, Nat.reducePow, Int.reduceToNat, Int.reduceLT, Int.reduceLE, Int.reduceGT, Int.reduceGE, Int.reduceEq, Int.reduceNeg, Int.reduceAdd, Int.reduceSub, Int.reduceMul, ↓reduceIte, reduceCtorEq, *]
    · rintro ⟨⟩
      simp only [go_sem, Nat.reduceAdd, Nat.reduceSub, Nat.reduceMul, Nat.reduceEqDiff, Nat.reduceBEq, Nat.reduceLT, Nat.reduceLeDiff, Nat.reducePow, Int.reduceToNat, Int.reduceLT, Int.reduceLE, Int.reduceGT, Int.reduceGE, Int.reduceEq, Int.reduceNeg, Int.reduceAdd, Int.reduceSub, Int.reduceMul, ↓reduceIte, reduceCtorEq, *]
      refine (⟨_, _, rfl, ?_⟩ : Q1_p_slices_Equal_Quanta__l0 a0 a1 a2 _ _)
      all_goals simp only [go_sem, Nat.reduceAdd, Nat.reduceSub, Nat.reduceMul, Nat.reduceEqDiff, Nat.reduceBEq, Nat.reduceLT, Nat.reduceLeDiff, Nat.reducePow, Int.reduceToNat, Int.reduceLT, Int.reduceLE, Int.reduceGT, Int.reduceGE, Int.reduceEq, Int.reduceNeg, Int.reduceAdd, Int.reduceSub, Int.reduceMul, ↓reduceIte, reduceCtorEq, *]
theorem e_slices_Equal_Quanta_ (L : Nat) (hL : L ≤ 4611686018427387904) (a0 : List (Int × Int × Bool × Unit)) (a1 : List (Int × Int × Bool × Unit)) (res : Bool) (h : p_slices_Equal_Quanta_ L a0 a1 = some res) : evTop Try.prog (G_slices_Equal_Quanta_ L) T_slices_Equal_Quanta_ L 1 28 [.sl 35 (a0.map k35.e), .sl 35 (a1.map k35.e)] = some [.bool res] := by
  revert h
  unfold p_slices_Equal_Quanta_ evTop
  simp only [List.map]
  rw [evF_s (fn := Try.f28) (msk := en28.ms) (hT := by rfl) (hb := by rfl)]
  refine cb_i (fun c1 => ?_) (fun c1 => ?_)
  · refine rq_i fun c2 => ?_
    refine rq_i fun c3 => ?_
    refine bnd_i fun o8 ho4 => ?_
    intro h
    simp only [go_sem, Nat.reduceAdd, Nat.reduceSub, Nat.reduceMul, Nat.reduceEqDiff, Nat.reduceBEq, Nat.reduceLT, Nat.reduceLeDiff, Nat.reducePow, Int.reduceToNat, Int.reduceLT, Int.reduceLE, Int.reduceGT, Int.reduceGE, Int.reduceEq, Int.reduceNeg, Int.reduceAdd, Int.reduceSub, Int.reduceMul, ↓reduceIte, reduceCtorEq, *]
    generalize hz6 : iter _ _ _ _ _ = z5
    have hq7 : Q_p_slices_Equal_Quanta__l0 a0 a1 (a0.length : Int) o8 z5 := by
      rw [← hz6]
      refine l_p_slices_Equal_Quanta__l0 L hL a0 a1 (a0.length : Int) _ L 0  _ _ _ c2 (cnt_00 (by decide) c3) ?_ ho4
      all_goals simp only [go_sem, Nat.reduceAdd, Nat.reduceSub, Nat.reduceMul, Nat.reduceEqDiff, Nat.reduceBEq, Nat.reduceLT, Nat.reduceLeDiff, Nat.reducePow, Int.reduceToNat, Int.reduceLT, Int.reduceLE, Int.reduceGT, Int.reduceGE, Int.reduceEq, Int.reduceNeg, Int.reduceAdd, Int.reduceSub, Int.reduceMul, ↓reduceIte, reduceCtorEq, *]
    clear hz6 ho4
    rcases o8 with o8_0 | o8_1
    · obtain ⟨_, st9, rfl, rfl⟩ := hq7
      dsimp only at h
      revert h
      rintro ⟨⟩
      simp only [go_sem, Nat.reduceAdd, Nat.reduceSub, Nat.reduceMul, Nat.reduceEqDiff, Nat.reduceBEq, Nat.reduceLT, Nat.reduceLeDiff, Nat.reducePow, Int.reduceToNat, Int.reduceLT, Int.reduceLE, Int.reduceGT, Int.reduceGE, Int.reduceEq, Int.reduceNeg, Int.reduceAdd, Int.reduceSub, Int.reduceMul, ↓reduceIte, reduceCtorEq, *]
    · obtain ⟨_, st10, rfl, rfl⟩ := hq7
      dsimp only at h
      revert h
      rintro ⟨⟩
      simp only [go_sem, Nat.reduceAdd, Nat.reduceSub, Nat.reduceMul, Nat.reduceEqDiff, Nat.reduceBEq, Nat.reduceLT, Nat.reduceLeDiff, Nat.reducePow, Int.reduceToNat, Int.reduceLT, Int.reduceLE, Int.reduceGT, Int.reduceGE, Int.reduceEq, Int.reduceNeg, Int.reduceAdd, Int.reduceSub, Int.reduceMul, ↓reduceIte, reduceCtorEq, *]
  · rintro ⟨⟩
    simp only [go_sem, Nat.reduceAdd, Nat.reduceSub, Nat.reduceMul, Nat.reduceEqDiff, Nat.reduceBEq, Nat.reduceLT, Nat.reduceLeDiff, Nat.reducePow, Int.reduceToNat, Int.reduceLT, Int.reduceLE, Int.reduceGT, Int.reduceGE, Int.reduceEq, Int.reduceNeg, Int.reduceAdd, Int.reduceSub, Int.reduceMul, ↓reduceIte, reduceCtorEq, *]
noncomputable def s_slices_Equal_Quanta_ (L : Nat) : Ev.Spec := specP (cCons k43 (cCons k43 cNil)) (fun x => p_slices_Equal_Quanta_ L x.1 x.2.1) (fun r => [.bool r])
theorem s_slices_Equal_Quanta__run (L : Nat) (a0 : List (Int × Int × Bool × Unit)) (a1 : List (Int × Int × Bool × Unit)) : (s_slices_Equal_Quanta_ L).run [.sl 35 (a0.map k35.e), .sl 35 (a1.map k35.e)] = (p_slices_Equal_Quanta_ L a0 a1).map fun r => [.bool r] := specP_run (cCons k43 (cCons k43 cNil)) (fun x => p_slices_Equal_Quanta_ L x.1 x.2.1) (fun r => [.bool r]) (a0, a1, ())
theorem ok_slices_Equal_Quanta_ (L : Nat) (hL : L ≤ 4611686018427387904) : SpecOk Try.prog 28 (s_slices_Equal_Quanta_ L) := specP_ok mixed (Go_slices_Equal_Quanta_ L hL) (To_slices_Equal_Quanta_ L) fun x r h => ⟨L, 1, e_slices_Equal_Quanta_ L hL x.1 x.2.1 r h⟩
end Go.Proofs.Ytnojehmbiceceaa.P
end
section
set_option linter.unusedVariables false
set_option linter.unusedSimpArgs false
set_option maxRecDepth 100000
namespace Go.Proofs.Ytnojehmbiceceaa.P
open Go.Ev Go.IntKind Go.Proofs.Ytnojehmbiceceaa Go.Proofs.Ytnojehmbiceceaa.Ty Go.Proofs.Ytnojehmbiceceaa.E
def p_spyref3_SameCells (L : Nat) (a0_0 : Int) (a0_1 : Int) (a0_2 : List (Int × Int × Bool × Unit)) (a1_0 : Int) (a1_1 : Int) (a1_2 : List (Int × Int × Bool × Unit)) : Option Bool := cb (decide (a0_0 = a1_0)) (cb (decide (a0_1 = a1_1)) (bnd (p_slices_Equal_Quanta_ L a0_2 a1_2) fun r1 => some r1) (some false)) (some false)
attribute [local go_sem] Ev.putR_s Ev.putR_0 Ev.thenO_s Ev.thenO_0 Ev.seqR_n Ev.seqR_e Ev.seqR_r Ev.seqR_0 Ev.blkR_e Ev.blkR_n Ev.blkR_r Ev.blkR_0 Ev.normR_s Ev.normR_0 Ev.outR_r Ev.outR_n Ev.outR_0 Ev.retS_s Ev.retS_0 Ev.pureO_s Ev.pureO_0 Ev.topR_0 Ev.topR_t Ev.topR_t0 Ev.oneL_0 Ev.oneL_s Ev.topR_d Ev.topR_nils Ev.topR_agg Ev.topR_rs Ev.evOp_move Ev.evOp_assign Ev.evOp_pick Ev.evOp_alloc Ev.evOp_box Ev.evOp_build Ev.evOp_buildSlice Ev.evOp_load Ev.evOp_store Ev.evOp_makeMap Ev.evOp_lookup Ev.evOp_mapUpdate Ev.evOp_insert Ev.evOp_nilCheck Ev.evOp_binOp Ev.evOp_unOp Ev.evOp_convert Ev.evOp_makeFunc Ev.evOp_makeSlice Ev.evOp_slice Ev.evOp_fieldAddr Ev.evOp_field Ev.evOp_indexAddr Ev.evOp_index Ev.evOp_extract Ev.evOp_call Ev.evOp_append Ev.evOp_clear Ev.evOp_len Ev.evOp_min Ev.evOp_max Ev.condR_b Ev.condR_t Ev.evOps_nil Ev.evOps_plain Ev.evOps_guard Ev.runG_eq Ev.skipG_eq Ev.condL_tt Ev.condL_ff Ev.condL_tf Ev.condL_ft Ev.condL_u Ev.condC_t Ev.condC_f Ev.evC_skip Ev.evC_ret Ev.evC_exit Ev.evC_label Ev.evC_region Ev.evC_draw Ev.evC_seq Ev.evC_cond Ev.evC_block Ev.evC_loop Ev.fin_d Ev.fin_nils Ev.fin_agg_ Ev.fin_rs Ev.finS_s Ev.mapO_fin Ev.upd_upd Ev.argv_d Ev.argv_nils Ev.argv_agg Ev.argv_rs Ev.argv_p Ev.fk_low Ev.appendTo_nils Ev.appendTo_rs Ev.consV_d Ev.consV_agg Ev.consV_p Ev.consV_rs Ev.consV_nils Ev.consV_fn Ev.consV_und Ev.consV_jk Ev.consV_grown Ev.topR_grown Ev.len_grown Ev.consV_mp Ev.sameK_i Ev.sameK_s Ev.mget_0 Ev.mget_hit Ev.mget_miss Ev.mput_0 Ev.mput_hit Ev.mput_miss Ev.apartAll Ev.apartL Ev.apartV Ev.freeAll Ev.sel Ev.keyOfV Ev.evLookup Ev.evPut Ev.hintOk Ev.keyOk Ev.consP Ev.lookV Ev.guardV Ev.dstAt Ev.evPure Ev.evStore Ev.evBin Ev.evBinO Ev.evNil Ev.isNilC Ev.evUn Ev.evConv Ev.evSlice Ev.optI Ev.foldI Ev.capsOk Ev.noTup Ev.nth Ev.setN Ev.killAt Ev.pad Ev.V.get Ev.V.put Ev.putD Ev.newBlk Ev.upd Ev.keq Ev.empty Ev.evCall Ev.V.args Ev.argP Ev.callOf Ev.evNilP Ev.isNilP Ev.look Ev.V.view.views Ev.V.view Ev.V.toD Ev.V.toD.V.toDs Ev.V.pure.pures Ev.V.pure Ev.D.flat.flats Ev.D.flat Ev.mkAgg Ev.allD Ev.aggParts Ev.setParts Ev.setElems Ev.getPath Ev.setPath Ev.subL Ev.eqD Ev.eqD.eqDs Ev.and2 Ev.strCut Ev.evalT Ev.constT Ev.evArgs Ev.mask Ev.maskOf Ev.tableOf Ev.compT Ev.resV Ev.retV Ev.mapO Ev.frzO_n Ev.frzO_e Ev.frzO_r Ev.frzO_0 Ev.mb_z Ev.mb_0 Ev.mb_s Ev.frzL_t Ev.frzL_f Ev.frzL_0 Ev.frzT_nils Ev.frzT_rs Ev.frzT_p Ev.frzK_i Ev.keyIn_i Ev.rI_nil Ev.rI_cons Ev.rI_row Ev.rI_app Ev.r_d Ev.r_nils Ev.r_agg Ev.r_rs Ev.r_gl Ev.vw_row Ev.vw_app Ev.appO_s Ev.frzT_gl Ev.allD_gl Ev.killAt_i Ev.tkOne_i Ev.hT_agg Ev.hT_vagg Ev.hT_int Ev.hT_bool Ev.hT_str Ev.hT_sl Ev.hT_ptr Ev.hT_np Ev.hT_p Ev.hT_rs Ev.hT_mp Ev.hT_nils Ev.hT_fn Ev.hT_jk Ev.hT_gl Ev.eO_sl Ev.eO_nils Ev.eO_rs Ev.eT_sl Ev.eT_rs Ev.pL_str Ev.pL_sl Ev.pL_rs Ev.pL_nils Ev.pL_min Ev.pL_max Ev.len_glB Ev.noTup_gl Ev.rowV_len Ev.rowV_nil Ev.rowV_cons Ev.rowV_append Ev.rowV_set Ev.rowV_replicate Ev.nth_row Ev.row_take Ev.row_drop Ev.toDs_row Ev.fin_row Ev.map_row Ev.map_take_ Ev.map_drop_ Ev.Bk_i Ev.GlB_0 Ev.GlB_mk Ev.gl_nil Ev.gl_cons Ev.gl_snoc Ev.gl_setN Ev.appendTo_gl Ev.consV_gl Ev.elems_gl Ev.fin_gl Ev.view_gl Ev.argv_gl Ev.topR_gl Ev.sp_z Ev.sp_0 Ev.sp_s Ev.km_z Ev.km_0 Ev.km_s Ev.beq_toList Ev.nc0 Ev.bq_t Ev.bq_f Ev.bodyN Ev.le_maxRow Int.cast_ofNat_Int IntWalk.i64_in IntWalk.u64_in IntWalk.u8_in beq_self_eq_true Bool.true_beq Bool.false_beq Bool.and_true Bool.true_and Bool.false_and Bool.and_false Bool.and_self Bool.not_true Bool.not_false Bool.not_eq_true cond_true cond_false if_true if_false and_true true_and and_self decide_true decide_false Bool.or_true Bool.true_or Bool.or_false Bool.false_or List.isEmpty List.isEmpty_nil List.size_toArray List.map List.length_map List.length_cons List.length_nil Option.map Option.bind Option.getD Option.isSome List.replicate Bool.false_eq_true implies_true false_implies forall_const Array.toList Array.isEmpty List.append List.nil_append List.cons_append List.drop_zero List.take_length List.take_succ_cons List.take_zero List.take_nil List.getElem?_map List.getElem?_cons_zero List.getElem?_cons_succ List.getElem?_nil List.append_nil eq_self Int.toNat_natCast List.length_append Nat.zero_add Nat.add_zero List.length_replicate Nat.sub_zero Option.map_some Option.map_none Int.le_refl Nat.le_refl Int.natCast_nonneg List.map_append
noncomputable def G_spyref3_SameCells (L : Nat) : Specs := [(28, s_slices_Equal_Quanta_ L)]
noncomputable def T_spyref3_SameCells : Table := tableOf [(31, en31)]
theorem Go_spyref3_SameCells (L : Nat) (hL : L ≤ 4611686018427387904) : ∀ g s, Ev.look (G_spyref3_SameCells L) g = some s → SpecOk Try.prog g s := (specs_cons (ok_slices_Equal_Quanta_ L hL) specs_nil)
theorem To_spyref3_SameCells (L : Nat) : TableOk Try.prog ((G_spyref3_SameCells L).map (·.1)) T_spyref3_SameCells := (table_cons Try.func31 (by kernel_rfl) (by kernel_rfl) table_nil)
theorem lk_spyref3_SameCells_28 (L : Nat) : Ev.look (G_spyref3_SameCells L) 28 = some (s_slices_Equal_Quanta_ L) := nr rfl
attribute [local go_sem] Ty.tk3 Ty.ik3 Ty.ek3 Ty.zv3 Ty.by3 Ty.so3 Ty.tk4 Ty.ub4 Ty.ek4 Ty.zv4 Ty.by4 Ty.so4 Ty.tk24 Ty.ik24 Ty.ek24 Ty.zv24 Ty.by24 Ty.so24 Ty.tk35 Ty.ct35 Ty.ek35 Ty.zv35 Ty.by35 Ty.so35 Ty.tk43 Ty.zv43 Ty.by43 Ty.so43 Ty.tk45 Ty.ct45 Ty.zv45 Ty.by45 Ty.so45 Ty.k35_e Ty.k43_e Ty.k45_e E.mk31_1000000 lk_spyref3_SameCells_28 s_slices_Equal_Quanta__run loopN loops Try.f31
theorem e_spyref3_SameCells (L : Nat) (hL : L ≤ 4611686018427387904) (a0_0 : Int) (a0_1 : Int) (a0_2 : List (Int × Int × Bool × Unit)) (a1_0 : Int) (a1_1 : Int) (a1_2 : List (Int × Int × Bool × Unit)) (res : Bool) (h : p_spyref3_SameCells L a0_0 a0_1 a0_2 a1_0 a1_1 a1_2 = some res) : evTop Try.prog (G_spyref3_SameCells L) T_spyref3_SameCells L 1 31 [.agg 45 [.int .i64 a0_0, .int .i64 a0_1, .sl 35 (a0_2.map k35.e)], .agg 45 [.int .i64 a1_0, .int .i64 a1_1, .sl 35 (a1_2.map k35.e)]] = some [.bool res] := by
  revert h
  unfold p_spyref3_SameCells evTop
  simp only [List.map]
  rw [evF_s (fn := Try.f31) (msk := en31.ms) (hT := by rfl) (hb := by rfl)]
  refine cb_i (fun c1 => ?_) (fun c1 => ?_)
  · refine cb_i (fun c2 => ?_) (fun c2 => ?_)
    · refine bnd_i fun r1 c3 => ?_
      rintro ⟨⟩
      simp only [go_sem, Nat.reduceAdd, Nat.reduceSub, Nat.reduceMul, Nat.reduceEqDiff, Nat.reduceBEq, Nat.reduceLT, Nat.reduceLeDiff, Nat.reducePow, Int.reduceToNat, Int.reduceLT, Int.reduceLE, Int.reduceGT, Int.reduceGE, Int.reduceEq, Int.reduceNeg, Int.reduceAdd, Int.reduceSub, Int.reduceMul, ↓reduceIte, reduceCtorEq, *]
    · rintro ⟨⟩
      simp only [go_sem, Nat.reduceAdd, Nat.reduceSub, Nat.reduceMul, Nat.reduceEqDiff, Nat.reduceBEq, Nat.reduceLT, Nat.reduceLeDiff, Nat.reducePow, Int.reduceToNat, Int.reduceLT, Int.reduceLE, Int.reduceGT, Int.reduceGE, Int.reduceEq, Int.reduceNeg, Int.reduceAdd, Int.reduceSub, Int.reduceMul, ↓reduceIte, reduceCtorEq, *]
  · rintro ⟨⟩
    simp only [go_sem, Nat.reduceAdd, Nat.reduceSub, Nat.reduceMul, Nat.reduceEqDiff, Nat.reduceBEq, Nat.reduceLT, Nat.reduceLeDiff, Nat.reducePow, Int.reduceToNat, Int.reduceLT, Int.reduceLE, Int.reduceGT, Int.reduceGE, Int.reduceEq, Int.reduceNeg, Int.reduceAdd, Int.reduceSub, Int.reduceMul, ↓reduceIte, reduceCtorEq, *]
noncomputable def s_spyref3_SameCells (L : Nat) : Ev.Spec := specP (cCons k45 (cCons k45 cNil)) (fun x => p_spyref3_SameCells L x.1.1 x.1.2.1 x.1.2.2.1 x.2.1.1 x.2.1.2.1 x.2.1.2.2.1) (fun r => [.bool r])
theorem s_spyref3_SameCells_run (L : Nat) (a0_0 : Int) (a0_1 : Int) (a0_2 : List (Int × Int × Bool × Unit)) (a1_0 : Int) (a1_1 : Int) (a1_2 : List (Int × Int × Bool × Unit)) : (s_spyref3_SameCells L).run [.agg 45 [.int .i64 a0_0, .int .i64 a0_1, .sl 35 (a0_2.map k35.e)], .agg 45 [.int .i64 a1_0, .int .i64 a1_1, .sl 35 (a1_2.map k35.e)]] = (p_spyref3_SameCells L a0_0 a0_1 a0_2 a1_0 a1_1 a1_2).map fun r => [.bool r] := specP_run (cCons k45 (cCons k45 cNil)) (fun x => p_spyref3_SameCells L x.1.1 x.1.2.1 x.1.2.2.1 x.2.1.1 x.2.1.2.1 x.2.1.2.2.1) (fun r => [.bool r]) ((a0_0, a0_1, a0_2, ()), (a1_0, a1_1, a1_2, ()), ())
theorem ok_spyref3_SameCells (L : Nat) (hL : L ≤ 4611686018427387904) : SpecOk Try.prog 31 (s_spyref3_SameCells L) := specP_ok mixed (Go_spyref3_SameCells L hL) (To_spyref3_SameCells L) fun x r h => ⟨L, 1, e_spyref3_SameCells L hL x.1.1 x.1.2.1 x.1.2.2.1 x.2.1.1 x.2.1.2.1 x.2.1.2.2.1 r h⟩
end Go.Proofs.Ytnojehmbiceceaa.P
end
section
set_option linter.unusedVariables false
set_option linter.unusedSimpArgs false
namespace Go.Proofs.Ytnojehmbiceceaa.PlField
open Go.Ev Go.IntKind Go.Pl Go.Proofs.Ytnojehmbiceceaa.P Go.Proofs.Ytnojehmbiceceaa.PlBndAQuanta
def cellsF : List Bd → Int
  | [] => 0
  | b :: r => if fault b.1 b.2.1 b.2.2.1 (-1099511627776) 1099511627776 = 0 then cellsF r else fault b.1 b.2.1 b.2.2.1 (-1099511627776) 1099511627776
def fieldF (w h : Int) (l : List Bd) : Int := if w < 1 ∨ w > 32 ∨ h < 1 ∨ h > 32 ∨ ¬ (l.length : Int) = w * h then 3 else cellsF l
theorem ff_l (L : Nat) : ∀ l : List Bd, p_spyref3_FieldFault_l0 L l = some (if cellsF l = 0 then .inl () else .inr (cellsF l))
  | [] => rfl
  | b :: r => by
    have ih := ff_l L r
    rw [p_spyref3_FieldFault_l0, fault_eq, bnd_s, cb_d, ih, cellsF]
    by_cases c : fault b.1 b.2.1 b.2.2.1 (-1099511627776) 1099511627776 = 0
    · rw [if_pos c, if_pos c]
    · rw [if_neg c, if_neg c, if_neg c]
theorem fault_chk (b : Bd) : fault b.1 b.2.1 b.2.2.1 (-1099511627776) 1099511627776 = if chk b.1 b.2.1 b.2.2.1 = 0 then (if b.1 < -1099511627776 ∨ b.2.1 > 1099511627776 then 4 else 0) else chk b.1 b.2.1 b.2.2.1 := by
  unfold fault
  by_cases c : chk b.1 b.2.1 b.2.2.1 = 0
  · rw [if_neg (by simpa using c), if_pos c]
  · rw [if_pos c, if_neg c]
theorem ck_l (L : Nat) : ∀ l : List Bd, p_clean_Check_l0 L l = some (if cellsF l = 0 then .inl () else .inr (cellsF l))
  | [] => rfl
  | b :: r => by
    have ih := ck_l L r
    have h := fault_chk b
    rw [p_clean_Check_l0, check_eq, bnd_s, cb_d, ih, cellsF]
    generalize fault b.1 b.2.1 b.2.2.1 (-1099511627776) 1099511627776 = q at *
    grind
theorem w_mul {w h : Int} (h1 : 1 ≤ w) (h2 : w ≤ 32) (h3 : 1 ≤ h) (h4 : h ≤ 32) : 1 ≤ w * h ∧ w * h ≤ 1024 := by
  have a : w * h ≤ 32 * 32 := Int.mul_le_mul h2 h4 (by omega) (by omega)
  have b : 1 * 1 ≤ w * h := Int.mul_le_mul h1 h3 (by omega) (by omega)
  omega
theorem ff_eq (L : Nat) (w h : Int) (l : List Bd) (hl : l.length < L) : p_spyref3_FieldFault L w h l = some (fieldF w h l) := by
  unfold p_spyref3_FieldFault fieldF
  rw [rq_t hl, ff_l, bnd_s, cb_d]
  by_cases c : 1 ≤ w ∧ w ≤ 32 ∧ 1 ≤ h ∧ h ≤ 32
  · have hm := w_mul c.1 c.2.1 c.2.2.1 c.2.2.2
    rw [w64 (x := w * h) (by omega)]
    generalize w * h = m at *
    grind
  · grind
theorem ck_eq (L : Nat) (w h : Int) (l : List Bd) (hl : l.length < L) : p_clean_Check L w h l = some (fieldF w h l) := by
  unfold p_clean_Check fieldF
  rw [rq_t hl, ck_l, bnd_s, cb_d, min_v, max_v]
  by_cases c : 1 ≤ w ∧ w ≤ 32 ∧ 1 ≤ h ∧ h ≤ 32
  · have hm := w_mul c.1 c.2.1 c.2.2.1 c.2.2.2
    rw [w64 (x := w * h) (by omega)]
    generalize w * h = m at *
    grind
  · grind (splits := 40)
theorem field_len {w h : Int} {l : List Bd} (hf : fieldF w h l = 0) : l.length ≤ 1024 := by
  unfold fieldF at hf
  split at hf
  · cases hf
  · rename_i hc
    have := w_mul (w := w) (h := h) (by omega) (by omega) (by omega) (by omega)
    omega
theorem eq_l (L : Nat) (a : List Bd) : ∀ (s p : List Bd), a = p ++ s → p_slices_Equal_Quanta__l0 L a a s.length (p.length : Int) = some (.inl ())
  | [], p, _ => rfl
  | x :: s, p, h => by
    have := eq_l L a s (p ++ [x]) (by simp [h])
    rw [List.length_cons, p_slices_Equal_Quanta__l0, h, idx_app, bnd_s, bnd_s, ← h, show ((p.length : Int) + 1) = ((p ++ [x]).length : Int) by simp, this]
    simp [cb]
theorem same_eq (L : Nat) (w h : Int) (l : List Bd) (hl : l.length < L) (hb : l.length < 4611686018427387904) : p_spyref3_SameCells L w h l w h l = some true := by
  have := eq_l L l l [] rfl
  simp only [List.length_nil, Int.natCast_zero] at this
  unfold p_spyref3_SameCells p_slices_Equal_Quanta_
  simp only [decide_true, cb_t, Int.toNat_natCast]
  rw [rq_t hl, rq_t (by omega), this]; rfl
end Go.Proofs.Ytnojehmbiceceaa.PlField
end
section
set_option linter.unusedVariables false
set_option linter.unusedSimpArgs false
set_option maxRecDepth 100000
namespace Go.Proofs.Ytnojehmbiceceaa.E
open Go.Ev
noncomputable def en7 : Entry := ⟨Try.f7, [(1000000, mb 32 0 [4])]⟩
theorem mk7_1000000 (vs : List V) : mask (maskOf en7.ms 1000000) vs = km 32 0 [4] vs := mask_mb _ _ _ _
end Go.Proofs.Ytnojehmbiceceaa.E
end
section
set_option linter.unusedVariables false
set_option linter.unusedSimpArgs false
set_option maxRecDepth 100000
namespace Go.Proofs.Ytnojehmbiceceaa.E
open Go.Ev
noncomputable def en24 : Entry := ⟨Try.f24, [(1000000, mb 37 0 [0])]⟩
theorem mk24_1000000 (vs : List V) : mask (maskOf en24.ms 1000000) vs = km 37 0 [0] vs := mask_mb _ _ _ _
end Go.Proofs.Ytnojehmbiceceaa.E
end
section
set_option linter.unusedVariables false
set_option linter.unusedSimpArgs false
set_option maxRecDepth 100000
namespace Go.Proofs.Ytnojehmbiceceaa.E
open Go.Ev
noncomputable def en22 : Entry := ⟨Try.f22, [(1000000, mb 37 0 [4, 5])]⟩
theorem mk22_1000000 (vs : List V) : mask (maskOf en22.ms 1000000) vs = km 37 0 [4, 5] vs := mask_mb _ _ _ _
end Go.Proofs.Ytnojehmbiceceaa.E
end
section
set_option linter.unusedVariables false
set_option linter.unusedSimpArgs false
set_option maxRecDepth 100000
namespace Go.Proofs.Ytnojehmbiceceaa.E
open Go.Ev
noncomputable def en25 : Entry := ⟨Try.f25, [(0, mb 26 0 [0, 1, 12, 13]), (1000001, mb 26 0 []), (1000002, mb 26 0 [0, 1, 12, 13]), (1000000, mb 26 0 [4])]⟩
theorem dw25_6 (lv : Nat) (env : List V) (st : Store) (o : Option (List V × Store)) : drawR en25.ms 6 lv env st o = if lv < 1000000000000000000000000000000 then (o) else none := nr rfl
theorem kl25_6 (lv : Nat) (st : Store) : killR en25.ms 6 lv st = st := nr rfl
theorem nc25_6 : ncOf en25.ms 6 = false := nr rfl
theorem mk25_0 (vs : List V) : mask (maskOf en25.ms 0) vs = km 26 0 [0, 1, 12, 13] vs := mask_mb _ _ _ _
theorem mk25_1000001 (vs : List V) : mask (maskOf en25.ms 1000001) vs = km 26 0 [] vs := mask_mb _ _ _ _
theorem mk25_1000002 (vs : List V) : mask (maskOf en25.ms 1000002) vs = km 26 0 [0, 1, 12, 13] vs := mask_mb _ _ _ _
theorem mk25_1000000 (vs : List V) : mask (maskOf en25.ms 1000000) vs = km 26 0 [4] vs := mask_mb _ _ _ _
theorem fz25_0 (lv : Nat) (f : Run) : frzF en25.ms lv 0 f = f := nr rfl
noncomputable def lb25_0 : Code := loopN Try.f25 0
end Go.Proofs.Ytnojehmbiceceaa.E
end
section
set_option linter.unusedVariables false
set_option linter.unusedSimpArgs false
set_option maxRecDepth 100000
namespace Go.Proofs.Ytnojehmbiceceaa.E
open Go.Ev
noncomputable def en88 : Entry := ⟨Try.f88, [(0, mb 26 0 [1, 3, 7, 8, 9]), (1000001, mb 26 0 [1, 3]), (1000002, mb 26 0 [1, 3, 7, 8, 9]), (1000000, mb 26 0 [2])]⟩
theorem mk88_0 (vs : List V) : mask (maskOf en88.ms 0) vs = km 26 0 [1, 3, 7, 8, 9] vs := mask_mb _ _ _ _
theorem mk88_1000001 (vs : List V) : mask (maskOf en88.ms 1000001) vs = km 26 0 [1, 3] vs := mask_mb _ _ _ _
theorem mk88_1000002 (vs : List V) : mask (maskOf en88.ms 1000002) vs = km 26 0 [1, 3, 7, 8, 9] vs := mask_mb _ _ _ _
theorem mk88_1000000 (vs : List V) : mask (maskOf en88.ms 1000000) vs = km 26 0 [2] vs := mask_mb _ _ _ _
theorem fz88_0 (lv : Nat) (f : Run) : frzF en88.ms lv 0 f = f := nr rfl
noncomputable def lb88_0 : Code := loopN Try.f88 0
end Go.Proofs.Ytnojehmbiceceaa.E
end
section
set_option linter.unusedVariables false
set_option linter.unusedSimpArgs false
set_option maxRecDepth 100000
namespace Go.Proofs.Ytnojehmbiceceaa.E
open Go.Ev
noncomputable def en90 : Entry := ⟨Try.f90, [(0, mb 33 0 [0, 1, 5, 6]), (1000001, mb 33 0 [5]), (1000002, mb 33 0 [0, 1, 5, 6]), (1000000, mb 33 0 [4])]⟩
theorem mk90_0 (vs : List V) : mask (maskOf en90.ms 0) vs = km 33 0 [0, 1, 5, 6] vs := mask_mb _ _ _ _
theorem mk90_1000001 (vs : List V) : mask (maskOf en90.ms 1000001) vs = km 33 0 [5] vs := mask_mb _ _ _ _
theorem mk90_1000002 (vs : List V) : mask (maskOf en90.ms 1000002) vs = km 33 0 [0, 1, 5, 6] vs := mask_mb _ _ _ _
theorem mk90_1000000 (vs : List V) : mask (maskOf en90.ms 1000000) vs = km 33 0 [4] vs := mask_mb _ _ _ _
theorem fz90_0 (lv : Nat) (f : Run) : frzF en90.ms lv 0 f = f := nr rfl
noncomputable def lb90_0 : Code := loopN Try.f90 0
end Go.Proofs.Ytnojehmbiceceaa.E
end
section
set_option linter.unusedVariables false
set_option linter.unusedSimpArgs false
set_option maxRecDepth 100000
namespace Go.Proofs.Ytnojehmbiceceaa.E
open Go.Ev
noncomputable def en94 : Entry := ⟨Try.f94, [(1000000, mb 8 0 [2])]⟩
theorem mk94_1000000 (vs : List V) : mask (maskOf en94.ms 1000000) vs = km 8 0 [2] vs := mask_mb _ _ _ _
end Go.Proofs.Ytnojehmbiceceaa.E
end
section
set_option linter.unusedVariables false
set_option linter.unusedSimpArgs false
set_option maxRecDepth 100000
namespace Go.Proofs.Ytnojehmbiceceaa.E
open Go.Ev
noncomputable def en95 : Entry := ⟨Try.f95, [(1000000, mb 11 0 [])]⟩
theorem mk95_1000000 (vs : List V) : mask (maskOf en95.ms 1000000) vs = km 11 0 [] vs := mask_mb _ _ _ _
end Go.Proofs.Ytnojehmbiceceaa.E
end
section
set_option linter.unusedVariables false
set_option linter.unusedSimpArgs false
set_option maxRecDepth 100000
namespace Go.Proofs.Ytnojehmbiceceaa.E
open Go.Ev
noncomputable def en96 : Entry := ⟨Try.f96, [(0, mb 61 0 [0, 3]), (2, mb 61 0 [0, 3, 4, 5]), (1000001, mb 61 0 [0]), (1000002, mb 61 0 [0, 3]), (1000003, mb 61 0 [0, 3]), (1000004, mb 61 0 [0, 3, 4, 5]), (1000000, mb 61 0 [2])]⟩
theorem dw96_6 (lv : Nat) (env : List V) (st : Store) (o : Option (List V × Store)) : drawR en96.ms 6 lv env st o = if lv < 1000000000000000000000000000000 then (o) else none := nr rfl
theorem kl96_6 (lv : Nat) (st : Store) : killR en96.ms 6 lv st = st := nr rfl
theorem nc96_6 : ncOf en96.ms 6 = false := nr rfl
theorem dw96_11 (lv : Nat) (env : List V) (st : Store) (o : Option (List V × Store)) : drawR en96.ms 11 lv env st o = if lv < 1000000000000000000000000000000 then (o) else none := nr rfl
theorem kl96_11 (lv : Nat) (st : Store) : killR en96.ms 11 lv st = st := nr rfl
theorem nc96_11 : ncOf en96.ms 11 = false := nr rfl
theorem mk96_0 (vs : List V) : mask (maskOf en96.ms 0) vs = km 61 0 [0, 3] vs := mask_mb _ _ _ _
theorem mk96_2 (vs : List V) : mask (maskOf en96.ms 2) vs = km 61 0 [0, 3, 4, 5] vs := mask_mb _ _ _ _
theorem mk96_1000001 (vs : List V) : mask (maskOf en96.ms 1000001) vs = km 61 0 [0] vs := mask_mb _ _ _ _
theorem mk96_1000002 (vs : List V) : mask (maskOf en96.ms 1000002) vs = km 61 0 [0, 3] vs := mask_mb _ _ _ _
theorem mk96_1000003 (vs : List V) : mask (maskOf en96.ms 1000003) vs = km 61 0 [0, 3] vs := mask_mb _ _ _ _
theorem mk96_1000004 (vs : List V) : mask (maskOf en96.ms 1000004) vs = km 61 0 [0, 3, 4, 5] vs := mask_mb _ _ _ _
theorem mk96_1000000 (vs : List V) : mask (maskOf en96.ms 1000000) vs = km 61 0 [2] vs := mask_mb _ _ _ _
theorem fz96_0 (lv : Nat) (f : Run) : frzF en96.ms lv 0 f = f := nr rfl
theorem fz96_2 (lv : Nat) (f : Run) : frzF en96.ms lv 2 f = f := nr rfl
noncomputable def lb96_0 : Code := loopN Try.f96 0
noncomputable def lb96_2 : Code := loopN Try.f96 1
end Go.Proofs.Ytnojehmbiceceaa.E
end
section
set_option linter.unusedVariables false
set_option linter.unusedSimpArgs false
set_option maxRecDepth 100000
namespace Go.Proofs.Ytnojehmbiceceaa.E
open Go.Ev
noncomputable def en173 : Entry := ⟨Try.f173, [(1000000, mb 9 0 [])]⟩
theorem mk173_1000000 (vs : List V) : mask (maskOf en173.ms 1000000) vs = km 9 0 [] vs := mask_mb _ _ _ _
end Go.Proofs.Ytnojehmbiceceaa.E
end
section
set_option linter.unusedVariables false
set_option linter.unusedSimpArgs false
set_option maxRecDepth 100000
namespace Go.Proofs.Ytnojehmbiceceaa.E
open Go.Ev
noncomputable def en176 : Entry := ⟨Try.f176, [(0, mb 134 0 [0, 1, 2, 3, 8, 9]), (1000001, mb 134 0 []), (1000002, mb 134 0 [0, 1, 2, 3, 8, 9]), (1000000, mb 134 0 [])]⟩
theorem dw176_17 (lv : Nat) (env : List V) (st : Store) (o : Option (List V × Store)) : drawR en176.ms 17 lv env st o = if lv < 1000000000000000000000000000000 then (o) else none := nr rfl
theorem kl176_17 (lv : Nat) (st : Store) : killR en176.ms 17 lv st = st := nr rfl
theorem nc176_17 : ncOf en176.ms 17 = false := nr rfl
theorem mk176_0 (vs : List V) : mask (maskOf en176.ms 0) vs = km 134 0 [0, 1, 2, 3, 8, 9] vs := mask_mb _ _ _ _
theorem mk176_1000001 (vs : List V) : mask (maskOf en176.ms 1000001) vs = km 134 0 [] vs := mask_mb _ _ _ _
theorem mk176_1000002 (vs : List V) : mask (maskOf en176.ms 1000002) vs = km 134 0 [0, 1, 2, 3, 8, 9] vs := mask_mb _ _ _ _
theorem mk176_1000000 (vs : List V) : mask (maskOf en176.ms 1000000) vs = km 134 0 [] vs := mask_mb _ _ _ _
theorem fz176_0 (lv : Nat) (f : Run) : frzF en176.ms lv 0 f = f := nr rfl
noncomputable def lb176_0 : Code := loopN Try.f176 0
end Go.Proofs.Ytnojehmbiceceaa.E
end
section
set_option linter.unusedVariables false
set_option linter.unusedSimpArgs false
set_option maxRecDepth 100000
namespace Go.Proofs.Ytnojehmbiceceaa.E
open Go.Ev
noncomputable def en177 : Entry := ⟨Try.f177, [(1000000, mb 8 0 [2])]⟩
theorem mk177_1000000 (vs : List V) : mask (maskOf en177.ms 1000000) vs = km 8 0 [2] vs := mask_mb _ _ _ _
end Go.Proofs.Ytnojehmbiceceaa.E
end
section
set_option linter.unusedVariables false
set_option linter.unusedSimpArgs false
set_option maxRecDepth 100000
namespace Go.Proofs.Ytnojehmbiceceaa.E
open Go.Ev
noncomputable def en214 : Entry := ⟨Try.f214, [(0, mb 63 0 [0, 1, 2, 6, 7, 8]), (2, mb 63 0 [0, 1, 2, 6]), (4, mb 63 0 [0, 1, 2, 6, 7, 8]), (1000001, mb 63 0 [0, 1, 2, 6, 7]), (1000002, mb 63 0 [0, 1, 2, 6, 7, 8]), (1000003, mb 63 0 []), (1000004, mb 63 0 [0, 1, 2, 6]), (1000005, mb 63 0 [0, 1, 2, 6, 7]), (1000006, mb 63 0 [0, 1, 2, 6, 7, 8]), (1000000, mb 63 0 [])]⟩
theorem mk214_0 (vs : List V) : mask (maskOf en214.ms 0) vs = km 63 0 [0, 1, 2, 6, 7, 8] vs := mask_mb _ _ _ _
theorem mk214_2 (vs : List V) : mask (maskOf en214.ms 2) vs = km 63 0 [0, 1, 2, 6] vs := mask_mb _ _ _ _
theorem mk214_4 (vs : List V) : mask (maskOf en214.ms 4) vs = km 63 0 [0, 1, 2, 6, 7, 8] vs := mask_mb _ _ _ _
theorem mk214_1000001 (vs : List V) : mask (maskOf en214.ms 1000001) vs = km 63 0 [0, 1, 2, 6, 7] vs := mask_mb _ _ _ _
theorem mk214_1000002 (vs : List V) : mask (maskOf en214.ms 1000002) vs = km 63 0 [0, 1, 2, 6, 7, 8] vs := mask_mb _ _ _ _
theorem mk214_1000003 (vs : List V) : mask (maskOf en214.ms 1000003) vs = km 63 0 [] vs := mask_mb _ _ _ _
theorem mk214_1000004 (vs : List V) : mask (maskOf en214.ms 1000004) vs = km 63 0 [0, 1, 2, 6] vs := mask_mb _ _ _ _
theorem mk214_1000005 (vs : List V) : mask (maskOf en214.ms 1000005) vs = km 63 0 [0, 1, 2, 6, 7] vs := mask_mb _ _ _ _
theorem mk214_1000006 (vs : List V) : mask (maskOf en214.ms 1000006) vs = km 63 0 [0, 1, 2, 6, 7, 8] vs := mask_mb _ _ _ _
theorem mk214_1000000 (vs : List V) : mask (maskOf en214.ms 1000000) vs = km 63 0 [] vs := mask_mb _ _ _ _
theorem fz214_0 (lv : Nat) (f : Run) : frzF en214.ms lv 0 f = f := nr rfl
theorem fz214_2 (lv : Nat) (f : Run) : frzF en214.ms lv 2 f = f := nr rfl
theorem fz214_4 (lv : Nat) (f : Run) : frzF en214.ms lv 4 f = f := nr rfl
noncomputable def lb214_0 : Code := loopN Try.f214 0
noncomputable def lb214_2 : Code := loopN Try.f214 1
noncomputable def lb214_4 : Code := loopN Try.f214 2
end Go.Proofs.Ytnojehmbiceceaa.E
end
section
set_option linter.unusedVariables false
set_option linter.unusedSimpArgs false
set_option maxRecDepth 100000
namespace Go.Proofs.Ytnojehmbiceceaa.E
open Go.Ev
noncomputable def en215 : Entry := ⟨Try.f215, [(0, mb 49 0 [0, 1, 2, 6]), (2, mb 49 0 [0, 1, 2, 6, 7]), (1000001, mb 49 0 []), (1000002, mb 49 0 [0, 1, 2, 6]), (1000003, mb 49 0 [0, 1, 2, 6]), (1000004, mb 49 0 [0, 1, 2, 6, 7]), (1000000, mb 49 0 [])]⟩
theorem dw215_4 (lv : Nat) (env : List V) (st : Store) (o : Option (List V × Store)) : drawR en215.ms 4 lv env st o = if lv < 1000000000000000000000000000000 then (o) else none := nr rfl
theorem kl215_4 (lv : Nat) (st : Store) : killR en215.ms 4 lv st = st := nr rfl
theorem nc215_4 : ncOf en215.ms 4 = false := nr rfl
theorem dw215_6 (lv : Nat) (env : List V) (st : Store) (o : Option (List V × Store)) : drawR en215.ms 6 lv env st o = if lv < 1000000000000000000000000000000 then (o) else none := nr rfl
theorem kl215_6 (lv : Nat) (st : Store) : killR en215.ms 6 lv st = st := nr rfl
theorem nc215_6 : ncOf en215.ms 6 = false := nr rfl
theorem mk215_0 (vs : List V) : mask (maskOf en215.ms 0) vs = km 49 0 [0, 1, 2, 6] vs := mask_mb _ _ _ _
theorem mk215_2 (vs : List V) : mask (maskOf en215.ms 2) vs = km 49 0 [0, 1, 2, 6, 7] vs := mask_mb _ _ _ _
theorem mk215_1000001 (vs : List V) : mask (maskOf en215.ms 1000001) vs = km 49 0 [] vs := mask_mb _ _ _ _
theorem mk215_1000002 (vs : List V) : mask (maskOf en215.ms 1000002) vs = km 49 0 [0, 1, 2, 6] vs := mask_mb _ _ _ _
theorem mk215_1000003 (vs : List V) : mask (maskOf en215.ms 1000003) vs = km 49 0 [0, 1, 2, 6] vs := mask_mb _ _ _ _
theorem mk215_1000004 (vs : List V) : mask (maskOf en215.ms 1000004) vs = km 49 0 [0, 1, 2, 6, 7] vs := mask_mb _ _ _ _
theorem mk215_1000000 (vs : List V) : mask (maskOf en215.ms 1000000) vs = km 49 0 [] vs := mask_mb _ _ _ _
theorem fz215_0 (lv : Nat) (f : Run) : frzF en215.ms lv 0 f = f := nr rfl
theorem fz215_2 (lv : Nat) (f : Run) : frzF en215.ms lv 2 f = f := nr rfl
noncomputable def lb215_0 : Code := loopN Try.f215 0
noncomputable def lb215_2 : Code := loopN Try.f215 1
end Go.Proofs.Ytnojehmbiceceaa.E
end
section
set_option linter.unusedVariables false
set_option linter.unusedSimpArgs false
set_option maxRecDepth 100000
namespace Go.Proofs.Ytnojehmbiceceaa.E
open Go.Ev
noncomputable def en216 : Entry := ⟨Try.f216, [(0, mb 56 0 [0, 6, 7, 8, 9]), (2, mb 56 0 [0, 6, 7, 10]), (1000001, mb 56 0 [0, 6, 7, 8]), (1000002, mb 56 0 [0, 6, 7, 8, 9]), (1000003, mb 56 0 []), (1000004, mb 56 0 [0, 6, 7, 10]), (1000000, mb 56 0 [])]⟩
theorem dw216_10 (lv : Nat) (env : List V) (st : Store) (o : Option (List V × Store)) : drawR en216.ms 10 lv env st o = if lv < 1000000000000000000000000000000 then (o) else none := nr rfl
theorem kl216_10 (lv : Nat) (st : Store) : killR en216.ms 10 lv st = st := nr rfl
theorem nc216_10 : ncOf en216.ms 10 = false := nr rfl
theorem mk216_0 (vs : List V) : mask (maskOf en216.ms 0) vs = km 56 0 [0, 6, 7, 8, 9] vs := mask_mb _ _ _ _
theorem mk216_2 (vs : List V) : mask (maskOf en216.ms 2) vs = km 56 0 [0, 6, 7, 10] vs := mask_mb _ _ _ _
theorem mk216_1000001 (vs : List V) : mask (maskOf en216.ms 1000001) vs = km 56 0 [0, 6, 7, 8] vs := mask_mb _ _ _ _
theorem mk216_1000002 (vs : List V) : mask (maskOf en216.ms 1000002) vs = km 56 0 [0, 6, 7, 8, 9] vs := mask_mb _ _ _ _
theorem mk216_1000003 (vs : List V) : mask (maskOf en216.ms 1000003) vs = km 56 0 [] vs := mask_mb _ _ _ _
theorem mk216_1000004 (vs : List V) : mask (maskOf en216.ms 1000004) vs = km 56 0 [0, 6, 7, 10] vs := mask_mb _ _ _ _
theorem mk216_1000000 (vs : List V) : mask (maskOf en216.ms 1000000) vs = km 56 0 [] vs := mask_mb _ _ _ _
theorem fz216_0 (lv : Nat) (f : Run) : frzF en216.ms lv 0 f = f := nr rfl
theorem fz216_2 (lv : Nat) (f : Run) : frzF en216.ms lv 2 f = f := nr rfl
noncomputable def lb216_0 : Code := loopN Try.f216 0
noncomputable def lb216_2 : Code := loopN Try.f216 1
end Go.Proofs.Ytnojehmbiceceaa.E
end
section
set_option linter.unusedVariables false
set_option linter.unusedSimpArgs false
set_option maxRecDepth 100000
namespace Go.Proofs.Ytnojehmbiceceaa.E
open Go.Ev
noncomputable def en217 : Entry := ⟨Try.f217, [(0, mb 65 0 [0, 1, 6, 7, 8, 9]), (1000001, mb 65 0 []), (1000002, mb 65 0 [0, 1, 6, 7, 8, 9]), (1000000, mb 65 0 [])]⟩
theorem dw217_10 (lv : Nat) (env : List V) (st : Store) (o : Option (List V × Store)) : drawR en217.ms 10 lv env st o = if lv < 1000000000000000000000000000000 then (o) else none := nr rfl
theorem kl217_10 (lv : Nat) (st : Store) : killR en217.ms 10 lv st = st := nr rfl
theorem nc217_10 : ncOf en217.ms 10 = false := nr rfl
theorem mk217_0 (vs : List V) : mask (maskOf en217.ms 0) vs = km 65 0 [0, 1, 6, 7, 8, 9] vs := mask_mb _ _ _ _
theorem mk217_1000001 (vs : List V) : mask (maskOf en217.ms 1000001) vs = km 65 0 [] vs := mask_mb _ _ _ _
theorem mk217_1000002 (vs : List V) : mask (maskOf en217.ms 1000002) vs = km 65 0 [0, 1, 6, 7, 8, 9] vs := mask_mb _ _ _ _
theorem mk217_1000000 (vs : List V) : mask (maskOf en217.ms 1000000) vs = km 65 0 [] vs := mask_mb _ _ _ _
theorem fz217_0 (lv : Nat) (f : Run) : frzF en217.ms lv 0 f = f := nr rfl
noncomputable def lb217_0 : Code := loopN Try.f217 0
end Go.Proofs.Ytnojehmbiceceaa.E
end
section
set_option linter.unusedVariables false
set_option linter.unusedSimpArgs false
set_option maxRecDepth 100000
namespace Go.Proofs.Ytnojehmbiceceaa.E
open Go.Ev
noncomputable def en218 : Entry := ⟨Try.f218, [(1000001, mb 57 0 [6, 7]), (1000000, mb 57 0 [6, 7])]⟩
theorem mk218_1000001 (vs : List V) : mask (maskOf en218.ms 1000001) vs = km 57 0 [6, 7] vs := mask_mb _ _ _ _
theorem mk218_1000000 (vs : List V) : mask (maskOf en218.ms 1000000) vs = km 57 0 [6, 7] vs := mask_mb _ _ _ _
end Go.Proofs.Ytnojehmbiceceaa.E
end
section
set_option linter.unusedVariables false
set_option linter.unusedSimpArgs false
set_option maxRecDepth 100000
namespace Go.Proofs.Ytnojehmbiceceaa.E
open Go.Ev
noncomputable def en219 : Entry := ⟨Try.f219, [(0, mb 32 0 [0, 6, 7]), (1000001, mb 32 0 []), (1000002, mb 32 0 [0, 6, 7]), (1000000, mb 32 0 [])]⟩
theorem dw219_3 (lv : Nat) (env : List V) (st : Store) (o : Option (List V × Store)) : drawR en219.ms 3 lv env st o = if lv < 1000000000000000000000000000000 then (o) else none := nr rfl
theorem kl219_3 (lv : Nat) (st : Store) : killR en219.ms 3 lv st = st := nr rfl
theorem nc219_3 : ncOf en219.ms 3 = false := nr rfl
theorem mk219_0 (vs : List V) : mask (maskOf en219.ms 0) vs = km 32 0 [0, 6, 7] vs := mask_mb _ _ _ _
theorem mk219_1000001 (vs : List V) : mask (maskOf en219.ms 1000001) vs = km 32 0 [] vs := mask_mb _ _ _ _
theorem mk219_1000002 (vs : List V) : mask (maskOf en219.ms 1000002) vs = km 32 0 [0, 6, 7] vs := mask_mb _ _ _ _
theorem mk219_1000000 (vs : List V) : mask (maskOf en219.ms 1000000) vs = km 32 0 [] vs := mask_mb _ _ _ _
theorem fz219_0 (lv : Nat) (f : Run) : frzF en219.ms lv 0 f = f := nr rfl
noncomputable def lb219_0 : Code := loopN Try.f219 0
end Go.Proofs.Ytnojehmbiceceaa.E
end
section
set_option linter.unusedVariables false
set_option linter.unusedSimpArgs false
set_option maxRecDepth 100000
namespace Go.Proofs.Ytnojehmbiceceaa.E
open Go.Ev
noncomputable def en220 : Entry := ⟨Try.f220, [(0, mb 133 0 [0, 1, 2, 7, 8]), (2, mb 133 0 [0, 1, 2, 7, 8]), (4, mb 133 0 [0, 1, 2, 7, 8, 9]), (6, mb 133 0 [0, 1, 2, 7, 8, 10]), (1000001, mb 133 0 []), (1000002, mb 133 0 [0, 1, 2, 7, 8]), (1000003, mb 133 0 [0, 1, 2, 7, 8]), (1000004, mb 133 0 [0, 1, 2, 7, 8]), (1000005, mb 133 0 [0, 1, 2, 7, 8]), (1000006, mb 133 0 [0, 1, 2, 7, 8, 9]), (1000007, mb 133 0 [0, 1, 2, 7, 8]), (1000008, mb 133 0 [0, 1, 2, 7, 8, 10]), (1000000, mb 133 0 [6])]⟩
theorem dw220_5 (lv : Nat) (env : List V) (st : Store) (o : Option (List V × Store)) : drawR en220.ms 5 lv env st o = if lv < 1000000000000000000000000000000 then (o) else none := nr rfl
theorem kl220_5 (lv : Nat) (st : Store) : killR en220.ms 5 lv st = st := nr rfl
theorem nc220_5 : ncOf en220.ms 5 = false := nr rfl
theorem dw220_11 (lv : Nat) (env : List V) (st : Store) (o : Option (List V × Store)) : drawR en220.ms 11 lv env st o = if lv < 1000000000000000000000000000000 then (o) else none := nr rfl
theorem kl220_11 (lv : Nat) (st : Store) : killR en220.ms 11 lv st = st := nr rfl
theorem nc220_11 : ncOf en220.ms 11 = false := nr rfl
theorem dw220_16 (lv : Nat) (env : List V) (st : Store) (o : Option (List V × Store)) : drawR en220.ms 16 lv env st o = if lv < 1000000000000000000000000000000 then (o) else none := nr rfl
theorem kl220_16 (lv : Nat) (st : Store) : killR en220.ms 16 lv st = st := nr rfl
theorem nc220_16 : ncOf en220.ms 16 = false := nr rfl
theorem dw220_17 (lv : Nat) (env : List V) (st : Store) (o : Option (List V × Store)) : drawR en220.ms 17 lv env st o = if lv < 1000000000000000000000000000000 then (o) else none := nr rfl
theorem kl220_17 (lv : Nat) (st : Store) : killR en220.ms 17 lv st = st := nr rfl
theorem nc220_17 : ncOf en220.ms 17 = false := nr rfl
theorem dw220_22 (lv : Nat) (env : List V) (st : Store) (o : Option (List V × Store)) : drawR en220.ms 22 lv env st o = if lv < 1000000000000000000000000000000 then (o) else none := nr rfl
theorem kl220_22 (lv : Nat) (st : Store) : killR en220.ms 22 lv st = st := nr rfl
theorem nc220_22 : ncOf en220.ms 22 = false := nr rfl
theorem dw220_23 (lv : Nat) (env : List V) (st : Store) (o : Option (List V × Store)) : drawR en220.ms 23 lv env st o = if lv < 1000000000000000000000000000000 then (o) else none := nr rfl
theorem kl220_23 (lv : Nat) (st : Store) : killR en220.ms 23 lv st = st := nr rfl
theorem nc220_23 : ncOf en220.ms 23 = false := nr rfl
theorem mk220_0 (vs : List V) : mask (maskOf en220.ms 0) vs = km 133 0 [0, 1, 2, 7, 8] vs := mask_mb _ _ _ _
theorem mk220_2 (vs : List V) : mask (maskOf en220.ms 2) vs = km 133 0 [0, 1, 2, 7, 8] vs := mask_mb _ _ _ _
theorem mk220_4 (vs : List V) : mask (maskOf en220.ms 4) vs = km 133 0 [0, 1, 2, 7, 8, 9] vs := mask_mb _ _ _ _
theorem mk220_6 (vs : List V) : mask (maskOf en220.ms 6) vs = km 133 0 [0, 1, 2, 7, 8, 10] vs := mask_mb _ _ _ _
theorem mk220_1000001 (vs : List V) : mask (maskOf en220.ms 1000001) vs = km 133 0 [] vs := mask_mb _ _ _ _
theorem mk220_1000002 (vs : List V) : mask (maskOf en220.ms 1000002) vs = km 133 0 [0, 1, 2, 7, 8] vs := mask_mb _ _ _ _
theorem mk220_1000003 (vs : List V) : mask (maskOf en220.ms 1000003) vs = km 133 0 [0, 1, 2, 7, 8] vs := mask_mb _ _ _ _
theorem mk220_1000004 (vs : List V) : mask (maskOf en220.ms 1000004) vs = km 133 0 [0, 1, 2, 7, 8] vs := mask_mb _ _ _ _
theorem mk220_1000005 (vs : List V) : mask (maskOf en220.ms 1000005) vs = km 133 0 [0, 1, 2, 7, 8] vs := mask_mb _ _ _ _
theorem mk220_1000006 (vs : List V) : mask (maskOf en220.ms 1000006) vs = km 133 0 [0, 1, 2, 7, 8, 9] vs := mask_mb _ _ _ _
theorem mk220_1000007 (vs : List V) : mask (maskOf en220.ms 1000007) vs = km 133 0 [0, 1, 2, 7, 8] vs := mask_mb _ _ _ _
theorem mk220_1000008 (vs : List V) : mask (maskOf en220.ms 1000008) vs = km 133 0 [0, 1, 2, 7, 8, 10] vs := mask_mb _ _ _ _
theorem mk220_1000000 (vs : List V) : mask (maskOf en220.ms 1000000) vs = km 133 0 [6] vs := mask_mb _ _ _ _
theorem fz220_0 (lv : Nat) (f : Run) : frzF en220.ms lv 0 f = f := nr rfl
theorem fz220_2 (lv : Nat) (f : Run) : frzF en220.ms lv 2 f = f := nr rfl
theorem fz220_4 (lv : Nat) (f : Run) : frzF en220.ms lv 4 f = f := nr rfl
theorem fz220_6 (lv : Nat) (f : Run) : frzF en220.ms lv 6 f = f := nr rfl
noncomputable def lb220_0 : Code := loopN Try.f220 0
noncomputable def lb220_2 : Code := loopN Try.f220 1
noncomputable def lb220_4 : Code := loopN Try.f220 2
noncomputable def lb220_6 : Code := loopN Try.f220 3
end Go.Proofs.Ytnojehmbiceceaa.E
end
