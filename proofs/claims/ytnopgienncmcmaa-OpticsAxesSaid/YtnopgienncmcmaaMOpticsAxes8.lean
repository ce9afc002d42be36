/- Parts of one proof, joined: G76, G11, E12, G12, G13, G20, G21, G9. -/
import Derived.Test.YtnopgienncmcmaaMOpticsAxes7
import Derived.Test.YtnopgienncmcmaaProg
section
attribute [local go_sem] Go.Ev.putR_s Go.Ev.putR_0 Go.Ev.thenO_s Go.Ev.thenO_0 Go.Ev.seqR_n Go.Ev.seqR_e Go.Ev.seqR_r Go.Ev.seqR_0 Go.Ev.blkR_e Go.Ev.blkR_n Go.Ev.blkR_r Go.Ev.blkR_0 Go.Ev.normR_s Go.Ev.normR_0 Go.Ev.outR_r Go.Ev.outR_n Go.Ev.outR_0 Go.Ev.retS_s Go.Ev.retS_0 Go.Ev.pureO_s Go.Ev.pureO_0 Go.Ev.topR_0 Go.Ev.topR_t Go.Ev.topR_t0 Go.Ev.oneL_0 Go.Ev.oneL_s Go.Ev.topR_d Go.Ev.topR_nils Go.Ev.topR_agg Go.Ev.topR_rs Go.Ev.evOp_move Go.Ev.evOp_assign Go.Ev.evOp_pick Go.Ev.evOp_alloc Go.Ev.evOp_box Go.Ev.evOp_build Go.Ev.evOp_buildSlice Go.Ev.evOp_load Go.Ev.evOp_store Go.Ev.evOp_makeMap Go.Ev.evOp_lookup Go.Ev.evOp_mapUpdate Go.Ev.evOp_insert Go.Ev.evOp_nilCheck Go.Ev.evOp_binOp Go.Ev.evOp_unOp Go.Ev.evOp_convert Go.Ev.evOp_makeFunc Go.Ev.evOp_makeSlice Go.Ev.evOp_slice Go.Ev.evOp_fieldAddr Go.Ev.evOp_field Go.Ev.evOp_indexAddr Go.Ev.evOp_index Go.Ev.evOp_extract Go.Ev.evOp_call Go.Ev.evOp_append Go.Ev.evOp_clear Go.Ev.evOp_len Go.Ev.evLen_d Go.Ev.evLen_rs Go.Ev.evLen_nils Go.Ev.evLen_nila Go.Ev.evLen_mp Go.Ev.evOp_min Go.Ev.evOp_max Go.Ev.condR_b Go.Ev.condR_t Go.Ev.evOps_nil Go.Ev.evOps_plain Go.Ev.evOps_guard Go.Ev.runG_eq Go.Ev.skipG_eq Go.Ev.condL_tt Go.Ev.condL_ff Go.Ev.condL_tf Go.Ev.condL_ft Go.Ev.condL_u Go.Ev.condC_t Go.Ev.condC_f Go.Ev.evC_skip Go.Ev.evC_ret Go.Ev.evC_exit Go.Ev.evC_label Go.Ev.evC_region Go.Ev.evC_draw Go.Ev.evC_seq Go.Ev.evC_cond Go.Ev.evC_block Go.Ev.evC_loop Go.Ev.fin_d Go.Ev.fin_nila Go.Ev.fin_nils Go.Ev.fin_agg_ Go.Ev.fin_rs Go.Ev.finS_s Go.Ev.mapO_fin Go.Ev.upd_upd Go.Ev.argv_d Go.Ev.argv_nila Go.Ev.argv_nils Go.Ev.argv_agg Go.Ev.argv_rs Go.Ev.argv_p Go.Ev.fk_low Go.Ev.appendTo_nils Go.Ev.appendTo_nila Go.Ev.appendTo_rs Go.Ev.consV_d Go.Ev.consV_agg Go.Ev.consV_p Go.Ev.consV_rs Go.Ev.consV_nila Go.Ev.consV_nils Go.Ev.consV_fn Go.Ev.consV_und Go.Ev.consV_jk Go.Ev.consV_grown Go.Ev.topR_grown Go.Ev.len_grown Go.Ev.consV_nilm Go.Ev.consV_mp Go.Ev.sameK_i Go.Ev.sameK_s Go.Ev.mget_0 Go.Ev.mget_hit Go.Ev.mget_miss Go.Ev.mput_0 Go.Ev.mput_hit Go.Ev.mput_miss Go.Ev.apartAll Go.Ev.apartL Go.Ev.apartV Go.Ev.freeAll Go.Ev.sel Go.Ev.keyOfV Go.Ev.evLookup Go.Ev.evPut Go.Ev.hintOk Go.Ev.keyOk Go.Ev.consP Go.Ev.lookV Go.Ev.guardV Go.Ev.dstAt Go.Ev.evPure Go.Ev.evStore Go.Ev.evBin Go.Ev.evBinO Go.Ev.evNil Go.Ev.isNilC Go.Ev.evUn Go.Ev.evConv Go.Ev.evSlice Go.Ev.optI Go.Ev.foldI Go.Ev.capsOk Go.Ev.noTup Go.Ev.nth Go.Ev.setN Go.Ev.killAt Go.Ev.pad Go.Ev.V.get Go.Ev.V.put Go.Ev.putD Go.Ev.newBlk Go.Ev.upd Go.Ev.keq Go.Ev.empty Go.Ev.evCall Go.Ev.V.args Go.Ev.argP Go.Ev.callOf Go.Ev.evNilP Go.Ev.isNilP Go.Ev.look Go.Ev.V.view.views Go.Ev.V.view Go.Ev.V.toD Go.Ev.V.toD.V.toDs Go.Ev.V.pure.pures Go.Ev.V.pure Go.Ev.D.flat.flats Go.Ev.D.flat Go.Ev.mkAgg Go.Ev.allD Go.Ev.aggParts Go.Ev.setParts Go.Ev.setElems Go.Ev.getPath Go.Ev.setPath Go.Ev.subL Go.Ev.eqD Go.Ev.eqD.eqDs Go.Ev.and2 Go.Ev.strCut Go.Ev.evalT Go.Ev.constT Go.Ev.evArgs Go.Ev.mask Go.Ev.maskOf Go.Ev.tableOf Go.Ev.compT Go.Ev.resV Go.Ev.retV Go.Ev.mapO Go.Ev.mx_u64 Go.Ev.mx_u32 Go.Ev.mx_u16 Go.Ev.mx_u8 Go.Ev.sg_i64 Go.Ev.sg_i32 Go.Ev.sg_i16 Go.Ev.sg_i8 Go.Ev.sg_u64 Go.Ev.sg_u32 Go.Ev.sg_u16 Go.Ev.sg_u8 Go.Ev.mapE_i Go.Ev.mapV_nil Go.Ev.hT_nilm Go.Ev.mget_map Go.Ev.mput_map Go.Ev.mapV_put Go.Ev.mapV_half Go.Ev.hT_nila Go.Ev.eO_nila Go.Ev.pL_nila Go.Ev.evLen_gl Go.Ev.r_nila Go.Ev.frzO_n Go.Ev.frzO_e Go.Ev.frzO_r Go.Ev.frzO_0 Go.Ev.mb_z Go.Ev.mb_0 Go.Ev.mb_s Go.Ev.frzL_t Go.Ev.frzL_f Go.Ev.frzL_0 Go.Ev.frzT_nils Go.Ev.frzT_rs Go.Ev.frzT_p Go.Ev.frzK_i Go.Ev.keyIn_i Go.Ev.rI_nil Go.Ev.rI_cons Go.Ev.rI_row Go.Ev.rI_app Go.Ev.r_d Go.Ev.r_nils Go.Ev.r_agg Go.Ev.r_rs Go.Ev.r_gl Go.Ev.vw_row Go.Ev.vw_app Go.Ev.appO_s Go.Ev.frzT_gl Go.Ev.allD_gl Go.Ev.killAt_i Go.Ev.tkOne_i Go.Ev.hT_agg Go.Ev.hT_vagg Go.Ev.hT_int Go.Ev.hT_bool Go.Ev.hT_str Go.Ev.hT_sl Go.Ev.hT_ptr Go.Ev.hT_np Go.Ev.hT_p Go.Ev.hT_rs Go.Ev.hT_mp Go.Ev.hT_nils Go.Ev.hT_fn Go.Ev.hT_jk Go.Ev.hT_gl Go.Ev.eO_sl Go.Ev.eO_nils Go.Ev.eO_rs Go.Ev.eT_sl Go.Ev.eT_rs Go.Ev.pL_str Go.Ev.pL_sl Go.Ev.pL_rs Go.Ev.pL_nils Go.Ev.pL_min Go.Ev.pL_max Go.Ev.len_glB Go.Ev.noTup_gl Go.Ev.rowV_len Go.Ev.rowV_nil Go.Ev.rowV_cons Go.Ev.rowV_append Go.Ev.rowV_set Go.Ev.rowV_replicate Go.Ev.nth_row Go.Ev.row_take Go.Ev.row_drop Go.Ev.toDs_row Go.Ev.fin_row Go.Ev.map_row Go.Ev.map_take_ Go.Ev.map_drop_ Go.Ev.Bk_i Go.Ev.GlB_0 Go.Ev.GlB_mk Go.Ev.gl_nil Go.Ev.gl_cons Go.Ev.gl_snoc Go.Ev.gl_setN Go.Ev.appendTo_gl Go.Ev.consV_gl Go.Ev.elems_gl Go.Ev.fin_gl Go.Ev.view_gl Go.Ev.argv_gl Go.Ev.topR_gl Go.Ev.sp_z Go.Ev.sp_0 Go.Ev.sp_s Go.Ev.km_z Go.Ev.km_0 Go.Ev.km_s Go.Ev.beq_toList Go.Ev.nc0 Go.Ev.bq_t Go.Ev.bq_f Go.Ev.bodyN Go.Ev.le_maxRow Int.cast_ofNat_Int Go.IntWalk.i64_in Go.IntWalk.u64_in Go.IntWalk.u8_in beq_self_eq_true Bool.true_beq Bool.false_beq Bool.and_true Bool.true_and Bool.false_and Bool.and_false Bool.and_self Bool.not_true Bool.not_false Bool.not_eq_true cond_true cond_false if_true if_false and_true true_and and_self decide_true decide_false Bool.or_true Bool.true_or Bool.or_false Bool.false_or List.isEmpty List.isEmpty_nil List.size_toArray List.map List.length_map List.length_cons List.length_nil Option.map Option.bind Option.getD Option.isSome List.replicate Bool.false_eq_true implies_true false_implies forall_const Array.toList Array.isEmpty List.append List.nil_append List.cons_append List.drop_zero List.take_length List.take_succ_cons List.take_zero List.take_nil List.getElem?_map List.getElem?_cons_zero List.getElem?_cons_succ List.getElem?_nil List.append_nil eq_self Int.toNat_natCast List.length_append Nat.zero_add Nat.add_zero List.length_replicate Nat.sub_zero Option.map_some Option.map_none Int.le_refl Nat.le_refl Int.natCast_nonneg List.map_append
attribute [local go_sem_proc] Nat.reduceAdd Nat.reduceSub Nat.reduceMul Nat.reduceEqDiff Nat.reduceBEq Nat.reduceLT Nat.reduceLeDiff Nat.reducePow Int.reduceToNat Int.reduceLT Int.reduceLE Int.reduceGT Int.reduceGE Int.reduceEq Int.reduceNeg Int.reduceAdd Int.reduceSub Int.reduceMul reduceCtorEq
attribute [local go_sem_proc ↓] reduceIte
section
set_option linter.unusedVariables false
set_option linter.unusedSimpArgs false
set_option maxRecDepth 100000
namespace Go.Proofs.Ytnopgienncmcmaa.P
open Go.Ev Go.IntKind Go.Proofs.Ytnopgienncmcmaa Go.Proofs.Ytnopgienncmcmaa.Ty Go.Proofs.Ytnopgienncmcmaa.E
def p_frac_Check (L : Nat) (a0_0 : Int) (a0_1 : Int) : Option Int := if a0_0 < (-1152921504606846976) then (some 4) else (if a0_0 > 1152921504606846976 then (some 4) else (if a0_1 < 1 then (some 4) else (if a0_1 > 1152921504606846976 then (some 4) else (bnd (p_num_Gcd L a0_0 a0_1) fun r1 => cb (decide (r1 = 1)) (some 0) (some 3)))))
noncomputable def G_frac_Check (L : Nat) : Specs := [(58, s_num_Gcd L)]
noncomputable def T_frac_Check : Table := tableOf [(76, en76)]
theorem Go_frac_Check (L : Nat) (hL : L ≤ 4611686018427387904) : ∀ g s, Ev.look (G_frac_Check L) g = some s → SpecOk Try.prog g s := (specs_cons (ok_num_Gcd L hL) specs_nil)
theorem To_frac_Check (L : Nat) : TableOk Try.prog ((G_frac_Check L).map (·.1)) T_frac_Check := (table_cons Try.func76 (by kernel_rfl) (by kernel_rfl) table_nil)
theorem lk_frac_Check_58 (L : Nat) : Ev.look (G_frac_Check L) 58 = some (s_num_Gcd L) := nr rfl
attribute [local go_sem] Ty.tk2 Ty.ik2 Ty.ek2 Ty.zv2 Ty.by2 Ty.so2 Ty.tk4 Ty.ub4 Ty.ek4 Ty.zv4 Ty.by4 Ty.so4 Ty.tk24 Ty.ik24 Ty.ek24 Ty.zv24 Ty.by24 Ty.so24 Ty.tk64 Ty.ct64 Ty.ek64 Ty.zv64 Ty.by64 Ty.so64 Ty.k64_e E.mk76_1000000 lk_frac_Check_58 s_num_Gcd_run loopN loops Try.f76
theorem e_frac_Check (L : Nat) (hL : L ≤ 4611686018427387904) (a0_0 : Int) (a0_1 : Int) (res : Int) (h : p_frac_Check L a0_0 a0_1 = some res) : evTop Try.prog (G_frac_Check L) T_frac_Check L 1 76 [.agg 64 [.int .i64 a0_0, .int .i64 a0_1]] = some [.int .i64 res] := by
  revert h
  unfold p_frac_Check evTop
  simp only [List.map]
  rw [evF_s (fn := Try.f76) (msk := en76.ms) (hT := by rfl) (hb := by rfl)]
  refine ite_i (fun c1 => ?_) (fun c1 => ?_)
  · rintro ⟨⟩
    simp only [go_sem, *]
  · refine ite_i (fun c2 => ?_) (fun c2 => ?_)
    · rintro ⟨⟩
      simp only [go_sem, *]
    · refine ite_i (fun c3 => ?_) (fun c3 => ?_)
      · rintro ⟨⟩
        simp only [go_sem, *]
      · refine ite_i (fun c4 => ?_) (fun c4 => ?_)
        · rintro ⟨⟩
          simp only [go_sem, *]
        · refine bnd_i fun r1 c5 => ?_
          refine cb_i (fun c6 => ?_) (fun c6 => ?_)
          · rintro ⟨⟩
            simp only [go_sem, *]
          · rintro ⟨⟩
            simp only [go_sem, *]
noncomputable def s_frac_Check (L : Nat) : Ev.Spec := specP (cCons k64 cNil) (fun x => p_frac_Check L x.1.1 x.1.2.1) (fun r => [.int .i64 r])
theorem s_frac_Check_run (L : Nat) (a0_0 : Int) (a0_1 : Int) : (s_frac_Check L).run [.agg 64 [.int .i64 a0_0, .int .i64 a0_1]] = (p_frac_Check L a0_0 a0_1).map fun r => [.int .i64 r] := specP_run (cCons k64 cNil) (fun x => p_frac_Check L x.1.1 x.1.2.1) (fun r => [.int .i64 r]) ((a0_0, a0_1, ()), ())
theorem ok_frac_Check (L : Nat) (hL : L ≤ 4611686018427387904) : SpecOk Try.prog 76 (s_frac_Check L) := specP_ok mixed (Go_frac_Check L hL) (To_frac_Check L) fun x r h => ⟨L, 1, e_frac_Check L hL x.1.1 x.1.2.1 r h⟩
def sk_frac_Check : Ev.Spec := specK (c := (cCons k64 cNil)) (dCons (dA 64 (dCons (dI .i64) (dCons (dI .i64) dNil))) dNil) (fun x => p_frac_Check 1000 x.1.1 x.1.2.1) (fun r => [.int .i64 r])
theorem okk_frac_Check : SpecOk Try.prog 76 sk_frac_Check := specK_ok (dCons (dA 64 (dCons (dI .i64) (dCons (dI .i64) dNil))) dNil) mixed (Go_frac_Check 1000 (by decide)) (To_frac_Check 1000) fun x r h => ⟨1000, 1, e_frac_Check 1000 (by decide) x.1.1 x.1.2.1 r h⟩
end Go.Proofs.Ytnopgienncmcmaa.P
end
section
set_option linter.unusedVariables false
set_option linter.unusedSimpArgs false
set_option maxRecDepth 100000
namespace Go.Proofs.Ytnopgienncmcmaa.P
open Go.Ev Go.IntKind Go.Proofs.Ytnopgienncmcmaa Go.Proofs.Ytnopgienncmcmaa.Ty Go.Proofs.Ytnopgienncmcmaa.E
def p_spylaw3_lenses (L : Nat) : Option Bool := some true
def Gk_spylaw3_lenses : Specs := [(40, sk_cmp_Or_Errno), (56, sk_frac_size), (58, sk_num_Gcd), (59, sk_num_Mul), (76, sk_frac_Check)]
noncomputable def T_spylaw3_lenses : Table := tableOf [(11, en11), (9, en9), (13, en13), (20, en20), (21, en21), (25, en25), (37, en37), (38, en38), (39, en39), (57, en57), (60, en60)]
theorem Gko_spylaw3_lenses : ∀ g s, Ev.look Gk_spylaw3_lenses g = some s → SpecOk Try.prog g s := (specs_cons okk_cmp_Or_Errno (specs_cons okk_frac_size (specs_cons okk_num_Gcd (specs_cons okk_num_Mul (specs_cons okk_frac_Check specs_nil)))))
theorem To_spylaw3_lenses : TableOk Try.prog (Gk_spylaw3_lenses.map (·.1)) T_spylaw3_lenses := (table_cons Try.func11 (by kernel_rfl) (by kernel_rfl) (table_cons Try.func9 (by kernel_rfl) (by kernel_rfl) (table_cons Try.func13 (by kernel_rfl) (by kernel_rfl) (table_cons Try.func20 (by kernel_rfl) (by kernel_rfl) (table_cons Try.func21 (by kernel_rfl) (by kernel_rfl) (table_cons Try.func25 (by kernel_rfl) (by kernel_rfl) (table_cons Try.func37 (by kernel_rfl) (by kernel_rfl) (table_cons Try.func38 (by kernel_rfl) (by kernel_rfl) (table_cons Try.func39 (by kernel_rfl) (by kernel_rfl) (table_cons Try.func57 (by kernel_rfl) (by kernel_rfl) (table_cons Try.func60 (by kernel_rfl) (by kernel_rfl) table_nil)))))))))))
theorem ek_spylaw3_lenses : evTop Try.prog Gk_spylaw3_lenses T_spylaw3_lenses 1000 40 11 [] = some [.bool true] := by kernel_rfl
def s_spylaw3_lenses (L : Nat) : Ev.Spec := ⟨fun xs => match xs with | [] => some [.bool true] | _ => none⟩
theorem s_spylaw3_lenses_run (L : Nat) : (s_spylaw3_lenses L).run [] = (p_spylaw3_lenses L).map fun r => [.bool r] := rfl
theorem ok_spylaw3_lenses (L : Nat) (hL : L ≤ 4611686018427387904) : SpecOk Try.prog 11 (s_spylaw3_lenses L) := spec_of_ev mixed Gko_spylaw3_lenses To_spylaw3_lenses fun xs rs hr => by
  simp only [s_spylaw3_lenses] at hr
  split at hr
  · cases hr; exact ⟨1000, 40, ek_spylaw3_lenses⟩
  · cases hr
end Go.Proofs.Ytnopgienncmcmaa.P
end
section
set_option linter.unusedVariables false
set_option linter.unusedSimpArgs false
set_option maxRecDepth 100000
namespace Go.Proofs.Ytnopgienncmcmaa.E
open Go.Ev
noncomputable def en12 : Entry := ⟨Try.f12, [(0, mb 26 0 [0, 1, 12, 13]), (1000001, mb 26 0 []), (1000002, mb 26 0 [0, 1, 12, 13]), (1000000, mb 26 0 [4])]⟩
theorem dw12_6 (lv : Nat) (env : List V) (st : Store) (o : Option (List V × Store)) : drawR en12.ms 6 lv env st o = if lv < 1000000000000000000000000000000 then (o) else none := nr rfl
theorem kl12_6 (lv : Nat) (st : Store) : killR en12.ms 6 lv st = st := nr rfl
theorem nc12_6 : ncOf en12.ms 6 = false := nr rfl
theorem mk12_0 (vs : List V) : mask (maskOf en12.ms 0) vs = km 26 0 [0, 1, 12, 13] vs := mask_mb _ _ _ _
theorem mk12_1000001 (vs : List V) : mask (maskOf en12.ms 1000001) vs = km 26 0 [] vs := mask_mb _ _ _ _
theorem mk12_1000002 (vs : List V) : mask (maskOf en12.ms 1000002) vs = km 26 0 [0, 1, 12, 13] vs := mask_mb _ _ _ _
theorem mk12_1000000 (vs : List V) : mask (maskOf en12.ms 1000000) vs = km 26 0 [4] vs := mask_mb _ _ _ _
theorem fz12_0 (lv : Nat) (f : Run) : frzF en12.ms lv 0 f = f := nr rfl
theorem fi12_0 (lv : Nat) (env : List V) (st : Store) (q : Store → Out) : frzI en12.ms lv 0 env st q = q st := nr rfl
noncomputable def lb12_0 : Code := loopN Try.f12 0
end Go.Proofs.Ytnopgienncmcmaa.E
end
section
set_option linter.unusedVariables false
set_option linter.unusedSimpArgs false
set_option maxRecDepth 100000
namespace Go.Proofs.Ytnopgienncmcmaa.P
open Go.Ev Go.IntKind Go.Proofs.Ytnopgienncmcmaa Go.Proofs.Ytnopgienncmcmaa.Ty Go.Proofs.Ytnopgienncmcmaa.E
def p_slices_Equal_Part_l0 (L : Nat) (a0 : List (Int × Int × Unit)) (a1 : List (Int × Int × Unit)) : Nat → Int → Option (Sum Unit Unit)
  | 0, s3 => some (.inl ())
  | tl + 1, s3 => bnd (idx a0 s3) fun x6 => bnd (idx a1 s3) fun x7 => cb ((decide (x6.1 = x7.1)) && (decide (x6.2.1 = x7.2.1))) (p_slices_Equal_Part_l0 L a0 a1 tl (s3 + 1)) (some (.inr ()))
def p_slices_Equal_Part (L : Nat) (a0 : List (Int × Int × Unit)) (a1 : List (Int × Int × Unit)) : Option Bool := cb (decide ((a0.length : Int) = (a1.length : Int))) (rq ((a0.length : Int).toNat < L) <| rq ((a0.length : Int) < 4611686018427387904) <| bnd (p_slices_Equal_Part_l0 L a0 a1 (a0.length : Int).toNat 0) fun o8 => match o8 with | (.inl o8_0) => (some true) | (.inr o8_1) => (some false)) (some false)
noncomputable def G_slices_Equal_Part (L : Nat) : Specs := []
noncomputable def T_slices_Equal_Part : Table := tableOf [(12, en12)]
theorem Go_slices_Equal_Part (L : Nat) (hL : L ≤ 4611686018427387904) : ∀ g s, Ev.look (G_slices_Equal_Part L) g = some s → SpecOk Try.prog g s := specs_nil
theorem To_slices_Equal_Part (L : Nat) : TableOk Try.prog ((G_slices_Equal_Part L).map (·.1)) T_slices_Equal_Part := (table_cons Try.func12 (by kernel_rfl) (by kernel_rfl) table_nil)
attribute [local go_sem] Ty.tk3 Ty.ik3 Ty.ek3 Ty.zv3 Ty.by3 Ty.so3 Ty.tk4 Ty.ub4 Ty.ek4 Ty.zv4 Ty.by4 Ty.so4 Ty.tk31 Ty.zv31 Ty.by31 Ty.so31 Ty.tk35 Ty.ik35 Ty.ek35 Ty.zv35 Ty.by35 Ty.so35 Ty.tk37 Ty.ct37 Ty.ek37 Ty.zv37 Ty.by37 Ty.so37 Ty.k31_e Ty.k37_e E.dw12_6 E.kl12_6 E.nc12_6 E.mk12_0 E.mk12_1000001 E.mk12_1000002 E.mk12_1000000 E.fz12_0 E.fi12_0 E.lb12_0 loopN loops Try.f12
def Q0_p_slices_Equal_Part_l0 (a0 : List (Int × Int × Unit)) (a1 : List (Int × Int × Unit)) (a2 : Int) (u : Unit) (z : Out) : Prop := ∃ env st, z = some (.exit 0, env, st) ∧ env = sp 26 0 []
def Q1_p_slices_Equal_Part_l0 (a0 : List (Int × Int × Unit)) (a1 : List (Int × Int × Unit)) (a2 : Int) (u : Unit) (z : Out) : Prop := ∃ env st, z = some (.ret, env, st) ∧ env = sp 26 0 [(4, .d (.bool false))]
def Q_p_slices_Equal_Part_l0 (a0 : List (Int × Int × Unit)) (a1 : List (Int × Int × Unit)) (a2 : Int) (o : Sum Unit Unit) (z : Out) : Prop := match o with | (.inl u) => Q0_p_slices_Equal_Part_l0 a0 a1 a2 u z | (.inr u) => Q1_p_slices_Equal_Part_l0 a0 a1 a2 u z
theorem l_p_slices_Equal_Part_l0 (L : Nat) (hL : L ≤ 4611686018427387904) (a0 : List (Int × Int × Unit)) (a1 : List (Int × Int × Unit)) (a2 : Int) : ∀ (tl n : Nat) (s3 : Int) (env : List V) (st : Store) (o : Sum Unit Unit), tl < n → Cnt a2 s3 tl → mask (maskOf en12.ms 0) env = sp 26 0 [(0, .d (.sl 37 (a0.map k37.e))), (1, .d (.sl 37 (a1.map k37.e))), (12, .d (.int .i64 a2)), (13, .d (.int .i64 s3))] → p_slices_Equal_Part_l0 L a0 a1 tl s3  = some o →
    Q_p_slices_Equal_Part_l0 a0 a1 a2 o (iter (evC Try.prog (G_slices_Equal_Part L) (evF Try.prog (G_slices_Equal_Part L) T_slices_Equal_Part L 0) L en12.ms 0 0 lb12_0) (maskOf en12.ms 0) n env st) := by
  intro tl
  induction tl with
  | zero =>
    intro n s3  env st o hn hR he  h
    obtain ⟨n, rfl⟩ : ∃ m, n = m + 1 := ⟨n - 1, by omega⟩
    have g0 := cnt_nil hR
    rw [iter, he]
    clear he
    generalize hK : iter _ _ n = K
    rw [p_slices_Equal_Part_l0] at h
    revert h
    rintro ⟨⟩
    simp only [go_sem, *]
    refine (⟨_, _, rfl, ?_⟩ : Q0_p_slices_Equal_Part_l0 _ _ _ _ _)
    all_goals simp only [go_sem, *]
  | succ tl ih =>
    intro n s3  env st o hn hR he  h
    obtain ⟨n, rfl⟩ : ∃ m, n = m + 1 := ⟨n - 1, by omega⟩
    replace ih : Hold _ := ih
    replace hR := cnt_s hR
    obtain ⟨g0, g1, g3, hR⟩ := hR
    rw [iter, he]
    clear he
    generalize hK : iter _ _ n = K
    rw [p_slices_Equal_Part_l0] at h
    revert h
    refine idx_i fun x6 c1 c2 c3 => ?_
    refine idx_i fun x7 c4 c5 c6 => ?_
    refine cb_i (fun c7 => ?_) (fun c7 => ?_)
    · intro h
      simp only [go_sem, *]
      subst hK
      refine ih n (s3 + 1)  _ _ _ (by omega) hR ?_ h
      all_goals simp only [go_sem, *]
    · rintro ⟨⟩
      simp only [go_sem, *]
      refine (⟨_, _, rfl, ?_⟩ : Q1_p_slices_Equal_Part_l0 _ _ _ _ _)
      all_goals simp only [go_sem, *]
theorem e_slices_Equal_Part (L : Nat) (hL : L ≤ 4611686018427387904) (a0 : List (Int × Int × Unit)) (a1 : List (Int × Int × Unit)) (res : Bool) (h : p_slices_Equal_Part L a0 a1 = some res) : evTop Try.prog (G_slices_Equal_Part L) T_slices_Equal_Part L 1 12 [.sl 37 (a0.map k37.e), .sl 37 (a1.map k37.e)] = some [.bool res] := by
  revert h
  unfold p_slices_Equal_Part evTop
  simp only [List.map]
  rw [evF_s (fn := Try.f12) (msk := en12.ms) (hT := by rfl) (hb := by rfl)]
  refine cb_i (fun c1 => ?_) (fun c1 => ?_)
  · refine rq_i fun c2 => ?_
    refine rq_i fun c3 => ?_
    refine bnd_i fun o8 ho4 => ?_
    intro h
    simp only [go_sem, *]
    generalize hz6 : iter _ _ _ _ _ = z5
    have hq7 : Q_p_slices_Equal_Part_l0 a0 a1 (a0.length : Int) o8 z5 := by
      rw [← hz6]
      refine l_p_slices_Equal_Part_l0 L hL a0 a1 (a0.length : Int) _ L 0  _ _ _ c2 (cnt_00 (by decide) c3) ?_ ho4
      all_goals simp only [go_sem, *]
    clear hz6 ho4
    rcases o8 with o8_0 | o8_1
    · obtain ⟨_, st9, rfl, rfl⟩ := hq7
      dsimp only at h
      revert h
      rintro ⟨⟩
      simp only [go_sem, *]
    · obtain ⟨_, st10, rfl, rfl⟩ := hq7
      dsimp only at h
      revert h
      rintro ⟨⟩
      simp only [go_sem, *]
  · rintro ⟨⟩
    simp only [go_sem, *]
noncomputable def s_slices_Equal_Part (L : Nat) : Ev.Spec := specP (cCons k31 (cCons k31 cNil)) (fun x => p_slices_Equal_Part L x.1 x.2.1) (fun r => [.bool r])
theorem s_slices_Equal_Part_run (L : Nat) (a0 : List (Int × Int × Unit)) (a1 : List (Int × Int × Unit)) : (s_slices_Equal_Part L).run [.sl 37 (a0.map k37.e), .sl 37 (a1.map k37.e)] = (p_slices_Equal_Part L a0 a1).map fun r => [.bool r] := specP_run (cCons k31 (cCons k31 cNil)) (fun x => p_slices_Equal_Part L x.1 x.2.1) (fun r => [.bool r]) (a0, a1, ())
theorem ok_slices_Equal_Part (L : Nat) (hL : L ≤ 4611686018427387904) : SpecOk Try.prog 12 (s_slices_Equal_Part L) := specP_ok mixed (Go_slices_Equal_Part L hL) (To_slices_Equal_Part L) fun x r h => ⟨L, 1, e_slices_Equal_Part L hL x.1 x.2.1 r h⟩
end Go.Proofs.Ytnopgienncmcmaa.P
end
section
set_option linter.unusedVariables false
set_option linter.unusedSimpArgs false
set_option maxRecDepth 100000
namespace Go.Proofs.Ytnopgienncmcmaa.P
open Go.Ev Go.IntKind Go.Proofs.Ytnopgienncmcmaa Go.Proofs.Ytnopgienncmcmaa.Ty Go.Proofs.Ytnopgienncmcmaa.E
def p_optics_Reach (L : Nat) (a0 : Int) : Option Int := cb (decide (a0 = 1)) (some a0) (cb (decide (a0 = 2)) (some a0) (cb (decide (a0 = 4)) (some a0) (some 0)))
noncomputable def G_optics_Reach (L : Nat) : Specs := []
noncomputable def T_optics_Reach : Table := tableOf [(13, en13)]
theorem Go_optics_Reach (L : Nat) (hL : L ≤ 4611686018427387904) : ∀ g s, Ev.look (G_optics_Reach L) g = some s → SpecOk Try.prog g s := specs_nil
theorem To_optics_Reach (L : Nat) : TableOk Try.prog ((G_optics_Reach L).map (·.1)) T_optics_Reach := (table_cons Try.func13 (by kernel_rfl) (by kernel_rfl) table_nil)
attribute [local go_sem] Ty.tk3 Ty.ik3 Ty.ek3 Ty.zv3 Ty.by3 Ty.so3 Ty.tk4 Ty.ub4 Ty.ek4 Ty.zv4 Ty.by4 Ty.so4 E.mk13_1000000 loopN loops Try.f13
theorem e_optics_Reach (L : Nat) (hL : L ≤ 4611686018427387904) (a0 : Int) (res : Int) (h : p_optics_Reach L a0 = some res) : evTop Try.prog (G_optics_Reach L) T_optics_Reach L 1 13 [.int .i64 a0] = some [.int .i64 res] := by
  revert h
  unfold p_optics_Reach evTop
  simp only [List.map]
  rw [evF_s (fn := Try.f13) (msk := en13.ms) (hT := by rfl) (hb := by rfl)]
  refine cb_i (fun c1 => ?_) (fun c1 => ?_)
  · rintro ⟨⟩
    simp only [go_sem, *]
  · refine cb_i (fun c2 => ?_) (fun c2 => ?_)
    · rintro ⟨⟩
      simp only [go_sem, *]
    · refine cb_i (fun c3 => ?_) (fun c3 => ?_)
      · rintro ⟨⟩
        simp only [go_sem, *]
      · rintro ⟨⟩
        simp only [go_sem, *]
noncomputable def s_optics_Reach (L : Nat) : Ev.Spec := specP (cCons (cI .i64) cNil) (fun x => p_optics_Reach L x.1) (fun r => [.int .i64 r])
theorem s_optics_Reach_run (L : Nat) (a0 : Int) : (s_optics_Reach L).run [.int .i64 a0] = (p_optics_Reach L a0).map fun r => [.int .i64 r] := specP_run (cCons (cI .i64) cNil) (fun x => p_optics_Reach L x.1) (fun r => [.int .i64 r]) (a0, ())
theorem ok_optics_Reach (L : Nat) (hL : L ≤ 4611686018427387904) : SpecOk Try.prog 13 (s_optics_Reach L) := specP_ok mixed (Go_optics_Reach L hL) (To_optics_Reach L) fun x r h => ⟨L, 1, e_optics_Reach L hL x.1 r h⟩
end Go.Proofs.Ytnopgienncmcmaa.P
end
section
set_option linter.unusedVariables false
set_option linter.unusedSimpArgs false
set_option maxRecDepth 100000
namespace Go.Proofs.Ytnopgienncmcmaa.P
open Go.Ev Go.IntKind Go.Proofs.Ytnopgienncmcmaa Go.Proofs.Ytnopgienncmcmaa.Ty Go.Proofs.Ytnopgienncmcmaa.E
def p_num_FloorDiv (L : Nat) (a0 : Int) (a1 : Int) : Option Int := if a1 < 1 then (some 0) else (rq (¬ a1 = 0) <| if (a0.tmod a1) < 0 then (some (i64.wrap ((i64.wrap (a0.tdiv a1)) - 1))) else (some (i64.wrap (a0.tdiv a1))))
noncomputable def G_num_FloorDiv (L : Nat) : Specs := []
noncomputable def T_num_FloorDiv : Table := tableOf [(20, en20)]
theorem Go_num_FloorDiv (L : Nat) (hL : L ≤ 4611686018427387904) : ∀ g s, Ev.look (G_num_FloorDiv L) g = some s → SpecOk Try.prog g s := specs_nil
theorem To_num_FloorDiv (L : Nat) : TableOk Try.prog ((G_num_FloorDiv L).map (·.1)) T_num_FloorDiv := (table_cons Try.func20 (by kernel_rfl) (by kernel_rfl) table_nil)
attribute [local go_sem] Ty.tk2 Ty.ik2 Ty.ek2 Ty.zv2 Ty.by2 Ty.so2 Ty.tk4 Ty.ub4 Ty.ek4 Ty.zv4 Ty.by4 Ty.so4 E.mk20_1000000 loopN loops Try.f20
theorem e_num_FloorDiv (L : Nat) (hL : L ≤ 4611686018427387904) (a0 : Int) (a1 : Int) (res : Int) (h : p_num_FloorDiv L a0 a1 = some res) : evTop Try.prog (G_num_FloorDiv L) T_num_FloorDiv L 1 20 [.int .i64 a0, .int .i64 a1] = some [.int .i64 res] := by
  revert h
  unfold p_num_FloorDiv evTop
  simp only [List.map]
  rw [evF_s (fn := Try.f20) (msk := en20.ms) (hT := by rfl) (hb := by rfl)]
  refine ite_i (fun c1 => ?_) (fun c1 => ?_)
  · rintro ⟨⟩
    simp only [go_sem, *]
  · refine rq_i fun c2 => ?_
    refine ite_i (fun c3 => ?_) (fun c3 => ?_)
    · rintro ⟨⟩
      simp only [go_sem, *]
    · rintro ⟨⟩
      simp only [go_sem, *]
noncomputable def s_num_FloorDiv (L : Nat) : Ev.Spec := specP (cCons (cI .i64) (cCons (cI .i64) cNil)) (fun x => p_num_FloorDiv L x.1 x.2.1) (fun r => [.int .i64 r])
theorem s_num_FloorDiv_run (L : Nat) (a0 : Int) (a1 : Int) : (s_num_FloorDiv L).run [.int .i64 a0, .int .i64 a1] = (p_num_FloorDiv L a0 a1).map fun r => [.int .i64 r] := specP_run (cCons (cI .i64) (cCons (cI .i64) cNil)) (fun x => p_num_FloorDiv L x.1 x.2.1) (fun r => [.int .i64 r]) (a0, a1, ())
theorem ok_num_FloorDiv (L : Nat) (hL : L ≤ 4611686018427387904) : SpecOk Try.prog 20 (s_num_FloorDiv L) := specP_ok mixed (Go_num_FloorDiv L hL) (To_num_FloorDiv L) fun x r h => ⟨L, 1, e_num_FloorDiv L hL x.1 x.2.1 r h⟩
end Go.Proofs.Ytnopgienncmcmaa.P
end
section
set_option linter.unusedVariables false
set_option linter.unusedSimpArgs false
set_option maxRecDepth 100000
namespace Go.Proofs.Ytnopgienncmcmaa.P
open Go.Ev Go.IntKind Go.Proofs.Ytnopgienncmcmaa Go.Proofs.Ytnopgienncmcmaa.Ty Go.Proofs.Ytnopgienncmcmaa.E
def p_optics_before (L : Nat) (a0 : Int) (a1 : Int) : Option Int := if a0 ≤ (i64.wrap (0 - a1)) then (some 0) else (if a0 ≤ 0 then (some (i64.wrap ((i64.wrap ((i64.wrap (a1 + a0)) * (i64.wrap ((i64.wrap (a1 + a0)) - 1)))).tdiv 2))) else (if a0 < a1 then (some (i64.wrap ((i64.wrap (a1 * a1)) - (i64.wrap ((i64.wrap ((i64.wrap (a1 - a0)) * (i64.wrap ((i64.wrap (a1 - a0)) + 1)))).tdiv 2))))) else (some (i64.wrap (a1 * a1)))))
noncomputable def G_optics_before (L : Nat) : Specs := []
noncomputable def T_optics_before : Table := tableOf [(21, en21)]
theorem Go_optics_before (L : Nat) (hL : L ≤ 4611686018427387904) : ∀ g s, Ev.look (G_optics_before L) g = some s → SpecOk Try.prog g s := specs_nil
theorem To_optics_before (L : Nat) : TableOk Try.prog ((G_optics_before L).map (·.1)) T_optics_before := (table_cons Try.func21 (by kernel_rfl) (by kernel_rfl) table_nil)
attribute [local go_sem] Ty.tk3 Ty.ik3 Ty.ek3 Ty.zv3 Ty.by3 Ty.so3 Ty.tk4 Ty.ub4 Ty.ek4 Ty.zv4 Ty.by4 Ty.so4 E.mk21_1000001 E.mk21_1000000 loopN loops Try.f21
theorem e_optics_before (L : Nat) (hL : L ≤ 4611686018427387904) (a0 : Int) (a1 : Int) (res : Int) (h : p_optics_before L a0 a1 = some res) : evTop Try.prog (G_optics_before L) T_optics_before L 1 21 [.int .i64 a0, .int .i64 a1] = some [.int .i64 res] := by
  revert h
  unfold p_optics_before evTop
  simp only [List.map]
  rw [evF_s (fn := Try.f21) (msk := en21.ms) (hT := by rfl) (hb := by rfl)]
  refine ite_i (fun c1 => ?_) (fun c1 => ?_)
  · rintro ⟨⟩
    simp only [go_sem, *]
  · refine ite_i (fun c2 => ?_) (fun c2 => ?_)
    · rintro ⟨⟩
      simp only [go_sem, *]
    · refine ite_i (fun c3 => ?_) (fun c3 => ?_)
      · rintro ⟨⟩
        simp only [go_sem, *]
      · rintro ⟨⟩
        simp only [go_sem, *]
noncomputable def s_optics_before (L : Nat) : Ev.Spec := specP (cCons (cI .i64) (cCons (cI .i64) cNil)) (fun x => p_optics_before L x.1 x.2.1) (fun r => [.int .i64 r])
theorem s_optics_before_run (L : Nat) (a0 : Int) (a1 : Int) : (s_optics_before L).run [.int .i64 a0, .int .i64 a1] = (p_optics_before L a0 a1).map fun r => [.int .i64 r] := specP_run (cCons (cI .i64) (cCons (cI .i64) cNil)) (fun x => p_optics_before L x.1 x.2.1) (fun r => [.int .i64 r]) (a0, a1, ())
theorem ok_optics_before (L : Nat) (hL : L ≤ 4611686018427387904) : SpecOk Try.prog 21 (s_optics_before L) := specP_ok mixed (Go_optics_before L hL) (To_optics_before L) fun x r h => ⟨L, 1, e_optics_before L hL x.1 x.2.1 r h⟩
end Go.Proofs.Ytnopgienncmcmaa.P
end
section
set_option linter.unusedVariables false
set_option linter.unusedSimpArgs false
set_option maxRecDepth 100000
namespace Go.Proofs.Ytnopgienncmcmaa.P
open Go.Ev Go.IntKind Go.Proofs.Ytnopgienncmcmaa Go.Proofs.Ytnopgienncmcmaa.Ty Go.Proofs.Ytnopgienncmcmaa.E
def p_optics_Axis_l0 (L : Nat) (a1 : Int) (r2 : Int) (r3 : Int) (a5 : Int) (a6 : Int) : Nat → Int → (List (Int × Int × Unit)) → Option (List (Int × Int × Unit))
  | 0, _, _ => none
  | tl + 1, s13, s10 => if s13 ≤ (i64.wrap ((i64.wrap (r3 + a1)) + 1)) then (bnd (p_optics_before L (i64.wrap ((i64.wrap ((i64.wrap (16 * s13)) - r2)) + 16)) a5) fun r16 => bnd (p_optics_before L (i64.wrap ((i64.wrap (16 * s13)) - r2)) a5) fun r17 => if (i64.wrap (r16 - r17)) > 0 then (rq (s10.length + 1 ≤ maxRow) <| rq ((s10.length + 1) * 16 ≤ maxRow) <| p_optics_Axis_l0 L a1 r2 r3 a5 a6 tl (i64.wrap (s13 + 1)) (s10 ++ [(s13, (i64.wrap (a6 * (i64.wrap (r16 - r17)))), ())])) else (p_optics_Axis_l0 L a1 r2 r3 a5 a6 tl (i64.wrap (s13 + 1)) s10)) else (some s10)
def p_optics_Axis (L : Nat) (a0 : Int) (a1 : Int) : Option ((List (Int × Int × Unit)) × Int) := if a0 < (-65536) then (some (([] : List (Int × Int × Unit)), 4)) else (if a0 > 65536 then (some (([] : List (Int × Int × Unit)), 4)) else (bnd (p_optics_Reach L a1) fun r1 => cb (decide (r1 = 0)) (some (([] : List (Int × Int × Unit)), 1)) (bnd (p_num_FloorDiv L a0 16) fun r2 => bnd (p_num_FloorDiv L r2 16) fun r3 => rq (¬ (i64.wrap (a1 * a1)) = 0) <| bnd (p_optics_Axis_l0 L a1 r2 r3 (i64.wrap (16 * a1)) (i64.wrap ((16 : Int).tdiv (i64.wrap (a1 * a1)))) L (i64.wrap ((i64.wrap (r3 - a1)) - 1)) ([])) fun o18 => some (o18, 0))))
noncomputable def G_optics_Axis (L : Nat) : Specs := [(13, s_optics_Reach L), (20, s_num_FloorDiv L), (21, s_optics_before L)]
noncomputable def T_optics_Axis : Table := tableOf [(9, en9)]
theorem Go_optics_Axis (L : Nat) (hL : L ≤ 4611686018427387904) : ∀ g s, Ev.look (G_optics_Axis L) g = some s → SpecOk Try.prog g s := (specs_cons (ok_optics_Reach L hL) (specs_cons (ok_num_FloorDiv L hL) (specs_cons (ok_optics_before L hL) specs_nil)))
theorem To_optics_Axis (L : Nat) : TableOk Try.prog ((G_optics_Axis L).map (·.1)) T_optics_Axis := (table_cons Try.func9 (by kernel_rfl) (by kernel_rfl) table_nil)
theorem lk_optics_Axis_13 (L : Nat) : Ev.look (G_optics_Axis L) 13 = some (s_optics_Reach L) := nr rfl
theorem lk_optics_Axis_20 (L : Nat) : Ev.look (G_optics_Axis L) 20 = some (s_num_FloorDiv L) := nr rfl
theorem lk_optics_Axis_21 (L : Nat) : Ev.look (G_optics_Axis L) 21 = some (s_optics_before L) := nr rfl
attribute [local go_sem] Ty.tk2 Ty.ik2 Ty.ek2 Ty.zv2 Ty.by2 Ty.so2 Ty.tk3 Ty.ik3 Ty.ek3 Ty.zv3 Ty.by3 Ty.so3 Ty.tk4 Ty.ub4 Ty.ek4 Ty.zv4 Ty.by4 Ty.so4 Ty.tk24 Ty.ik24 Ty.ek24 Ty.zv24 Ty.by24 Ty.so24 Ty.tk30 Ty.ik30 Ty.ek30 Ty.zv30 Ty.by30 Ty.so30 Ty.tk31 Ty.zv31 Ty.by31 Ty.so31 Ty.tk35 Ty.ik35 Ty.ek35 Ty.zv35 Ty.by35 Ty.so35 Ty.tk37 Ty.ct37 Ty.ek37 Ty.zv37 Ty.by37 Ty.so37 Ty.k31_e Ty.k37_e E.dw9_7 E.kl9_7 E.nc9_7 E.mk9_1 E.mk9_1000001 E.mk9_1000002 E.mk9_1000003 E.mk9_1000000 E.fz9_1 E.fi9_1 E.lb9_1 lk_optics_Axis_13 lk_optics_Axis_20 lk_optics_Axis_21 s_optics_Reach_run s_num_FloorDiv_run s_optics_before_run loopN loops Try.f9
def Q0_p_optics_Axis_l0 (a1 : Int) (r2 : Int) (r3 : Int) (a5 : Int) (a6 : Int) (u : List (Int × Int × Unit)) (z : Out) : Prop := ∃ env st, z = some (.exit 1, env, st) ∧ env = sp 70 0 [(10, gl 37 (0, 68) (st (0, 68)).ver (rowV k37.e u))] ∧ GlB (st (0, 68)) 37 (rowV k37.e u)
abbrev Q_p_optics_Axis_l0 (a1 : Int) (r2 : Int) (r3 : Int) (a5 : Int) (a6 : Int) (o : List (Int × Int × Unit)) (z : Out) : Prop := Q0_p_optics_Axis_l0 a1 r2 r3 a5 a6 o z
theorem l_p_optics_Axis_l0 (L : Nat) (hL : L ≤ 4611686018427387904) (a1 : Int) (r2 : Int) (r3 : Int) (a5 : Int) (a6 : Int) : ∀ (n : Nat) (s13 : Int) (s10 : List (Int × Int × Unit)) (env : List V) (st : Store) (o : List (Int × Int × Unit)), mask (maskOf en9.ms 1) env = sp 70 0 [(1, .d (.int .i64 a1)), (6, .d (.int .i64 r2)), (7, .d (.int .i64 r3)), (8, .d (.int .i64 a5)), (9, .d (.int .i64 a6)), (10, gl 37 (0, 68) (st (0, 68)).ver (rowV k37.e s10)), (11, .d (.int .i64 s13))] → GlB (st (0, 68)) 37 (rowV k37.e s10) → p_optics_Axis_l0 L a1 r2 r3 a5 a6 n s13 s10 = some o →
    Q_p_optics_Axis_l0 a1 r2 r3 a5 a6 o (iter (evC Try.prog (G_optics_Axis L) (evF Try.prog (G_optics_Axis L) T_optics_Axis L 0) L en9.ms 0 1 lb9_1) (maskOf en9.ms 1) n env st) := by
  intro n
  induction n with
  | zero => intro s13 s10 env st o he hb0 h; cases h
  | succ n ih =>
    intro s13 s10 env st o he hb0 h
    replace ih : Hold _ := ih
    rw [iter, he]
    clear he
    generalize hK : iter _ _ n = K
    rw [p_optics_Axis_l0] at h
    revert h
    refine ite_i (fun c1 => ?_) (fun c1 => ?_)
    · refine bnd_i fun r16 c2 => ?_
      refine bnd_i fun r17 c3 => ?_
      refine ite_i (fun c4 => ?_) (fun c4 => ?_)
      · refine rq_i fun c5 => ?_
        refine rq_i fun c6 => ?_
        intro h
        simp only [go_sem, *]
        subst hK
        refine ih  (i64.wrap (s13 + 1)) (s10 ++ [(s13, (i64.wrap (a6 * (i64.wrap (r16 - r17)))), ())]) _ _ _ ?_ ?_ h
        all_goals simp only [go_sem, *]
      · intro h
        simp only [go_sem, *]
        subst hK
        refine ih  (i64.wrap (s13 + 1)) s10 _ _ _ ?_ ?_ h
        all_goals simp only [go_sem, *]
    · rintro ⟨⟩
      simp only [go_sem, *]
      refine (⟨_, _, rfl, ?_, ?_⟩ : Q0_p_optics_Axis_l0 _ _ _ _ _ _ _)
      all_goals simp only [go_sem, *]
theorem e_optics_Axis (L : Nat) (hL : L ≤ 4611686018427387904) (a0 : Int) (a1 : Int) (res : (List (Int × Int × Unit)) × Int) (h : p_optics_Axis L a0 a1 = some res) : evTop Try.prog (G_optics_Axis L) T_optics_Axis L 1 9 [.int .i64 a0, .int .i64 a1] = some [.sl 37 (res.1.map k37.e), .int .i64 res.2] := by
  revert h
  unfold p_optics_Axis evTop
  simp only [List.map]
  rw [evF_s (fn := Try.f9) (msk := en9.ms) (hT := by rfl) (hb := by rfl)]
  refine ite_i (fun c1 => ?_) (fun c1 => ?_)
  · rintro ⟨⟩
    simp only [go_sem, *]
  · refine ite_i (fun c2 => ?_) (fun c2 => ?_)
    · rintro ⟨⟩
      simp only [go_sem, *]
    · refine bnd_i fun r1 c3 => ?_
      refine cb_i (fun c4 => ?_) (fun c4 => ?_)
      · rintro ⟨⟩
        simp only [go_sem, *]
      · refine bnd_i fun r2 c5 => ?_
        refine bnd_i fun r3 c6 => ?_
        refine rq_i fun c7 => ?_
        refine bnd_i fun o18 ho8 => ?_
        intro h
        simp only [go_sem, *]
        generalize hz10 : iter _ _ _ _ _ = z9
        have hq11 : Q_p_optics_Axis_l0 a1 r2 r3 (i64.wrap (16 * a1)) (i64.wrap ((16 : Int).tdiv (i64.wrap (a1 * a1)))) o18 z9 := by
          rw [← hz10]
          refine l_p_optics_Axis_l0 L hL a1 r2 r3 (i64.wrap (16 * a1)) (i64.wrap ((16 : Int).tdiv (i64.wrap (a1 * a1)))) L (i64.wrap ((i64.wrap (r3 - a1)) - 1)) ([]) _ _ _  ?_ ?_ ho8
          all_goals simp only [go_sem, *]
        clear hz10 ho8
        obtain ⟨_, st19, rfl, rfl, k12⟩ := hq11
        revert h
        rintro ⟨⟩
        simp only [go_sem, *]
noncomputable def s_optics_Axis (L : Nat) : Ev.Spec := specP (cCons (cI .i64) (cCons (cI .i64) cNil)) (fun x => p_optics_Axis L x.1 x.2.1) (fun r => [.sl 37 (r.1.map k37.e), .int .i64 r.2])
theorem s_optics_Axis_run (L : Nat) (a0 : Int) (a1 : Int) : (s_optics_Axis L).run [.int .i64 a0, .int .i64 a1] = (p_optics_Axis L a0 a1).map fun r => [.sl 37 (r.1.map k37.e), .int .i64 r.2] := specP_run (cCons (cI .i64) (cCons (cI .i64) cNil)) (fun x => p_optics_Axis L x.1 x.2.1) (fun r => [.sl 37 (r.1.map k37.e), .int .i64 r.2]) (a0, a1, ())
theorem ok_optics_Axis (L : Nat) (hL : L ≤ 4611686018427387904) : SpecOk Try.prog 9 (s_optics_Axis L) := specP_ok mixed (Go_optics_Axis L hL) (To_optics_Axis L) fun x r h => ⟨L, 1, e_optics_Axis L hL x.1 x.2.1 r h⟩
end Go.Proofs.Ytnopgienncmcmaa.P
end
end
