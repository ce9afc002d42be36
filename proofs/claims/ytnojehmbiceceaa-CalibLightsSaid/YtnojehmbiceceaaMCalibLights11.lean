/- Parts of one proof, joined: G246, E247, G247, G160, E161, G161, G72, E73, G73, E76, E164, G164, E165, G165. -/
import Derived.Test.YtnojehmbiceceaaMCalibLights10
import Derived.Test.YtnojehmbiceceaaProg
section
set_option linter.unusedVariables false
set_option linter.unusedSimpArgs false
set_option maxRecDepth 100000
namespace Go.Proofs.Ytnojehmbiceceaa.P
open Go.Ev Go.IntKind Go.Proofs.Ytnojehmbiceceaa Go.Proofs.Ytnojehmbiceceaa.Ty Go.Proofs.Ytnojehmbiceceaa.E
def p_slices_Min_Light_l0 (L : Nat) (a0 : List Int) : Nat → Int → Int → Option Int
  | 0, _, _ => none
  | tl + 1, s4, s5 => if s5 < (a0.length : Int) then (bnd (idx a0 s5) fun x7 => p_slices_Min_Light_l0 L a0 tl (minI s4 x7) (i64.wrap (s5 + 1))) else (some s4)
def p_slices_Min_Light (L : Nat) (a0 : List Int) : Option Int := if (a0.length : Int) < 1 then (none) else (bnd (idx a0 0) fun x1 => bnd (p_slices_Min_Light_l0 L a0 L x1 1) fun o8 => some o8)
attribute [local go_sem] Ev.putR_s Ev.putR_0 Ev.thenO_s Ev.thenO_0 Ev.seqR_n Ev.seqR_e Ev.seqR_r Ev.seqR_0 Ev.blkR_e Ev.blkR_n Ev.blkR_r Ev.blkR_0 Ev.normR_s Ev.normR_0 Ev.outR_r Ev.outR_n Ev.outR_0 Ev.retS_s Ev.retS_0 Ev.pureO_s Ev.pureO_0 Ev.topR_0 Ev.topR_t Ev.topR_t0 Ev.oneL_0 Ev.oneL_s Ev.topR_d Ev.topR_nils Ev.topR_agg Ev.topR_rs Ev.evOp_move Ev.evOp_assign Ev.evOp_pick Ev.evOp_alloc Ev.evOp_box Ev.evOp_build Ev.evOp_buildSlice Ev.evOp_load Ev.evOp_store Ev.evOp_makeMap Ev.evOp_lookup Ev.evOp_mapUpdate Ev.evOp_insert Ev.evOp_nilCheck Ev.evOp_binOp Ev.evOp_unOp Ev.evOp_convert Ev.evOp_makeFunc Ev.evOp_makeSlice Ev.evOp_slice Ev.evOp_fieldAddr Ev.evOp_field Ev.evOp_indexAddr Ev.evOp_index Ev.evOp_extract Ev.evOp_call Ev.evOp_append Ev.evOp_clear Ev.evOp_len Ev.evOp_min Ev.evOp_max Ev.condR_b Ev.condR_t Ev.evOps_nil Ev.evOps_plain Ev.evOps_guard Ev.runG_eq Ev.skipG_eq Ev.condL_tt Ev.condL_ff Ev.condL_tf Ev.condL_ft Ev.condL_u Ev.condC_t Ev.condC_f Ev.evC_skip Ev.evC_ret Ev.evC_exit Ev.evC_label Ev.evC_region Ev.evC_draw Ev.evC_seq Ev.evC_cond Ev.evC_block Ev.evC_loop Ev.fin_d Ev.fin_nils Ev.fin_agg_ Ev.fin_rs Ev.finS_s Ev.mapO_fin Ev.upd_upd Ev.argv_d Ev.argv_nils Ev.argv_agg Ev.argv_rs Ev.argv_p Ev.fk_low Ev.appendTo_nils Ev.appendTo_rs Ev.consV_d Ev.consV_agg Ev.consV_p Ev.consV_rs Ev.consV_nils Ev.consV_fn Ev.consV_und Ev.consV_jk Ev.consV_grown Ev.topR_grown Ev.len_grown Ev.consV_mp Ev.sameK_i Ev.sameK_s Ev.mget_0 Ev.mget_hit Ev.mget_miss Ev.mput_0 Ev.mput_hit Ev.mput_miss Ev.apartAll Ev.apartL Ev.apartV Ev.freeAll Ev.sel Ev.keyOfV Ev.evLookup Ev.evPut Ev.hintOk Ev.keyOk Ev.consP Ev.lookV Ev.guardV Ev.dstAt Ev.evPure Ev.evStore Ev.evBin Ev.evBinO Ev.evNil Ev.isNilC Ev.evUn Ev.evConv Ev.evSlice Ev.optI Ev.foldI Ev.capsOk Ev.noTup Ev.nth Ev.setN Ev.killAt Ev.pad Ev.V.get Ev.V.put Ev.putD Ev.newBlk Ev.upd Ev.keq Ev.empty Ev.evCall Ev.V.args Ev.argP Ev.callOf Ev.evNilP Ev.isNilP Ev.look Ev.V.view.views Ev.V.view Ev.V.toD Ev.V.toD.V.toDs Ev.V.pure.pures Ev.V.pure Ev.D.flat.flats Ev.D.flat Ev.mkAgg Ev.allD Ev.aggParts Ev.setParts Ev.setElems Ev.getPath Ev.setPath Ev.subL Ev.eqD Ev.eqD.eqDs Ev.and2 Ev.strCut Ev.evalT Ev.constT Ev.evArgs Ev.mask Ev.maskOf Ev.tableOf Ev.compT Ev.resV Ev.retV Ev.mapO Ev.frzO_n Ev.frzO_e Ev.frzO_r Ev.frzO_0 Ev.mb_z Ev.mb_0 Ev.mb_s Ev.frzL_t Ev.frzL_f Ev.frzL_0 Ev.frzT_nils Ev.frzT_rs Ev.frzT_p Ev.frzK_i Ev.keyIn_i Ev.rI_nil Ev.rI_cons Ev.rI_row Ev.rI_app Ev.r_d Ev.r_nils Ev.r_agg Ev.r_rs Ev.r_gl Ev.vw_row Ev.vw_app Ev.appO_s Ev.frzT_gl Ev.allD_gl Ev.killAt_i Ev.tkOne_i Ev.hT_agg Ev.hT_vagg Ev.hT_int Ev.hT_bool Ev.hT_str Ev.hT_sl Ev.hT_ptr Ev.hT_np Ev.hT_p Ev.hT_rs Ev.hT_mp Ev.hT_nils Ev.hT_fn Ev.hT_jk Ev.hT_gl Ev.eO_sl Ev.eO_nils Ev.eO_rs Ev.eT_sl Ev.eT_rs Ev.pL_str Ev.pL_sl Ev.pL_rs Ev.pL_nils Ev.pL_min Ev.pL_max Ev.len_glB Ev.noTup_gl Ev.rowV_len Ev.rowV_nil Ev.rowV_cons Ev.rowV_append Ev.rowV_set Ev.rowV_replicate Ev.nth_row Ev.row_take Ev.row_drop Ev.toDs_row Ev.fin_row Ev.map_row Ev.map_take_ Ev.map_drop_ Ev.Bk_i Ev.GlB_0 Ev.GlB_mk Ev.gl_nil Ev.gl_cons Ev.gl_snoc Ev.gl_setN Ev.appendTo_gl Ev.consV_gl Ev.elems_gl Ev.fin_gl Ev.view_gl Ev.argv_gl Ev.topR_gl Ev.sp_z Ev.sp_0 Ev.sp_s Ev.km_z Ev.km_0 Ev.km_s Ev.beq_toList Ev.nc0 Ev.bq_t Ev.bq_f Ev.bodyN Ev.le_maxRow Int.cast_ofNat_Int IntWalk.i64_in IntWalk.u64_in IntWalk.u8_in beq_self_eq_true Bool.true_beq Bool.false_beq Bool.and_true Bool.true_and Bool.false_and Bool.and_false Bool.and_self Bool.not_true Bool.not_false Bool.not_eq_true cond_true cond_false if_true if_false and_true true_and and_self decide_true decide_false Bool.or_true Bool.true_or Bool.or_false Bool.false_or List.isEmpty List.isEmpty_nil List.size_toArray List.map List.length_map List.length_cons List.length_nil Option.map Option.bind Option.getD Option.isSome List.replicate Bool.false_eq_true implies_true false_implies forall_const Array.toList Array.isEmpty List.append List.nil_append List.cons_append List.drop_zero List.take_length List.take_succ_cons List.take_zero List.take_nil List.getElem?_map List.getElem?_cons_zero List.getElem?_cons_succ List.getElem?_nil List.append_nil eq_self Int.toNat_natCast List.length_append Nat.zero_add Nat.add_zero List.length_replicate Nat.sub_zero Option.map_some Option.map_none Int.le_refl Nat.le_refl Int.natCast_nonneg List.map_append
noncomputable def G_slices_Min_Light (L : Nat) : Specs := []
noncomputable def T_slices_Min_Light : Table := tableOf [(246, en246)]
theorem Go_slices_Min_Light (L : Nat) (hL : L ≤ 4611686018427387904) : ∀ g s, Ev.look (G_slices_Min_Light L) g = some s → SpecOk Try.prog g s := specs_nil
theorem To_slices_Min_Light (L : Nat) : TableOk Try.prog ((G_slices_Min_Light L).map (·.1)) T_slices_Min_Light := (table_cons Try.func246 (by kernel_rfl) (by kernel_rfl) table_nil)
attribute [local go_sem] Ty.tk3 Ty.ik3 Ty.ek3 Ty.zv3 Ty.by3 Ty.so3 Ty.tk4 Ty.ub4 Ty.ek4 Ty.zv4 Ty.by4 Ty.so4 Ty.tk20 Ty.by20 Ty.so20 Ty.tk23 Ty.zv23 Ty.by23 Ty.so23 Ty.tk32 Ty.ik32 Ty.ek32 Ty.zv32 Ty.by32 Ty.so32 Ty.k23_e E.mk246_0 E.mk246_1000001 E.mk246_1000002 E.mk246_1000000 E.fz246_0 E.lb246_0 loopN loops Try.f246
def Q0_p_slices_Min_Light_l0 (a0 : List Int) (u : Int) (z : Out) : Prop := ∃ env st, z = some (.exit 0, env, st) ∧ env = sp 25 0 [(3, .d (.int .i64 u))]
abbrev Q_p_slices_Min_Light_l0 (a0 : List Int) (o : Int) (z : Out) : Prop := Q0_p_slices_Min_Light_l0 a0 o z
theorem l_p_slices_Min_Light_l0 (L : Nat) (hL : L ≤ 4611686018427387904) (a0 : List Int) : ∀ (n : Nat) (s4 : Int) (s5 : Int) (env : List V) (st : Store) (o : Int), mask (maskOf en246.ms 0) env = sp 25 0 [(0, .d (.sl 32 (a0.map (D.int .i64)))), (3, .d (.int .i64 s4)), (4, .d (.int .i64 s5))] → p_slices_Min_Light_l0 L a0 n s4 s5 = some o →
    Q_p_slices_Min_Light_l0 a0 o (iter (evC Try.prog (G_slices_Min_Light L) (evF Try.prog (G_slices_Min_Light L) T_slices_Min_Light L 0) L en246.ms 0 0 lb246_0) (maskOf en246.ms 0) n env st) := by
  intro n
  induction n with
  | zero => intro s4 s5 env st o he  h; cases h
  | succ n ih =>
    intro s4 s5 env st o he  h
    replace ih : Hold _ := ih
    rw [iter, he]
    clear he
    generalize hK : iter _ _ n = K
    rw [p_slices_Min_Light_l0] at h
    revert h
    refine ite_i (fun c1 => ?_) (fun c1 => ?_)
    · refine idx_i fun x7 c2 c3 c4 => ?_
      intro h
      simp only [go_sem, Nat.reduceAdd, Nat.reduceSub, Nat.reduceMul, Nat.reduceEqDiff, Nat.reduceBEq, Nat.reduceLT, Nat.reduceLeDiff, Nat.reducePow, Int.reduceToNat, Int.reduceLT, Int.reduceLE, Int.reduceGT, Int.reduceGE, Int.reduceEq, Int.reduceNeg, Int.reduceAdd, Int.reduceSub, Int.reduceMul, ↓reduceIte, reduceCtorEq, *]
      subst hK
      refine ih  (minI s4 x7) (i64.wrap (s5 + 1)) _ _ _ ?_ h
      all_goals simp only [go_sem, Nat.reduceAdd, Nat.reduceSub, Nat.reduceMul, Nat.reduceEqDiff, Nat.reduceBEq, Nat.reduceLT, Nat.reduceLeDiff, Nat.reducePow, Int.reduceToNat, Int.reduceLT, Int.reduceLE, Int.reduceGT, Int.reduceGE, Int.reduceEq, Int.reduceNeg, Int.reduceAdd, Int.reduceSub, Int.reduceMul, ↓reduceIte, reduceCtorEq, *]
    · rintro ⟨⟩
      simp only [go_sem, Nat.reduceAdd, Nat.reduceSub, Nat.reduceMul, Nat.reduceEqDiff, Nat.reduceBEq, Nat.reduceLT, Nat.reduceLeDiff, Nat.reducePow, Int.reduceToNat, Int.reduceLT, Int.reduceLE, Int.reduceGT, Int.reduceGE, Int.reduceEq, Int.reduceNeg, Int.reduceAdd, Int.reduceSub, Int.reduceMul, ↓reduceIte, reduceCtorEq, *]
      refine (⟨_, _, rfl, ?_⟩ : Q0_p_slices_Min_Light_l0 a0 _ _)
      all_goals simp only [go_sem, Nat.reduceAdd, Nat.reduceSub, Nat.reduceMul, Nat.reduceEqDiff, Nat.reduceBEq, Nat.reduceLT, Nat.reduceLeDiff, Nat.reducePow, Int.reduceToNat, Int.reduceLT, Int.reduceLE, Int.reduceGT, Int.reduceGE, Int.reduceEq, Int.reduceNeg, Int.reduceAdd, Int.reduceSub, Int.reduceMul, ↓reduceIte, reduceCtorEq, *]
theorem e_slices_Min_Light (L : Nat) (hL : L ≤ 4611686018427387904) (a0 : List Int) (res : Int) (h : p_slices_Min_Light L a0 = some res) : evTop Try.prog (G_slices_Min_Light L) T_slices_Min_Light L 1 246 [.sl 32 (a0.map (D.int .i64))] = some [.int .i64 res] := by
  revert h
  unfold p_slices_Min_Light evTop
  simp only [List.map]
  rw [evF_s (fn := Try.f246) (msk := en246.ms) (hT := by rfl) (hb := by rfl)]
  refine ite_i (fun c1 => ?_) (fun c1 => ?_)
  · intro h; cases h
  · refine idx_i fun x1 c2 c3 c4 => ?_
    have c4 : a0[0]? = some x1 := c4
    refine bnd_i fun o8 ho5 => ?_
    intro h
    simp only [go_sem, Nat.reduceAdd, Nat.reduceSub, Nat.reduceMul, Nat.reduceEqDiff, Nat.reduceBEq, Nat.reduceLT, Nat.reduceLeDiff, Nat.reducePow, Int.reduceToNat, Int.reduceLT, Int.reduceLE, Int.reduceGT, Int.reduceGE, Int.reduceEq, Int.reduceNeg, Int.reduceAdd, Int.reduceSub, Int.reduceMul, ↓reduceIte, reduceCtorEq, *]
    generalize hz7 : iter _ _ _ _ _ = z6
    have hq8 : Q_p_slices_Min_Light_l0 a0 o8 z6 := by
      rw [← hz7]
      refine l_p_slices_Min_Light_l0 L hL a0 L x1 1 _ _ _  ?_ ho5
      all_goals simp only [go_sem, Nat.reduceAdd, Nat.reduceSub, Nat.reduceMul, Nat.reduceEqDiff, Nat.reduceBEq, Nat.reduceLT, Nat.reduceLeDiff, Nat.reducePow, Int.reduceToNat, Int.reduceLT, Int.reduceLE, Int.reduceGT, Int.reduceGE, Int.reduceEq, Int.reduceNeg, Int.reduceAdd, Int.reduceSub, Int.reduceMul, ↓reduceIte, reduceCtorEq, *]
    clear hz7 ho5
    obtain ⟨_, st9, rfl, rfl⟩ := hq8
    revert h
    rintro ⟨⟩
    simp only [go_sem, Nat.reduceAdd, Nat.reduceSub, Nat.reduceMul, Nat.reduceEqDiff, Nat.reduceBEq, Nat.reduceLT, Nat.reduceLeDiff, Nat.reducePow, Int.reduceToNat, Int.reduceLT, Int.reduceLE, Int.reduceGT, Int.reduceGE, Int.reduceEq, Int.reduceNeg, Int.reduceAdd, Int.reduceSub, Int.reduceMul, ↓reduceIte, reduceCtorEq, *]
noncomputable def s_slices_Min_Light (L : Nat) : Ev.Spec := specP (cCons k23 cNil) (fun x => p_slices_Min_Light L x.1) (fun r => [.int .i64 r])
theorem s_slices_Min_Light_run (L : Nat) (a0 : List Int) : (s_slices_Min_Light L).run [.sl 32 (a0.map (D.int .i64))] = (p_slices_Min_Light L a0).map fun r => [.int .i64 r] := specP_run (cCons k23 cNil) (fun x => p_slices_Min_Light L x.1) (fun r => [.int .i64 r]) (a0, ())
theorem ok_slices_Min_Light (L : Nat) (hL : L ≤ 4611686018427387904) : SpecOk Try.prog 246 (s_slices_Min_Light L) := specP_ok mixed (Go_slices_Min_Light L hL) (To_slices_Min_Light L) fun x r h => ⟨L, 1, e_slices_Min_Light L hL x.1 r h⟩
end Go.Proofs.Ytnojehmbiceceaa.P
end
section
set_option linter.unusedVariables false
set_option linter.unusedSimpArgs false
set_option maxRecDepth 100000
namespace Go.Proofs.Ytnojehmbiceceaa.E
open Go.Ev
noncomputable def en247 : Entry := ⟨Try.f247, [(0, mb 25 0 [0, 3, 4]), (1000001, mb 25 0 [3]), (1000002, mb 25 0 [0, 3, 4]), (1000000, mb 25 0 [2])]⟩
theorem mk247_0 (vs : List V) : mask (maskOf en247.ms 0) vs = km 25 0 [0, 3, 4] vs := mask_mb _ _ _ _
theorem mk247_1000001 (vs : List V) : mask (maskOf en247.ms 1000001) vs = km 25 0 [3] vs := mask_mb _ _ _ _
theorem mk247_1000002 (vs : List V) : mask (maskOf en247.ms 1000002) vs = km 25 0 [0, 3, 4] vs := mask_mb _ _ _ _
theorem mk247_1000000 (vs : List V) : mask (maskOf en247.ms 1000000) vs = km 25 0 [2] vs := mask_mb _ _ _ _
theorem fz247_0 (lv : Nat) (f : Run) : frzF en247.ms lv 0 f = f := nr rfl
noncomputable def lb247_0 : Code := loopN Try.f247 0
end Go.Proofs.Ytnojehmbiceceaa.E
end
section
set_option linter.unusedVariables false
set_option linter.unusedSimpArgs false
set_option maxRecDepth 100000
namespace Go.Proofs.Ytnojehmbiceceaa.P
open Go.Ev Go.IntKind Go.Proofs.Ytnojehmbiceceaa Go.Proofs.Ytnojehmbiceceaa.Ty Go.Proofs.Ytnojehmbiceceaa.E
def p_slices_Max_Light_l0 (L : Nat) (a0 : List Int) : Nat → Int → Int → Option Int
  | 0, _, _ => none
  | tl + 1, s4, s5 => if s5 < (a0.length : Int) then (bnd (idx a0 s5) fun x7 => p_slices_Max_Light_l0 L a0 tl (maxI s4 x7) (i64.wrap (s5 + 1))) else (some s4)
def p_slices_Max_Light (L : Nat) (a0 : List Int) : Option Int := if (a0.length : Int) < 1 then (none) else (bnd (idx a0 0) fun x1 => bnd (p_slices_Max_Light_l0 L a0 L x1 1) fun o8 => some o8)
attribute [local go_sem] Ev.putR_s Ev.putR_0 Ev.thenO_s Ev.thenO_0 Ev.seqR_n Ev.seqR_e Ev.seqR_r Ev.seqR_0 Ev.blkR_e Ev.blkR_n Ev.blkR_r Ev.blkR_0 Ev.normR_s Ev.normR_0 Ev.outR_r Ev.outR_n Ev.outR_0 Ev.retS_s Ev.retS_0 Ev.pureO_s Ev.pureO_0 Ev.topR_0 Ev.topR_t Ev.topR_t0 Ev.oneL_0 Ev.oneL_s Ev.topR_d Ev.topR_nils Ev.topR_agg Ev.topR_rs Ev.evOp_move Ev.evOp_assign Ev.evOp_pick Ev.evOp_alloc Ev.evOp_box Ev.evOp_build Ev.evOp_buildSlice Ev.evOp_load Ev.evOp_store Ev.evOp_makeMap Ev.evOp_lookup Ev.evOp_mapUpdate Ev.evOp_insert Ev.evOp_nilCheck Ev.evOp_binOp Ev.evOp_unOp Ev.evOp_convert Ev.evOp_makeFunc Ev.evOp_makeSlice Ev.evOp_slice Ev.evOp_fieldAddr Ev.evOp_field Ev.evOp_indexAddr Ev.evOp_index Ev.evOp_extract Ev.evOp_call Ev.evOp_append Ev.evOp_clear Ev.evOp_len Ev.evOp_min Ev.evOp_max Ev.condR_b Ev.condR_t Ev.evOps_nil Ev.evOps_plain Ev.evOps_guard Ev.runG_eq Ev.skipG_eq Ev.condL_tt Ev.condL_ff Ev.condL_tf Ev.condL_ft Ev.condL_u Ev.condC_t Ev.condC_f Ev.evC_skip Ev.evC_ret Ev.evC_exit Ev.evC_label Ev.evC_region Ev.evC_draw Ev.evC_seq Ev.evC_cond Ev.evC_block Ev.evC_loop Ev.fin_d Ev.fin_nils Ev.fin_agg_ Ev.fin_rs Ev.finS_s Ev.mapO_fin Ev.upd_upd Ev.argv_d Ev.argv_nils Ev.argv_agg Ev.argv_rs Ev.argv_p Ev.fk_low Ev.appendTo_nils Ev.appendTo_rs Ev.consV_d Ev.consV_agg Ev.consV_p Ev.consV_rs Ev.consV_nils Ev.consV_fn Ev.consV_und Ev.consV_jk Ev.consV_grown Ev.topR_grown Ev.len_grown Ev.consV_mp Ev.sameK_i Ev.sameK_s Ev.mget_0 Ev.mget_hit Ev.mget_miss Ev.mput_0 Ev.mput_hit Ev.mput_miss Ev.apartAll Ev.apartL Ev.apartV Ev.freeAll Ev.sel Ev.keyOfV Ev.evLookup Ev.evPut Ev.hintOk Ev.keyOk Ev.consP Ev.lookV Ev.guardV Ev.dstAt Ev.evPure Ev.evStore Ev.evBin Ev.evBinO Ev.evNil Ev.isNilC Ev.evUn Ev.evConv Ev.evSlice Ev.optI Ev.foldI Ev.capsOk Ev.noTup Ev.nth Ev.setN Ev.killAt Ev.pad Ev.V.get Ev.V.put Ev.putD Ev.newBlk Ev.upd Ev.keq Ev.empty Ev.evCall Ev.V.args Ev.argP Ev.callOf Ev.evNilP Ev.isNilP Ev.look Ev.V.view.views Ev.V.view Ev.V.toD Ev.V.toD.V.toDs Ev.V.pure.pures Ev.V.pure Ev.D.flat.flats Ev.D.flat Ev.mkAgg Ev.allD Ev.aggParts Ev.setParts Ev.setElems Ev.getPath Ev.setPath Ev.subL Ev.eqD Ev.eqD.eqDs Ev.and2 Ev.strCut Ev.evalT Ev.constT Ev.evArgs Ev.mask Ev.maskOf Ev.tableOf Ev.compT Ev.resV Ev.retV Ev.mapO Ev.frzO_n Ev.frzO_e Ev.frzO_r Ev.frzO_0 Ev.mb_z Ev.mb_0 Ev.mb_s Ev.frzL_t Ev.frzL_f Ev.frzL_0 Ev.frzT_nils Ev.frzT_rs Ev.frzT_p Ev.frzK_i Ev.keyIn_i Ev.rI_nil Ev.rI_cons Ev.rI_row Ev.rI_app Ev.r_d Ev.r_nils Ev.r_agg Ev.r_rs Ev.r_gl Ev.vw_row Ev.vw_app Ev.appO_s Ev.frzT_gl Ev.allD_gl Ev.killAt_i Ev.tkOne_i Ev.hT_agg Ev.hT_vagg Ev.hT_int Ev.hT_bool Ev.hT_str Ev.hT_sl Ev.hT_ptr Ev.hT_np Ev.hT_p Ev.hT_rs Ev.hT_mp Ev.hT_nils Ev.hT_fn Ev.hT_jk Ev.hT_gl Ev.eO_sl Ev.eO_nils Ev.eO_rs Ev.eT_sl Ev.eT_rs Ev.pL_str Ev.pL_sl Ev.pL_rs Ev.pL_nils Ev.pL_min Ev.pL_max Ev.len_glB Ev.noTup_gl Ev.rowV_len Ev.rowV_nil Ev.rowV_cons Ev.rowV_append Ev.rowV_set Ev.rowV_replicate Ev.nth_row Ev.row_take Ev.row_drop Ev.toDs_row Ev.fin_row Ev.map_row Ev.map_take_ Ev.map_drop_ Ev.Bk_i Ev.GlB_0 Ev.GlB_mk Ev.gl_nil Ev.gl_cons Ev.gl_snoc Ev.gl_setN Ev.appendTo_gl Ev.consV_gl Ev.elems_gl Ev.fin_gl Ev.view_gl Ev.argv_gl Ev.topR_gl Ev.sp_z Ev.sp_0 Ev.sp_s Ev.km_z Ev.km_0 Ev.km_s Ev.beq_toList Ev.nc0 Ev.bq_t Ev.bq_f Ev.bodyN Ev.le_maxRow Int.cast_ofNat_Int IntWalk.i64_in IntWalk.u64_in IntWalk.u8_in beq_self_eq_true Bool.true_beq Bool.false_beq Bool.and_true Bool.true_and Bool.false_and Bool.and_false Bool.and_self Bool.not_true Bool.not_false Bool.not_eq_true cond_true cond_false if_true if_false and_true true_and and_self decide_true decide_false Bool.or_true Bool.true_or Bool.or_false Bool.false_or List.isEmpty List.isEmpty_nil List.size_toArray List.map List.length_map List.length_cons List.length_nil Option.map Option.bind Option.getD Option.isSome List.replicate Bool.false_eq_true implies_true false_implies forall_const Array.toList Array.isEmpty List.append List.nil_append List.cons_append List.drop_zero List.take_length List.take_succ_cons List.take_zero List.take_nil List.getElem?_map List.getElem?_cons_zero List.getElem?_cons_succ List.getElem?_nil List.append_nil eq_self Int.toNat_natCast List.length_append Nat.zero_add Nat.add_zero List.length_replicate Nat.sub_zero Option.map_some Option.map_none Int.le_refl Nat.le_refl Int.natCast_nonneg List.map_append
noncomputable def G_slices_Max_Light (L : Nat) : Specs := []
noncomputable def T_slices_Max_Light : Table := tableOf [(247, en247)]
theorem Go_slices_Max_Light (L : Nat) (hL : L ≤ 4611686018427387904) : ∀ g s, Ev.look (G_slices_Max_Light L) g = some s → SpecOk Try.prog g s := specs_nil
theorem To_slices_Max_Light (L : Nat) : TableOk Try.prog ((G_slices_Max_Light L).map (·.1)) T_slices_Max_Light := (table_cons Try.func247 (by kernel_rfl) (by kernel_rfl) table_nil)
attribute [local go_sem] Ty.tk3 Ty.ik3 Ty.ek3 Ty.zv3 Ty.by3 Ty.so3 Ty.tk4 Ty.ub4 Ty.ek4 Ty.zv4 Ty.by4 Ty.so4 Ty.tk20 Ty.by20 Ty.so20 Ty.tk23 Ty.zv23 Ty.by23 Ty.so23 Ty.tk32 Ty.ik32 Ty.ek32 Ty.zv32 Ty.by32 Ty.so32 Ty.k23_e E.mk247_0 E.mk247_1000001 E.mk247_1000002 E.mk247_1000000 E.fz247_0 E.lb247_0 loopN loops Try.f247
def Q0_p_slices_Max_Light_l0 (a0 : List Int) (u : Int) (z : Out) : Prop := ∃ env st, z = some (.exit 0, env, st) ∧ env = sp 25 0 [(3, .d (.int .i64 u))]
abbrev Q_p_slices_Max_Light_l0 (a0 : List Int) (o : Int) (z : Out) : Prop := Q0_p_slices_Max_Light_l0 a0 o z
theorem l_p_slices_Max_Light_l0 (L : Nat) (hL : L ≤ 4611686018427387904) (a0 : List Int) : ∀ (n : Nat) (s4 : Int) (s5 : Int) (env : List V) (st : Store) (o : Int), mask (maskOf en247.ms 0) env = sp 25 0 [(0, .d (.sl 32 (a0.map (D.int .i64)))), (3, .d (.int .i64 s4)), (4, .d (.int .i64 s5))] → p_slices_Max_Light_l0 L a0 n s4 s5 = some o →
    Q_p_slices_Max_Light_l0 a0 o (iter (evC Try.prog (G_slices_Max_Light L) (evF Try.prog (G_slices_Max_Light L) T_slices_Max_Light L 0) L en247.ms 0 0 lb247_0) (maskOf en247.ms 0) n env st) := by
  intro n
  induction n with
  | zero => intro s4 s5 env st o he  h; cases h
  | succ n ih =>
    intro s4 s5 env st o he  h
    replace ih : Hold _ := ih
    rw [iter, he]
    clear he
    generalize hK : iter _ _ n = K
    rw [p_slices_Max_Light_l0] at h
    revert h
    refine ite_i (fun c1 => ?_) (fun c1 => ?_)
    · refine idx_i fun x7 c2 c3 c4 => ?_
      intro h
      simp only [go_sem, Nat.reduceAdd, Nat.reduceSub, Nat.reduceMul, Nat.reduceEqDiff, Nat.reduceBEq, Nat.reduceLT, Nat.reduceLeDiff, Nat.reducePow, Int.reduceToNat, Int.reduceLT, Int.reduceLE, Int.reduceGT, Int.reduceGE, Int.reduceEq, Int.reduceNeg, Int.reduceAdd, Int.reduceSub, Int.reduceMul, ↓reduceIte, reduceCtorEq, *]
      subst hK
      refine ih  (maxI s4 x7) (i64.wrap (s5 + 1)) _ _ _ ?_ h
      all_goals simp only [go_sem, Nat.reduceAdd, Nat.reduceSub, Nat.reduceMul, Nat.reduceEqDiff, Nat.reduceBEq, Nat.reduceLT, Nat.reduceLeDiff, Nat.reducePow, Int.reduceToNat, Int.reduceLT, Int.reduceLE, Int.reduceGT, Int.reduceGE, Int.reduceEq, Int.reduceNeg, Int.reduceAdd, Int.reduceSub, Int.reduceMul, ↓reduceIte, reduceCtorEq, *]
    · rintro ⟨⟩
      simp only [go_sem, Nat.reduceAdd, Nat.reduceSub, Nat.reduceMul, Nat.reduceEqDiff, Nat.reduceBEq, Nat.reduceLT, Nat.reduceLeDiff, Nat.reducePow, Int.reduceToNat, Int.reduceLT, Int.reduceLE, Int.reduceGT, Int.reduceGE, Int.reduceEq, Int.reduceNeg, Int.reduceAdd, Int.reduceSub, Int.reduceMul, ↓reduceIte, reduceCtorEq, *]
      refine (⟨_, _, rfl, ?_⟩ : Q0_p_slices_Max_Light_l0 a0 _ _)
      all_goals simp only [go_sem, Nat.reduceAdd, Nat.reduceSub, Nat.reduceMul, Nat.reduceEqDiff, Nat.reduceBEq, Nat.reduceLT, Nat.reduceLeDiff, Nat.reducePow, Int.reduceToNat, Int.reduceLT, Int.reduceLE, Int.reduceGT, Int.reduceGE, Int.reduceEq, Int.reduceNeg, Int.reduceAdd, Int.reduceSub, Int.reduceMul, ↓reduceIte, reduceCtorEq, *]
theorem e_slices_Max_Light (L : Nat) (hL : L ≤ 4611686018427387904) (a0 : List Int) (res : Int) (h : p_slices_Max_Light L a0 = some res) : evTop Try.prog (G_slices_Max_Light L) T_slices_Max_Light L 1 247 [.sl 32 (a0.map (D.int .i64))] = some [.int .i64 res] := by
  revert h
  unfold p_slices_Max_Light evTop
  simp only [List.map]
  rw [evF_s (fn := Try.f247) (msk := en247.ms) (hT := by rfl) (hb := by rfl)]
  refine ite_i (fun c1 => ?_) (fun c1 => ?_)
  · intro h; cases h
  · refine idx_i fun x1 c2 c3 c4 => ?_
    have c4 : a0[0]? = some x1 := c4
    refine bnd_i fun o8 ho5 => ?_
    intro h
    simp only [go_sem, Nat.reduceAdd, Nat.reduceSub, Nat.reduceMul, Nat.reduceEqDiff, Nat.reduceBEq, Nat.reduceLT, Nat.reduceLeDiff, Nat.reducePow, Int.reduceToNat, Int.reduceLT, Int.reduceLE, Int.reduceGT, Int.reduceGE, Int.reduceEq, Int.reduceNeg, Int.reduceAdd, Int.reduceSub, Int.reduceMul, ↓reduceIte, reduceCtorEq, *]
    generalize hz7 : iter _ _ _ _ _ = z6
    have hq8 : Q_p_slices_Max_Light_l0 a0 o8 z6 := by
      rw [← hz7]
      refine l_p_slices_Max_Light_l0 L hL a0 L x1 1 _ _ _  ?_ ho5
      all_goals simp only [go_sem, Nat.reduceAdd, Nat.reduceSub, Nat.reduceMul, Nat.reduceEqDiff, Nat.reduceBEq, Nat.reduceLT, Nat.reduceLeDiff, Nat.reducePow, Int.reduceToNat, Int.reduceLT, Int.reduceLE, Int.reduceGT, Int.reduceGE, Int.reduceEq, Int.reduceNeg, Int.reduceAdd, Int.reduceSub, Int.reduceMul, ↓reduceIte, reduceCtorEq, *]
    clear hz7 ho5
    obtain ⟨_, st9, rfl, rfl⟩ := hq8
    revert h
    rintro ⟨⟩
    simp only [go_sem, Nat.reduceAdd, Nat.reduceSub, Nat.reduceMul, Nat.reduceEqDiff, Nat.reduceBEq, Nat.reduceLT, Nat.reduceLeDiff, Nat.reducePow, Int.reduceToNat, Int.reduceLT, Int.reduceLE, Int.reduceGT, Int.reduceGE, Int.reduceEq, Int.reduceNeg, Int.reduceAdd, Int.reduceSub, Int.reduceMul, ↓reduceIte, reduceCtorEq, *]
noncomputable def s_slices_Max_Light (L : Nat) : Ev.Spec := specP (cCons k23 cNil) (fun x => p_slices_Max_Light L x.1) (fun r => [.int .i64 r])
theorem s_slices_Max_Light_run (L : Nat) (a0 : List Int) : (s_slices_Max_Light L).run [.sl 32 (a0.map (D.int .i64))] = (p_slices_Max_Light L a0).map fun r => [.int .i64 r] := specP_run (cCons k23 cNil) (fun x => p_slices_Max_Light L x.1) (fun r => [.int .i64 r]) (a0, ())
theorem ok_slices_Max_Light (L : Nat) (hL : L ≤ 4611686018427387904) : SpecOk Try.prog 247 (s_slices_Max_Light L) := specP_ok mixed (Go_slices_Max_Light L hL) (To_slices_Max_Light L) fun x r h => ⟨L, 1, e_slices_Max_Light L hL x.1 r h⟩
end Go.Proofs.Ytnojehmbiceceaa.P
end
section
set_option linter.unusedVariables false
set_option linter.unusedSimpArgs false
set_option maxRecDepth 100000
namespace Go.Proofs.Ytnojehmbiceceaa.P
open Go.Ev Go.IntKind Go.Proofs.Ytnojehmbiceceaa Go.Proofs.Ytnojehmbiceceaa.Ty Go.Proofs.Ytnojehmbiceceaa.E
def p_bound_Mul_Light_l1 (L : Nat) (x66 : Int) (a2 : Int) (a73 : List Int) : Nat → Int → (List Int) → Option (Sum (List Int) (Int × Int × Bool))
  | 0, s72, s79 => some (.inl s79)
  | tl + 1, s72, s79 => bnd (idx a73 s72) fun x85 => bnd (p_bound_Mul_Light_1 L x66 x85 a2) fun r86 => bnd (p_bound_Mul_Light_2 L x66 x85 a2) fun r87 => cb (decide (r86.2 = 0)) (cb (decide (r87.2 = 0)) (rq (s79.length + 2 ≤ maxRow) <| rq ((s79.length + 2) * 8 ≤ maxRow) <| p_bound_Mul_Light_l1 L x66 a2 a73 tl (s72 + 1) (s79 ++ [r86.1, r87.1])) (bnd (p_bound_None_Light L) fun r88 => some (.inr (r88.1, r88.2.1, r88.2.2)))) (bnd (p_bound_None_Light L) fun r89 => some (.inr (r89.1, r89.2.1, r89.2.2)))
def p_bound_Mul_Light_l0 (L : Nat) (a1_0 : Int) (a1_1 : Int) (a2 : Int) (a10 : List Int) : Nat → Int → (List Int) → Option (Sum (List Int) (Int × Int × Bool))
  | 0, s9, s38 => some (.inl s38)
  | tl + 1, s9, s38 => bnd (idx a10 s9) fun x66 => rq (2 < L) <| bnd (p_bound_Mul_Light_l1 L x66 a2 ([a1_0, a1_1]) 2 0 s38) fun o90 => match o90 with | (.inl o90_0) => (p_bound_Mul_Light_l0 L a1_0 a1_1 a2 a10 tl (s9 + 1) o90_0) | (.inr o90_1) => (some (.inr (o90_1.1, o90_1.2.1, o90_1.2.2)))
def p_bound_Mul_Light (L : Nat) (a0_0 : Int) (a0_1 : Int) (a0_2 : Bool) (a1_0 : Int) (a1_1 : Int) (a1_2 : Bool) (a2 : Int) : Option (Int × Int × Bool) := bnd (p_bound_vague_Light L a0_0 a0_1 a0_2 a1_0 a1_1 a1_2) fun r1 => cb r1 (bnd (p_bound_None_Light L) fun r2 => some (r2.1, r2.2.1, r2.2.2)) (if a2 < 1 then (bnd (p_bound_None_Light L) fun r3 => some (r3.1, r3.2.1, r3.2.2)) else (rq (2 < L) <| bnd (p_bound_Mul_Light_l0 L a1_0 a1_1 a2 ([a0_0, a0_1]) 2 0 ([])) fun o93 => match o93 with | (.inl o93_0) => (bnd (p_slices_Min_Light L o93_0) fun r95 => bnd (p_slices_Max_Light L o93_0) fun r96 => bnd (p_bound_Of_Light L r95 r96) fun r97 => some (r97.1, r97.2.1, r97.2.2)) | (.inr o93_1) => (some (o93_1.1, o93_1.2.1, o93_1.2.2))))
attribute [local go_sem] Ev.putR_s Ev.putR_0 Ev.thenO_s Ev.thenO_0 Ev.seqR_n Ev.seqR_e Ev.seqR_r Ev.seqR_0 Ev.blkR_e Ev.blkR_n Ev.blkR_r Ev.blkR_0 Ev.normR_s Ev.normR_0 Ev.outR_r Ev.outR_n Ev.outR_0 Ev.retS_s Ev.retS_0 Ev.pureO_s Ev.pureO_0 Ev.topR_0 Ev.topR_t Ev.topR_t0 Ev.oneL_0 Ev.oneL_s Ev.topR_d Ev.topR_nils Ev.topR_agg Ev.topR_rs Ev.evOp_move Ev.evOp_assign Ev.evOp_pick Ev.evOp_alloc Ev.evOp_box Ev.evOp_build Ev.evOp_buildSlice Ev.evOp_load Ev.evOp_store Ev.evOp_makeMap Ev.evOp_lookup Ev.evOp_mapUpdate Ev.evOp_insert Ev.evOp_nilCheck Ev.evOp_binOp Ev.evOp_unOp Ev.evOp_convert Ev.evOp_makeFunc Ev.evOp_makeSlice Ev.evOp_slice Ev.evOp_fieldAddr Ev.evOp_field Ev.evOp_indexAddr Ev.evOp_index Ev.evOp_extract Ev.evOp_call Ev.evOp_append Ev.evOp_clear Ev.evOp_len Ev.evOp_min Ev.evOp_max Ev.condR_b Ev.condR_t Ev.evOps_nil Ev.evOps_plain Ev.evOps_guard Ev.runG_eq Ev.skipG_eq Ev.condL_tt Ev.condL_ff Ev.condL_tf Ev.condL_ft Ev.condL_u Ev.condC_t Ev.condC_f Ev.evC_skip Ev.evC_ret Ev.evC_exit Ev.evC_label Ev.evC_region Ev.evC_draw Ev.evC_seq Ev.evC_cond Ev.evC_block Ev.evC_loop Ev.fin_d Ev.fin_nils Ev.fin_agg_ Ev.fin_rs Ev.finS_s Ev.mapO_fin Ev.upd_upd Ev.argv_d Ev.argv_nils Ev.argv_agg Ev.argv_rs Ev.argv_p Ev.fk_low Ev.appendTo_nils Ev.appendTo_rs Ev.consV_d Ev.consV_agg Ev.consV_p Ev.consV_rs Ev.consV_nils Ev.consV_fn Ev.consV_und Ev.consV_jk Ev.consV_grown Ev.topR_grown Ev.len_grown Ev.consV_mp Ev.sameK_i Ev.sameK_s Ev.mget_0 Ev.mget_hit Ev.mget_miss Ev.mput_0 Ev.mput_hit Ev.mput_miss Ev.apartAll Ev.apartL Ev.apartV Ev.freeAll Ev.sel Ev.keyOfV Ev.evLookup Ev.evPut Ev.hintOk Ev.keyOk Ev.consP Ev.lookV Ev.guardV Ev.dstAt Ev.evPure Ev.evStore Ev.evBin Ev.evBinO Ev.evNil Ev.isNilC Ev.evUn Ev.evConv Ev.evSlice Ev.optI Ev.foldI Ev.capsOk Ev.noTup Ev.nth Ev.setN Ev.killAt Ev.pad Ev.V.get Ev.V.put Ev.putD Ev.newBlk Ev.upd Ev.keq Ev.empty Ev.evCall Ev.V.args Ev.argP Ev.callOf Ev.evNilP Ev.isNilP Ev.look Ev.V.view.views Ev.V.view Ev.V.toD Ev.V.toD.V.toDs Ev.V.pure.pures Ev.V.pure Ev.D.flat.flats Ev.D.flat Ev.mkAgg Ev.allD Ev.aggParts Ev.setParts Ev.setElems Ev.getPath Ev.setPath Ev.subL Ev.eqD Ev.eqD.eqDs Ev.and2 Ev.strCut Ev.evalT Ev.constT Ev.evArgs Ev.mask Ev.maskOf Ev.tableOf Ev.compT Ev.resV Ev.retV Ev.mapO Ev.frzO_n Ev.frzO_e Ev.frzO_r Ev.frzO_0 Ev.mb_z Ev.mb_0 Ev.mb_s Ev.frzL_t Ev.frzL_f Ev.frzL_0 Ev.frzT_nils Ev.frzT_rs Ev.frzT_p Ev.frzK_i Ev.keyIn_i Ev.rI_nil Ev.rI_cons Ev.rI_row Ev.rI_app Ev.r_d Ev.r_nils Ev.r_agg Ev.r_rs Ev.r_gl Ev.vw_row Ev.vw_app Ev.appO_s Ev.frzT_gl Ev.allD_gl Ev.killAt_i Ev.tkOne_i Ev.hT_agg Ev.hT_vagg Ev.hT_int Ev.hT_bool Ev.hT_str Ev.hT_sl Ev.hT_ptr Ev.hT_np Ev.hT_p Ev.hT_rs Ev.hT_mp Ev.hT_nils Ev.hT_fn Ev.hT_jk Ev.hT_gl Ev.eO_sl Ev.eO_nils Ev.eO_rs Ev.eT_sl Ev.eT_rs Ev.pL_str Ev.pL_sl Ev.pL_rs Ev.pL_nils Ev.pL_min Ev.pL_max Ev.len_glB Ev.noTup_gl Ev.rowV_len Ev.rowV_nil Ev.rowV_cons Ev.rowV_append Ev.rowV_set Ev.rowV_replicate Ev.nth_row Ev.row_take Ev.row_drop Ev.toDs_row Ev.fin_row Ev.map_row Ev.map_take_ Ev.map_drop_ Ev.Bk_i Ev.GlB_0 Ev.GlB_mk Ev.gl_nil Ev.gl_cons Ev.gl_snoc Ev.gl_setN Ev.appendTo_gl Ev.consV_gl Ev.elems_gl Ev.fin_gl Ev.view_gl Ev.argv_gl Ev.topR_gl Ev.sp_z Ev.sp_0 Ev.sp_s Ev.km_z Ev.km_0 Ev.km_s Ev.beq_toList Ev.nc0 Ev.bq_t Ev.bq_f Ev.bodyN Ev.le_maxRow Int.cast_ofNat_Int IntWalk.i64_in IntWalk.u64_in IntWalk.u8_in beq_self_eq_true Bool.true_beq Bool.false_beq Bool.and_true Bool.true_and Bool.false_and Bool.and_false Bool.and_self Bool.not_true Bool.not_false Bool.not_eq_true cond_true cond_false if_true if_false and_true true_and and_self decide_true decide_false Bool.or_true Bool.true_or Bool.or_false Bool.false_or List.isEmpty List.isEmpty_nil List.size_toArray List.map List.length_map List.length_cons List.length_nil Option.map Option.bind Option.getD Option.isSome List.replicate Bool.false_eq_true implies_true false_implies forall_const Array.toList Array.isEmpty List.append List.nil_append List.cons_append List.drop_zero List.take_length List.take_succ_cons List.take_zero List.take_nil List.getElem?_map List.getElem?_cons_zero List.getElem?_cons_succ List.getElem?_nil List.append_nil eq_self Int.toNat_natCast List.length_append Nat.zero_add Nat.add_zero List.length_replicate Nat.sub_zero Option.map_some Option.map_none Int.le_refl Nat.le_refl Int.natCast_nonneg List.map_append
noncomputable def G_bound_Mul_Light (L : Nat) : Specs := [(206, s_bound_vague_Light L), (207, s_bound_None_Light L), (209, s_bound_Mul_Light_1 L), (210, s_bound_Mul_Light_2 L), (211, s_bound_Of_Light L), (246, s_slices_Min_Light L), (247, s_slices_Max_Light L)]
noncomputable def T_bound_Mul_Light : Table := tableOf [(160, en160), (208, en208)]
theorem Go_bound_Mul_Light (L : Nat) (hL : L ≤ 4611686018427387904) : ∀ g s, Ev.look (G_bound_Mul_Light L) g = some s → SpecOk Try.prog g s := (specs_cons (ok_bound_vague_Light L hL) (specs_cons (ok_bound_None_Light L hL) (specs_cons (ok_bound_Mul_Light_1 L hL) (specs_cons (ok_bound_Mul_Light_2 L hL) (specs_cons (ok_bound_Of_Light L hL) (specs_cons (ok_slices_Min_Light L hL) (specs_cons (ok_slices_Max_Light L hL) specs_nil)))))))
theorem To_bound_Mul_Light (L : Nat) : TableOk Try.prog ((G_bound_Mul_Light L).map (·.1)) T_bound_Mul_Light := (table_cons Try.func160 (by kernel_rfl) (by kernel_rfl) (table_cons Try.func208 (by kernel_rfl) (by kernel_rfl) table_nil))
theorem lk_bound_Mul_Light_206 (L : Nat) : Ev.look (G_bound_Mul_Light L) 206 = some (s_bound_vague_Light L) := nr rfl
theorem lk_bound_Mul_Light_207 (L : Nat) : Ev.look (G_bound_Mul_Light L) 207 = some (s_bound_None_Light L) := nr rfl
theorem lk_bound_Mul_Light_209 (L : Nat) : Ev.look (G_bound_Mul_Light L) 209 = some (s_bound_Mul_Light_1 L) := nr rfl
theorem lk_bound_Mul_Light_210 (L : Nat) : Ev.look (G_bound_Mul_Light L) 210 = some (s_bound_Mul_Light_2 L) := nr rfl
theorem lk_bound_Mul_Light_211 (L : Nat) : Ev.look (G_bound_Mul_Light L) 211 = some (s_bound_Of_Light L) := nr rfl
theorem lk_bound_Mul_Light_246 (L : Nat) : Ev.look (G_bound_Mul_Light L) 246 = some (s_slices_Min_Light L) := nr rfl
theorem lk_bound_Mul_Light_247 (L : Nat) : Ev.look (G_bound_Mul_Light L) 247 = some (s_slices_Max_Light L) := nr rfl
theorem lk_bound_Mul_Light_208 (L : Nat) : Ev.look (G_bound_Mul_Light L) 208 = none := nr rfl
theorem in_bound_Mul_Light_208 (L c lv : Nat) (xs : List V) (st : Store) : evF Try.prog (G_bound_Mul_Light L) T_bound_Mul_Light L (c + 1) 208 xs lv st = outR Try.prog Try.f208.results.toList (evC Try.prog (G_bound_Mul_Light L) (evF Try.prog (G_bound_Mul_Light L) T_bound_Mul_Light L c) L en208.ms lv 0 (bodyN Try.f208) (pad xs Try.f208.ntmps) st) := evF_s (hT := by rfl) (hb := by rfl) ..
attribute [local go_sem] Ty.tk2 Ty.ik2 Ty.ek2 Ty.zv2 Ty.by2 Ty.so2 Ty.tk3 Ty.ik3 Ty.ek3 Ty.zv3 Ty.by3 Ty.so3 Ty.tk4 Ty.ub4 Ty.ek4 Ty.zv4 Ty.by4 Ty.so4 Ty.tk23 Ty.zv23 Ty.by23 Ty.so23 Ty.tk27 Ty.ik27 Ty.ek27 Ty.zv27 Ty.by27 Ty.so27 Ty.tk32 Ty.ik32 Ty.ek32 Ty.zv32 Ty.by32 Ty.so32 Ty.tk37 Ty.ct37 Ty.ek37 Ty.zv37 Ty.by37 Ty.so37 Ty.tk266 Ty.zv266 Ty.by266 Ty.so266 Ty.k23_e Ty.k37_e E.mk160_1000000 E.mk208_0 E.mk208_2 E.mk208_1000001 E.mk208_1000002 E.mk208_1000003 E.mk208_1000004 E.mk208_1000000 E.fz208_0 E.fz208_2 E.lb208_0 E.lb208_2 lk_bound_Mul_Light_206 lk_bound_Mul_Light_207 lk_bound_Mul_Light_209 lk_bound_Mul_Light_210 lk_bound_Mul_Light_211 lk_bound_Mul_Light_246 lk_bound_Mul_Light_247 lk_bound_Mul_Light_208 in_bound_Mul_Light_208 s_bound_vague_Light_run s_bound_None_Light_run s_bound_Mul_Light_1_run s_bound_Mul_Light_2_run s_bound_Of_Light_run s_slices_Min_Light_run s_slices_Max_Light_run loopN loops Try.f160 Try.f208
def Q0_p_bound_Mul_Light_l1 (w67 : Nat) (w68 : Nat) (w69 : Nat) (w70 : Nat) (x66 : Int) (s9 : Int) (a0_0 : Int) (a0_1 : Int) (a0_2 : Bool) (a1_0 : Int) (a1_1 : Int) (a1_2 : Bool) (a2 : Int) (a10 : List Int) (a73 : List Int) (u : List Int) (z : Out) : Prop := ∃ env st, z = some (.exit 2, env, st) ∧ env = sp 71 0 [(2, .fn 209 [.p (0, 5) (st (0, 5)).ver 0 []]), (3, .fn 210 [.p (0, 5) (st (0, 5)).ver 0 []]), (5, .p (20, 5) (st (20, 5)).ver 0 []), (8, .p (20, 8) (st (20, 8)).ver 0 []), (9, gl 32 (20, 63) (st (20, 63)).ver (rowV (D.int .i64) u)), (22, .rs 32 (20, 22) (st (20, 22)).ver 0 a10.length true), (23, .d (.int .i64 2)), (24, .d (.int .i64 s9))] ∧ Bk (st (0, 3)) 37 [.d (.agg 37 [.int .i64 a0_0, .int .i64 a0_1, .bool a0_2])] ∧ Bk (st (0, 4)) 37 [.d (.agg 37 [.int .i64 a1_0, .int .i64 a1_1, .bool a1_2])] ∧ Bk (st (0, 5)) 2 [.d (.int .i64 a2)] ∧ Bk (st (0, 6)) 37 [.d (.agg 37 [.int .i64 0, .int .i64 0, .bool false])] ∧ Bk (st (20, 5)) 37 [.d (.agg 37 [.int .i64 a1_0, .int .i64 a1_1, .bool a1_2])] ∧ Bk (st (20, 8)) 37 [.d (.agg 37 [.int .i64 0, .int .i64 0, .bool false])] ∧ Bk (st (20, 22)) 32 (rowV (D.int .i64) a10) ∧ GlB (st (20, 63)) 32 (rowV (D.int .i64) u) ∧ (st (0, 3)).ver = w67 ∧ (st (0, 4)).ver = w68 ∧ (st (0, 5)).ver = w69 ∧ (st (0, 6)).ver = w70
def Q1_p_bound_Mul_Light_l1 (w67 : Nat) (w68 : Nat) (w69 : Nat) (w70 : Nat) (x66 : Int) (s9 : Int) (a0_0 : Int) (a0_1 : Int) (a0_2 : Bool) (a1_0 : Int) (a1_1 : Int) (a1_2 : Bool) (a2 : Int) (a10 : List Int) (a73 : List Int) (u : Int × Int × Bool) (z : Out) : Prop := ∃ env st, z = some (.ret, env, st) ∧ env = sp 71 0 [(8, .p (20, 8) (st (20, 8)).ver 0 [])] ∧ Bk (st (0, 3)) 37 [.d (.agg 37 [.int .i64 a0_0, .int .i64 a0_1, .bool a0_2])] ∧ Bk (st (0, 4)) 37 [.d (.agg 37 [.int .i64 a1_0, .int .i64 a1_1, .bool a1_2])] ∧ Bk (st (0, 5)) 2 [.d (.int .i64 a2)] ∧ Bk (st (0, 6)) 37 [.d (.agg 37 [.int .i64 0, .int .i64 0, .bool false])] ∧ Bk (st (20, 8)) 37 [.d (.agg 37 [.int .i64 u.1, .int .i64 u.2.1, .bool u.2.2])] ∧ (st (0, 3)).ver = w67 ∧ (st (0, 4)).ver = w68 ∧ (st (0, 5)).ver = w69 ∧ (st (0, 6)).ver = w70
def Q_p_bound_Mul_Light_l1 (w67 : Nat) (w68 : Nat) (w69 : Nat) (w70 : Nat) (x66 : Int) (s9 : Int) (a0_0 : Int) (a0_1 : Int) (a0_2 : Bool) (a1_0 : Int) (a1_1 : Int) (a1_2 : Bool) (a2 : Int) (a10 : List Int) (a73 : List Int) (o : Sum (List Int) (Int × Int × Bool)) (z : Out) : Prop := match o with | (.inl u) => Q0_p_bound_Mul_Light_l1 w67 w68 w69 w70 x66 s9 a0_0 a0_1 a0_2 a1_0 a1_1 a1_2 a2 a10 a73 u z | (.inr u) => Q1_p_bound_Mul_Light_l1 w67 w68 w69 w70 x66 s9 a0_0 a0_1 a0_2 a1_0 a1_1 a1_2 a2 a10 a73 u z
theorem l_p_bound_Mul_Light_l1 (L : Nat) (hL : L ≤ 4611686018427387904) (w67 : Nat) (w68 : Nat) (w69 : Nat) (w70 : Nat) (x66 : Int) (s9 : Int) (a0_0 : Int) (a0_1 : Int) (a0_2 : Bool) (a1_0 : Int) (a1_1 : Int) (a1_2 : Bool) (a2 : Int) (a10 : List Int) (a73 : List Int) : ∀ (tl n : Nat) (s72 : Int) (s79 : List Int) (env : List V) (st : Store) (o : Sum (List Int) (Int × Int × Bool)), tl < n → Cnt 2 s72 tl → mask (maskOf en208.ms 2) env = sp 71 0 [(2, .fn 209 [.p (0, 5) (st (0, 5)).ver 0 []]), (3, .fn 210 [.p (0, 5) (st (0, 5)).ver 0 []]), (5, .p (20, 5) (st (20, 5)).ver 0 []), (8, .p (20, 8) (st (20, 8)).ver 0 []), (9, gl 32 (20, 63) (st (20, 63)).ver (rowV (D.int .i64) s79)), (11, .d (.int .i64 x66)), (22, .rs 32 (20, 22) (st (20, 22)).ver 0 a10.length true), (23, .d (.int .i64 2)), (24, .d (.int .i64 s9)), (32, .rs 32 (20, 32) (st (20, 32)).ver 0 a73.length true), (33, .d (.int .i64 2)), (34, .d (.int .i64 s72))] → Bk (st (0, 3)) 37 [.d (.agg 37 [.int .i64 a0_0, .int .i64 a0_1, .bool a0_2])] → Bk (st (0, 4)) 37 [.d (.agg 37 [.int .i64 a1_0, .int .i64 a1_1, .bool a1_2])] → Bk (st (0, 5)) 2 [.d (.int .i64 a2)] → Bk (st (0, 6)) 37 [.d (.agg 37 [.int .i64 0, .int .i64 0, .bool false])] → Bk (st (20, 5)) 37 [.d (.agg 37 [.int .i64 a1_0, .int .i64 a1_1, .bool a1_2])] → Bk (st (20, 8)) 37 [.d (.agg 37 [.int .i64 0, .int .i64 0, .bool false])] → Bk (st (20, 22)) 32 (rowV (D.int .i64) a10) → Bk (st (20, 32)) 32 (rowV (D.int .i64) a73) → GlB (st (20, 63)) 32 (rowV (D.int .i64) s79) → (st (0, 3)).ver = w67 → (st (0, 4)).ver = w68 → (st (0, 5)).ver = w69 → (st (0, 6)).ver = w70 → p_bound_Mul_Light_l1 L x66 a2 a73 tl s72 s79 = some o →
    Q_p_bound_Mul_Light_l1 w67 w68 w69 w70 x66 s9 a0_0 a0_1 a0_2 a1_0 a1_1 a1_2 a2 a10 a73 o (iter (evC Try.prog (G_bound_Mul_Light L) (evF Try.prog (G_bound_Mul_Light L) T_bound_Mul_Light L 0) L en208.ms 20 2 lb208_2) (maskOf en208.ms 2) n env st) := by
  intro tl
  induction tl with
  | zero =>
    intro n s72 s79 env st o hn hR he hb0 hb1 hb2 hb3 hb4 hb5 hb6 hb7 hb8 hw0 hw1 hw2 hw3 h
    obtain ⟨n, rfl⟩ : ∃ m, n = m + 1 := ⟨n - 1, by omega⟩
    obtain ⟨be0, bv0, bl0⟩ := hb0
    obtain ⟨be1, bv1, bl1⟩ := hb1
    obtain ⟨be2, bv2, bl2⟩ := hb2
    obtain ⟨be3, bv3, bl3⟩ := hb3
    obtain ⟨be4, bv4, bl4⟩ := hb4
    obtain ⟨be5, bv5, bl5⟩ := hb5
    obtain ⟨be6, bv6, bl6⟩ := hb6
    obtain ⟨be7, bv7, bl7⟩ := hb7
    have g0 := cnt_nil hR
    rw [iter, he]
    clear he
    generalize hK : iter _ _ n = K
    rw [p_bound_Mul_Light_l1] at h
    revert h
    rintro ⟨⟩
    simp only [go_sem, Nat.reduceAdd, Nat.reduceSub, Nat.reduceMul, Nat.reduceEqDiff, Nat.reduceBEq, Nat.reduceLT, Nat.reduceLeDiff, Nat.reducePow, Int.reduceToNat, Int.reduceLT, Int.reduceLE, Int.reduceGT, Int.reduceGE, Int.reduceEq, Int.reduceNeg, Int.reduceAdd, Int.reduceSub, Int.reduceMul, ↓reduceIte, reduceCtorEq, *]
    refine (⟨_, _, rfl, ?_, ?_, ?_, ?_, ?_, ?_, ?_, ?_, ?_, ?_, ?_, ?_, ?_⟩ : Q0_p_bound_Mul_Light_l1 w67 w68 w69 w70 x66 s9 a0_0 a0_1 a0_2 a1_0 a1_1 a1_2 a2 a10 a73 _ _)
    all_goals simp only [go_sem, Nat.reduceAdd, Nat.reduceSub, Nat.reduceMul, Nat.reduceEqDiff, Nat.reduceBEq, Nat.reduceLT, Nat.reduceLeDiff, Nat.reducePow, Int.reduceToNat, Int.reduceLT, Int.reduceLE, Int.reduceGT, Int.reduceGE, Int.reduceEq, Int.reduceNeg, Int.reduceAdd, Int.reduceSub, Int.reduceMul, ↓reduceIte, reduceCtorEq, *]
  | succ tl ih =>
    intro n s72 s79 env st o hn hR he hb0 hb1 hb2 hb3 hb4 hb5 hb6 hb7 hb8 hw0 hw1 hw2 hw3 h
    obtain ⟨n, rfl⟩ : ∃ m, n = m + 1 := ⟨n - 1, by omega⟩
    obtain ⟨be0, bv0, bl0⟩ := hb0
    obtain ⟨be1, bv1, bl1⟩ := hb1
    obtain ⟨be2, bv2, bl2⟩ := hb2
    obtain ⟨be3, bv3, bl3⟩ := hb3
    obtain ⟨be4, bv4, bl4⟩ := hb4
    obtain ⟨be5, bv5, bl5⟩ := hb5
    obtain ⟨be6, bv6, bl6⟩ := hb6
    obtain ⟨be7, bv7, bl7⟩ := hb7
    replace ih : Hold _ := ih
    replace hR := cnt_s hR
    obtain ⟨g0, g1, g3, hR⟩ := hR
    rw [iter, he]
    clear he
    generalize hK : iter _ _ n = K
    rw [p_bound_Mul_Light_l1] at h
    revert h
    refine idx_i fun x85 c1 c2 c3 => ?_
    refine bnd_i fun r86 c4 => ?_
    refine bnd_i fun r87 c5 => ?_
    refine cb_i (fun c6 => ?_) (fun c6 => ?_)
    · refine cb_i (fun c7 => ?_) (fun c7 => ?_)
      · refine rq_i fun c8 => ?_
        refine rq_i fun c9 => ?_
        intro h
        simp only [go_sem, Nat.reduceAdd, Nat.reduceSub, Nat.reduceMul, Nat.reduceEqDiff, Nat.reduceBEq, Nat.reduceLT, Nat.reduceLeDiff, Nat.reducePow, Int.reduceToNat, Int.reduceLT, Int.reduceLE, Int.reduceGT, Int.reduceGE, Int.reduceEq, Int.reduceNeg, Int.reduceAdd, Int.reduceSub, Int.reduceMul, ↓reduceIte, reduceCtorEq, *]
        subst hK
        refine ih n (s72 + 1) (s79 ++ [r86.1, r87.1]) _ _ _ (by omega) hR ?_ ?_ ?_ ?_ ?_ ?_ ?_ ?_ ?_ ?_ ?_ ?_ ?_ ?_ h
        all_goals simp only [go_sem, Nat.reduceAdd, Nat.reduceSub, Nat.reduceMul, Nat.reduceEqDiff, Nat.reduceBEq, Nat.reduceLT, Nat.reduceLeDiff, Nat.reducePow, Int.reduceToNat, Int.reduceLT, Int.reduceLE, Int.reduceGT, Int.reduceGE, Int.reduceEq, Int.reduceNeg, Int.reduceAdd, Int.reduceSub, Int.reduceMul, ↓reduceIte, reduceCtorEq, *]
      · refine bnd_i fun r88 c10 => ?_
        rintro ⟨⟩
        simp only [go_sem, Nat.reduceAdd, Nat.reduceSub, Nat.reduceMul, Nat.reduceEqDiff, Nat.reduceBEq, Nat.reduceLT, Nat.reduceLeDiff, Nat.reducePow, Int.reduceToNat, Int.reduceLT, Int.reduceLE, Int.reduceGT, Int.reduceGE, Int.reduceEq, Int.reduceNeg, Int.reduceAdd, Int.reduceSub, Int.reduceMul, ↓reduceIte, reduceCtorEq, *]
        refine (⟨_, _, rfl, ?_, ?_, ?_, ?_, ?_, ?_, ?_, ?_, ?_, ?_⟩ : Q1_p_bound_Mul_Light_l1 w67 w68 w69 w70 x66 s9 a0_0 a0_1 a0_2 a1_0 a1_1 a1_2 a2 a10 a73 _ _)
        all_goals simp only [go_sem, Nat.reduceAdd, Nat.reduceSub, Nat.reduceMul, Nat.reduceEqDiff, Nat.reduceBEq, Nat.reduceLT, Nat.reduceLeDiff, Nat.reducePow, Int.reduceToNat, Int.reduceLT, Int.reduceLE, Int.reduceGT, Int.reduceGE, Int.reduceEq, Int.reduceNeg, Int.reduceAdd, Int.reduceSub, Int.reduceMul, ↓reduceIte, reduceCtorEq, *]
    · refine bnd_i fun r89 c11 => ?_
      rintro ⟨⟩
      simp only [go_sem, Nat.reduceAdd, Nat.reduceSub, Nat.reduceMul, Nat.reduceEqDiff, Nat.reduceBEq, Nat.reduceLT, Nat.reduceLeDiff, Nat.reducePow, Int.reduceToNat, Int.reduceLT, Int.reduceLE, Int.reduceGT, Int.reduceGE, Int.reduceEq, Int.reduceNeg, Int.reduceAdd, Int.reduceSub, Int.reduceMul, ↓reduceIte, reduceCtorEq, *]
      refine (⟨_, _, rfl, ?_, ?_, ?_, ?_, ?_, ?_, ?_, ?_, ?_, ?_⟩ : Q1_p_bound_Mul_Light_l1 w67 w68 w69 w70 x66 s9 a0_0 a0_1 a0_2 a1_0 a1_1 a1_2 a2 a10 a73 _ _)
      all_goals simp only [go_sem, Nat.reduceAdd, Nat.reduceSub, Nat.reduceMul, Nat.reduceEqDiff, Nat.reduceBEq, Nat.reduceLT, Nat.reduceLeDiff, Nat.reducePow, Int.reduceToNat, Int.reduceLT, Int.reduceLE, Int.reduceGT, Int.reduceGE, Int.reduceEq, Int.reduceNeg, Int.reduceAdd, Int.reduceSub, Int.reduceMul, ↓reduceIte, reduceCtorEq, *]
def Q0_p_bound_Mul_Light_l0 (w4 : Nat) (w5 : Nat) (w6 : Nat) (w7 : Nat) (a0_0 : Int) (a0_1 : Int) (a0_2 : Bool) (a1_0 : Int) (a1_1 : Int) (a1_2 : Bool) (a2 : Int) (a10 : List Int) (u : List Int) (z : Out) : Prop := ∃ env st, z = some (.exit 0, env, st) ∧ env = sp 71 0 [(8, .p (20, 8) (st (20, 8)).ver 0 []), (9, gl 32 (20, 63) (st (20, 63)).ver (rowV (D.int .i64) u))] ∧ Bk (st (0, 3)) 37 [.d (.agg 37 [.int .i64 a0_0, .int .i64 a0_1, .bool a0_2])] ∧ Bk (st (0, 4)) 37 [.d (.agg 37 [.int .i64 a1_0, .int .i64 a1_1, .bool a1_2])] ∧ Bk (st (0, 5)) 2 [.d (.int .i64 a2)] ∧ Bk (st (0, 6)) 37 [.d (.agg 37 [.int .i64 0, .int .i64 0, .bool false])] ∧ Bk (st (20, 8)) 37 [.d (.agg 37 [.int .i64 0, .int .i64 0, .bool false])] ∧ GlB (st (20, 63)) 32 (rowV (D.int .i64) u) ∧ (st (0, 3)).ver = w4 ∧ (st (0, 4)).ver = w5 ∧ (st (0, 5)).ver = w6 ∧ (st (0, 6)).ver = w7
def Q1_p_bound_Mul_Light_l0 (w4 : Nat) (w5 : Nat) (w6 : Nat) (w7 : Nat) (a0_0 : Int) (a0_1 : Int) (a0_2 : Bool) (a1_0 : Int) (a1_1 : Int) (a1_2 : Bool) (a2 : Int) (a10 : List Int) (u : Int × Int × Bool) (z : Out) : Prop := ∃ env st, z = some (.ret, env, st) ∧ env = sp 71 0 [(8, .p (20, 8) (st (20, 8)).ver 0 [])] ∧ Bk (st (0, 3)) 37 [.d (.agg 37 [.int .i64 a0_0, .int .i64 a0_1, .bool a0_2])] ∧ Bk (st (0, 4)) 37 [.d (.agg 37 [.int .i64 a1_0, .int .i64 a1_1, .bool a1_2])] ∧ Bk (st (0, 5)) 2 [.d (.int .i64 a2)] ∧ Bk (st (0, 6)) 37 [.d (.agg 37 [.int .i64 0, .int .i64 0, .bool false])] ∧ Bk (st (20, 8)) 37 [.d (.agg 37 [.int .i64 u.1, .int .i64 u.2.1, .bool u.2.2])] ∧ (st (0, 3)).ver = w4 ∧ (st (0, 4)).ver = w5 ∧ (st (0, 5)).ver = w6 ∧ (st (0, 6)).ver = w7
def Q_p_bound_Mul_Light_l0 (w4 : Nat) (w5 : Nat) (w6 : Nat) (w7 : Nat) (a0_0 : Int) (a0_1 : Int) (a0_2 : Bool) (a1_0 : Int) (a1_1 : Int) (a1_2 : Bool) (a2 : Int) (a10 : List Int) (o : Sum (List Int) (Int × Int × Bool)) (z : Out) : Prop := match o with | (.inl u) => Q0_p_bound_Mul_Light_l0 w4 w5 w6 w7 a0_0 a0_1 a0_2 a1_0 a1_1 a1_2 a2 a10 u z | (.inr u) => Q1_p_bound_Mul_Light_l0 w4 w5 w6 w7 a0_0 a0_1 a0_2 a1_0 a1_1 a1_2 a2 a10 u z
theorem l_p_bound_Mul_Light_l0 (L : Nat) (hL : L ≤ 4611686018427387904) (w4 : Nat) (w5 : Nat) (w6 : Nat) (w7 : Nat) (a0_0 : Int) (a0_1 : Int) (a0_2 : Bool) (a1_0 : Int) (a1_1 : Int) (a1_2 : Bool) (a2 : Int) (a10 : List Int) : ∀ (tl n : Nat) (s9 : Int) (s38 : List Int) (env : List V) (st : Store) (o : Sum (List Int) (Int × Int × Bool)), tl < n → Cnt 2 s9 tl → mask (maskOf en208.ms 0) env = sp 71 0 [(2, .fn 209 [.p (0, 5) (st (0, 5)).ver 0 []]), (3, .fn 210 [.p (0, 5) (st (0, 5)).ver 0 []]), (5, .p (20, 5) (st (20, 5)).ver 0 []), (8, .p (20, 8) (st (20, 8)).ver 0 []), (9, gl 32 (20, 63) (st (20, 63)).ver (rowV (D.int .i64) s38)), (22, .rs 32 (20, 22) (st (20, 22)).ver 0 a10.length true), (23, .d (.int .i64 2)), (24, .d (.int .i64 s9))] → Bk (st (0, 3)) 37 [.d (.agg 37 [.int .i64 a0_0, .int .i64 a0_1, .bool a0_2])] → Bk (st (0, 4)) 37 [.d (.agg 37 [.int .i64 a1_0, .int .i64 a1_1, .bool a1_2])] → Bk (st (0, 5)) 2 [.d (.int .i64 a2)] → Bk (st (0, 6)) 37 [.d (.agg 37 [.int .i64 0, .int .i64 0, .bool false])] → Bk (st (20, 5)) 37 [.d (.agg 37 [.int .i64 a1_0, .int .i64 a1_1, .bool a1_2])] → Bk (st (20, 8)) 37 [.d (.agg 37 [.int .i64 0, .int .i64 0, .bool false])] → Bk (st (20, 22)) 32 (rowV (D.int .i64) a10) → GlB (st (20, 63)) 32 (rowV (D.int .i64) s38) → (st (0, 3)).ver = w4 → (st (0, 4)).ver = w5 → (st (0, 5)).ver = w6 → (st (0, 6)).ver = w7 → p_bound_Mul_Light_l0 L a1_0 a1_1 a2 a10 tl s9 s38 = some o →
    Q_p_bound_Mul_Light_l0 w4 w5 w6 w7 a0_0 a0_1 a0_2 a1_0 a1_1 a1_2 a2 a10 o (iter (evC Try.prog (G_bound_Mul_Light L) (evF Try.prog (G_bound_Mul_Light L) T_bound_Mul_Light L 0) L en208.ms 20 0 lb208_0) (maskOf en208.ms 0) n env st) := by
  intro tl
  induction tl with
  | zero =>
    intro n s9 s38 env st o hn hR he hb0 hb1 hb2 hb3 hb4 hb5 hb6 hb7 hw0 hw1 hw2 hw3 h
    obtain ⟨n, rfl⟩ : ∃ m, n = m + 1 := ⟨n - 1, by omega⟩
    obtain ⟨be0, bv0, bl0⟩ := hb0
    obtain ⟨be1, bv1, bl1⟩ := hb1
    obtain ⟨be2, bv2, bl2⟩ := hb2
    obtain ⟨be3, bv3, bl3⟩ := hb3
    obtain ⟨be4, bv4, bl4⟩ := hb4
    obtain ⟨be5, bv5, bl5⟩ := hb5
    obtain ⟨be6, bv6, bl6⟩ := hb6
    have g0 := cnt_nil hR
    rw [iter, he]
    clear he
    generalize hK : iter _ _ n = K
    rw [p_bound_Mul_Light_l0] at h
    revert h
    rintro ⟨⟩
    simp only [go_sem, Nat.reduceAdd, Nat.reduceSub, Nat.reduceMul, Nat.reduceEqDiff, Nat.reduceBEq, Nat.reduceLT, Nat.reduceLeDiff, Nat.reducePow, Int.reduceToNat, Int.reduceLT, Int.reduceLE, Int.reduceGT, Int.reduceGE, Int.reduceEq, Int.reduceNeg, Int.reduceAdd, Int.reduceSub, Int.reduceMul, ↓reduceIte, reduceCtorEq, *]
    refine (⟨_, _, rfl, ?_, ?_, ?_, ?_, ?_, ?_, ?_, ?_, ?_, ?_, ?_⟩ : Q0_p_bound_Mul_Light_l0 w4 w5 w6 w7 a0_0 a0_1 a0_2 a1_0 a1_1 a1_2 a2 a10 _ _)
    all_goals simp only [go_sem, Nat.reduceAdd, Nat.reduceSub, Nat.reduceMul, Nat.reduceEqDiff, Nat.reduceBEq, Nat.reduceLT, Nat.reduceLeDiff, Nat.reducePow, Int.reduceToNat, Int.reduceLT, Int.reduceLE, Int.reduceGT, Int.reduceGE, Int.reduceEq, Int.reduceNeg, Int.reduceAdd, Int.reduceSub, Int.reduceMul, ↓reduceIte, reduceCtorEq, *]
  | succ tl ih =>
    intro n s9 s38 env st o hn hR he hb0 hb1 hb2 hb3 hb4 hb5 hb6 hb7 hw0 hw1 hw2 hw3 h
    obtain ⟨n, rfl⟩ : ∃ m, n = m + 1 := ⟨n - 1, by omega⟩
    obtain ⟨be0, bv0, bl0⟩ := hb0
    obtain ⟨be1, bv1, bl1⟩ := hb1
    obtain ⟨be2, bv2, bl2⟩ := hb2
    obtain ⟨be3, bv3, bl3⟩ := hb3
    obtain ⟨be4, bv4, bl4⟩ := hb4
    obtain ⟨be5, bv5, bl5⟩ := hb5
    obtain ⟨be6, bv6, bl6⟩ := hb6
    replace ih : Hold _ := ih
    replace hR := cnt_s hR
    obtain ⟨g0, g1, g3, hR⟩ := hR
    rw [iter, he]
    clear he
    generalize hK : iter _ _ n = K
    rw [p_bound_Mul_Light_l0] at h
    revert h
    refine idx_i fun x66 c1 c2 c3 => ?_
    refine rq_i fun c4 => ?_
    refine bnd_i fun o90 ho5 => ?_
    intro h
    simp only [go_sem, Nat.reduceAdd, Nat.reduceSub, Nat.reduceMul, Nat.reduceEqDiff, Nat.reduceBEq, Nat.reduceLT, Nat.reduceLeDiff, Nat.reducePow, Int.reduceToNat, Int.reduceLT, Int.reduceLE, Int.reduceGT, Int.reduceGE, Int.reduceEq, Int.reduceNeg, Int.reduceAdd, Int.reduceSub, Int.reduceMul, ↓reduceIte, reduceCtorEq, *]
    generalize hz7 : iter _ _ _ _ _ = z6
    have hq8 : Q_p_bound_Mul_Light_l1 w4 w5 w6 w7 x66 s9 a0_0 a0_1 a0_2 a1_0 a1_1 a1_2 a2 a10 ([a1_0, a1_1]) o90 z6 := by
      rw [← hz7]
      refine l_p_bound_Mul_Light_l1 L hL w4 w5 w6 w7 x66 s9 a0_0 a0_1 a0_2 a1_0 a1_1 a1_2 a2 a10 ([a1_0, a1_1]) _ L 0 s38 _ _ _ c4 (cnt_0 (by decide) (by decide)) ?_ ?_ ?_ ?_ ?_ ?_ ?_ ?_ ?_ ?_ ?_ ?_ ?_ ?_ ho5
      all_goals simp only [go_sem, Nat.reduceAdd, Nat.reduceSub, Nat.reduceMul, Nat.reduceEqDiff, Nat.reduceBEq, Nat.reduceLT, Nat.reduceLeDiff, Nat.reducePow, Int.reduceToNat, Int.reduceLT, Int.reduceLE, Int.reduceGT, Int.reduceGE, Int.reduceEq, Int.reduceNeg, Int.reduceAdd, Int.reduceSub, Int.reduceMul, ↓reduceIte, reduceCtorEq, *]
    clear hz7 ho5
    rcases o90 with o90_0 | o90_1
    · obtain ⟨_, st91, rfl, rfl, ⟨k91, k92, k93⟩, ⟨k101, k102, k103⟩, ⟨k111, k112, k113⟩, ⟨k121, k122, k123⟩, ⟨k131, k132, k133⟩, ⟨k141, k142, k143⟩, ⟨k151, k152, k153⟩, k16, w17, w18, w19, w20⟩ := hq8
      dsimp only at h
      revert h
      intro h
      simp only [go_sem, Nat.reduceAdd, Nat.reduceSub, Nat.reduceMul, Nat.reduceEqDiff, Nat.reduceBEq, Nat.reduceLT, Nat.reduceLeDiff, Nat.reducePow, Int.reduceToNat, Int.reduceLT, Int.reduceLE, Int.reduceGT, Int.reduceGE, Int.reduceEq, Int.reduceNeg, Int.reduceAdd, Int.reduceSub, Int.reduceMul, ↓reduceIte, reduceCtorEq, *]
      subst hK
      refine ih n (s9 + 1) o90_0 _ _ _ (by omega) hR ?_ ?_ ?_ ?_ ?_ ?_ ?_ ?_ ?_ ?_ ?_ ?_ ?_ h
      all_goals simp only [go_sem, Nat.reduceAdd, Nat.reduceSub, Nat.reduceMul, Nat.reduceEqDiff, Nat.reduceBEq, Nat.reduceLT, Nat.reduceLeDiff, Nat.reducePow, Int.reduceToNat, Int.reduceLT, Int.reduceLE, Int.reduceGT, Int.reduceGE, Int.reduceEq, Int.reduceNeg, Int.reduceAdd, Int.reduceSub, Int.reduceMul, ↓reduceIte, reduceCtorEq, *]
    · obtain ⟨_, st92, rfl, rfl, ⟨k211, k212, k213⟩, ⟨k221, k222, k223⟩, ⟨k231, k232, k233⟩, ⟨k241, k242, k243⟩, ⟨k251, k252, k253⟩, w26, w27, w28, w29⟩ := hq8
      dsimp only at h
      revert h
      rintro ⟨⟩
      simp only [go_sem, Nat.reduceAdd, Nat.reduceSub, Nat.reduceMul, Nat.reduceEqDiff, Nat.reduceBEq, Nat.reduceLT, Nat.reduceLeDiff, Nat.reducePow, Int.reduceToNat, Int.reduceLT, Int.reduceLE, Int.reduceGT, Int.reduceGE, Int.reduceEq, Int.reduceNeg, Int.reduceAdd, Int.reduceSub, Int.reduceMul, ↓reduceIte, reduceCtorEq, *]
      refine (⟨_, _, rfl, ?_, ?_, ?_, ?_, ?_, ?_, ?_, ?_, ?_, ?_⟩ : Q1_p_bound_Mul_Light_l0 w4 w5 w6 w7 a0_0 a0_1 a0_2 a1_0 a1_1 a1_2 a2 a10 _ _)
      all_goals simp only [go_sem, Nat.reduceAdd, Nat.reduceSub, Nat.reduceMul, Nat.reduceEqDiff, Nat.reduceBEq, Nat.reduceLT, Nat.reduceLeDiff, Nat.reducePow, Int.reduceToNat, Int.reduceLT, Int.reduceLE, Int.reduceGT, Int.reduceGE, Int.reduceEq, Int.reduceNeg, Int.reduceAdd, Int.reduceSub, Int.reduceMul, ↓reduceIte, reduceCtorEq, *]
theorem e_bound_Mul_Light (L : Nat) (hL : L ≤ 4611686018427387904) (a0_0 : Int) (a0_1 : Int) (a0_2 : Bool) (a1_0 : Int) (a1_1 : Int) (a1_2 : Bool) (a2 : Int) (res : Int × Int × Bool) (h : p_bound_Mul_Light L a0_0 a0_1 a0_2 a1_0 a1_1 a1_2 a2 = some res) : evTop Try.prog (G_bound_Mul_Light L) T_bound_Mul_Light L 2 160 [.agg 37 [.int .i64 a0_0, .int .i64 a0_1, .bool a0_2], .agg 37 [.int .i64 a1_0, .int .i64 a1_1, .bool a1_2], .int .i64 a2] = some [.agg 37 [.int .i64 res.1, .int .i64 res.2.1, .bool res.2.2]] := by
  revert h
  unfold p_bound_Mul_Light evTop
  simp only [List.map]
  rw [evF_s (fn := Try.f160) (msk := en160.ms) (hT := by rfl) (hb := by rfl)]
  refine bnd_i fun r1 c1 => ?_
  refine cb_i (fun c2 => ?_) (fun c2 => ?_)
  · refine bnd_i fun r2 c3 => ?_
    rintro ⟨⟩
    simp only [go_sem, Nat.reduceAdd, Nat.reduceSub, Nat.reduceMul, Nat.reduceEqDiff, Nat.reduceBEq, Nat.reduceLT, Nat.reduceLeDiff, Nat.reducePow, Int.reduceToNat, Int.reduceLT, Int.reduceLE, Int.reduceGT, Int.reduceGE, Int.reduceEq, Int.reduceNeg, Int.reduceAdd, Int.reduceSub, Int.reduceMul, ↓reduceIte, reduceCtorEq, *]
  · refine ite_i (fun c4 => ?_) (fun c4 => ?_)
    · refine bnd_i fun r3 c5 => ?_
      rintro ⟨⟩
      simp only [go_sem, Nat.reduceAdd, Nat.reduceSub, Nat.reduceMul, Nat.reduceEqDiff, Nat.reduceBEq, Nat.reduceLT, Nat.reduceLeDiff, Nat.reducePow, Int.reduceToNat, Int.reduceLT, Int.reduceLE, Int.reduceGT, Int.reduceGE, Int.reduceEq, Int.reduceNeg, Int.reduceAdd, Int.reduceSub, Int.reduceMul, ↓reduceIte, reduceCtorEq, *]
    · refine rq_i fun c6 => ?_
      refine bnd_i fun o93 ho7 => ?_
      intro h
      simp only [go_sem, Nat.reduceAdd, Nat.reduceSub, Nat.reduceMul, Nat.reduceEqDiff, Nat.reduceBEq, Nat.reduceLT, Nat.reduceLeDiff, Nat.reducePow, Int.reduceToNat, Int.reduceLT, Int.reduceLE, Int.reduceGT, Int.reduceGE, Int.reduceEq, Int.reduceNeg, Int.reduceAdd, Int.reduceSub, Int.reduceMul, ↓reduceIte, reduceCtorEq, *]
      generalize hz9 : iter _ _ _ _ _ = z8
      have hq10 : Q_p_bound_Mul_Light_l0 1 1 1 1 a0_0 a0_1 a0_2 a1_0 a1_1 a1_2 a2 ([a0_0, a0_1]) o93 z8 := by
        rw [← hz9]
        refine l_p_bound_Mul_Light_l0 L hL 1 1 1 1 a0_0 a0_1 a0_2 a1_0 a1_1 a1_2 a2 ([a0_0, a0_1]) _ L 0 ([]) _ _ _ c6 (cnt_0 (by decide) (by decide)) ?_ ?_ ?_ ?_ ?_ ?_ ?_ ?_ ?_ ?_ ?_ ?_ ?_ ho7
        all_goals simp only [go_sem, Nat.reduceAdd, Nat.reduceSub, Nat.reduceMul, Nat.reduceEqDiff, Nat.reduceBEq, Nat.reduceLT, Nat.reduceLeDiff, Nat.reducePow, Int.reduceToNat, Int.reduceLT, Int.reduceLE, Int.reduceGT, Int.reduceGE, Int.reduceEq, Int.reduceNeg, Int.reduceAdd, Int.reduceSub, Int.reduceMul, ↓reduceIte, reduceCtorEq, *]
      clear hz9 ho7
      rcases o93 with o93_0 | o93_1
      · obtain ⟨_, st94, rfl, rfl, ⟨k111, k112, k113⟩, ⟨k121, k122, k123⟩, ⟨k131, k132, k133⟩, ⟨k141, k142, k143⟩, ⟨k151, k152, k153⟩, k16, w17, w18, w19, w20⟩ := hq10
        dsimp only at h
        revert h
        refine bnd_i fun r95 c21 => ?_
        refine bnd_i fun r96 c22 => ?_
        refine bnd_i fun r97 c23 => ?_
        rintro ⟨⟩
        simp only [go_sem, Nat.reduceAdd, Nat.reduceSub, Nat.reduceMul, Nat.reduceEqDiff, Nat.reduceBEq, Nat.reduceLT, Nat.reduceLeDiff, Nat.reducePow, Int.reduceToNat, Int.reduceLT, Int.reduceLE, Int.reduceGT, Int.reduceGE, Int.reduceEq, Int.reduceNeg, Int.reduceAdd, Int.reduceSub, Int.reduceMul, ↓reduceIte, reduceCtorEq, *]
      · obtain ⟨_, st98, rfl, rfl, ⟨k241, k242, k243⟩, ⟨k251, k252, k253⟩, ⟨k261, k262, k263⟩, ⟨k271, k272, k273⟩, ⟨k281, k282, k283⟩, w29, w30, w31, w32⟩ := hq10
        dsimp only at h
        revert h
        rintro ⟨⟩
        simp only [go_sem, Nat.reduceAdd, Nat.reduceSub, Nat.reduceMul, Nat.reduceEqDiff, Nat.reduceBEq, Nat.reduceLT, Nat.reduceLeDiff, Nat.reducePow, Int.reduceToNat, Int.reduceLT, Int.reduceLE, Int.reduceGT, Int.reduceGE, Int.reduceEq, Int.reduceNeg, Int.reduceAdd, Int.reduceSub, Int.reduceMul, ↓reduceIte, reduceCtorEq, *]
noncomputable def s_bound_Mul_Light (L : Nat) : Ev.Spec := specP (cCons k37 (cCons k37 (cCons (cI .i64) cNil))) (fun x => p_bound_Mul_Light L x.1.1 x.1.2.1 x.1.2.2.1 x.2.1.1 x.2.1.2.1 x.2.1.2.2.1 x.2.2.1) (fun r => [.agg 37 [.int .i64 r.1, .int .i64 r.2.1, .bool r.2.2]])
theorem s_bound_Mul_Light_run (L : Nat) (a0_0 : Int) (a0_1 : Int) (a0_2 : Bool) (a1_0 : Int) (a1_1 : Int) (a1_2 : Bool) (a2 : Int) : (s_bound_Mul_Light L).run [.agg 37 [.int .i64 a0_0, .int .i64 a0_1, .bool a0_2], .agg 37 [.int .i64 a1_0, .int .i64 a1_1, .bool a1_2], .int .i64 a2] = (p_bound_Mul_Light L a0_0 a0_1 a0_2 a1_0 a1_1 a1_2 a2).map fun r => [.agg 37 [.int .i64 r.1, .int .i64 r.2.1, .bool r.2.2]] := specP_run (cCons k37 (cCons k37 (cCons (cI .i64) cNil))) (fun x => p_bound_Mul_Light L x.1.1 x.1.2.1 x.1.2.2.1 x.2.1.1 x.2.1.2.1 x.2.1.2.2.1 x.2.2.1) (fun r => [.agg 37 [.int .i64 r.1, .int .i64 r.2.1, .bool r.2.2]]) ((a0_0, a0_1, a0_2, ()), (a1_0, a1_1, a1_2, ()), a2, ())
theorem ok_bound_Mul_Light (L : Nat) (hL : L ≤ 4611686018427387904) : SpecOk Try.prog 160 (s_bound_Mul_Light L) := specP_ok mixed (Go_bound_Mul_Light L hL) (To_bound_Mul_Light L) fun x r h => ⟨L, 2, e_bound_Mul_Light L hL x.1.1 x.1.2.1 x.1.2.2.1 x.2.1.1 x.2.1.2.1 x.2.1.2.2.1 x.2.2.1 r h⟩
end Go.Proofs.Ytnojehmbiceceaa.P
end
section
set_option linter.unusedVariables false
set_option linter.unusedSimpArgs false
set_option maxRecDepth 100000
namespace Go.Proofs.Ytnojehmbiceceaa.E
open Go.Ev
noncomputable def en161 : Entry := ⟨Try.f161, [(1000000, mb 6 0 [2])]⟩
theorem mk161_1000000 (vs : List V) : mask (maskOf en161.ms 1000000) vs = km 6 0 [2] vs := mask_mb _ _ _ _
end Go.Proofs.Ytnojehmbiceceaa.E
end
section
set_option linter.unusedVariables false
set_option linter.unusedSimpArgs false
set_option maxRecDepth 100000
namespace Go.Proofs.Ytnojehmbiceceaa.P
open Go.Ev Go.IntKind Go.Proofs.Ytnojehmbiceceaa Go.Proofs.Ytnojehmbiceceaa.Ty Go.Proofs.Ytnojehmbiceceaa.E
def p_bound_Exact_Light (L : Nat) (a0 : Int) : Option (Int × Int × Bool) := bnd (p_bound_Of_Light L a0 a0) fun r1 => some (r1.1, r1.2.1, r1.2.2)
attribute [local go_sem] Ev.putR_s Ev.putR_0 Ev.thenO_s Ev.thenO_0 Ev.seqR_n Ev.seqR_e Ev.seqR_r Ev.seqR_0 Ev.blkR_e Ev.blkR_n Ev.blkR_r Ev.blkR_0 Ev.normR_s Ev.normR_0 Ev.outR_r Ev.outR_n Ev.outR_0 Ev.retS_s Ev.retS_0 Ev.pureO_s Ev.pureO_0 Ev.topR_0 Ev.topR_t Ev.topR_t0 Ev.oneL_0 Ev.oneL_s Ev.topR_d Ev.topR_nils Ev.topR_agg Ev.topR_rs Ev.evOp_move Ev.evOp_assign Ev.evOp_pick Ev.evOp_alloc Ev.evOp_box Ev.evOp_build Ev.evOp_buildSlice Ev.evOp_load Ev.evOp_store Ev.evOp_makeMap Ev.evOp_lookup Ev.evOp_mapUpdate Ev.evOp_insert Ev.evOp_nilCheck Ev.evOp_binOp Ev.evOp_unOp Ev.evOp_convert Ev.evOp_makeFunc Ev.evOp_makeSlice Ev.evOp_slice Ev.evOp_fieldAddr Ev.evOp_field Ev.evOp_indexAddr Ev.evOp_index Ev.evOp_extract Ev.evOp_call Ev.evOp_append Ev.evOp_clear Ev.evOp_len Ev.evOp_min Ev.evOp_max Ev.condR_b Ev.condR_t Ev.evOps_nil Ev.evOps_plain Ev.evOps_guard Ev.runG_eq Ev.skipG_eq Ev.condL_tt Ev.condL_ff Ev.condL_tf Ev.condL_ft Ev.condL_u Ev.condC_t Ev.condC_f Ev.evC_skip Ev.evC_ret Ev.evC_exit Ev.evC_label Ev.evC_region Ev.evC_draw Ev.evC_seq Ev.evC_cond Ev.evC_block Ev.evC_loop Ev.fin_d Ev.fin_nils Ev.fin_agg_ Ev.fin_rs Ev.finS_s Ev.mapO_fin Ev.upd_upd Ev.argv_d Ev.argv_nils Ev.argv_agg Ev.argv_rs Ev.argv_p Ev.fk_low Ev.appendTo_nils Ev.appendTo_rs Ev.consV_d Ev.consV_agg Ev.consV_p Ev.consV_rs Ev.consV_nils Ev.consV_fn Ev.consV_und Ev.consV_jk Ev.consV_grown Ev.topR_grown Ev.len_grown Ev.consV_mp Ev.sameK_i Ev.sameK_s Ev.mget_0 Ev.mget_hit Ev.mget_miss Ev.mput_0 Ev.mput_hit Ev.mput_miss Ev.apartAll Ev.apartL Ev.apartV Ev.freeAll Ev.sel Ev.keyOfV Ev.evLookup Ev.evPut Ev.hintOk Ev.keyOk Ev.consP Ev.lookV Ev.guardV Ev.dstAt Ev.evPure Ev.evStore Ev.evBin Ev.evBinO Ev.evNil Ev.isNilC Ev.evUn Ev.evConv Ev.evSlice Ev.optI Ev.foldI Ev.capsOk Ev.noTup Ev.nth Ev.setN Ev.killAt Ev.pad Ev.V.get Ev.V.put Ev.putD Ev.newBlk Ev.upd Ev.keq Ev.empty Ev.evCall Ev.V.args Ev.argP Ev.callOf Ev.evNilP Ev.isNilP Ev.look Ev.V.view.views Ev.V.view Ev.V.toD Ev.V.toD.V.toDs Ev.V.pure.pures Ev.V.pure Ev.D.flat.flats Ev.D.flat Ev.mkAgg Ev.allD Ev.aggParts Ev.setParts Ev.setElems Ev.getPath Ev.setPath Ev.subL Ev.eqD Ev.eqD.eqDs Ev.and2 Ev.strCut Ev.evalT Ev.constT Ev.evArgs Ev.mask Ev.maskOf Ev.tableOf Ev.compT Ev.resV Ev.retV Ev.mapO Ev.frzO_n Ev.frzO_e Ev.frzO_r Ev.frzO_0 Ev.mb_z Ev.mb_0 Ev.mb_s Ev.frzL_t Ev.frzL_f Ev.frzL_0 Ev.frzT_nils Ev.frzT_rs Ev.frzT_p Ev.frzK_i Ev.keyIn_i Ev.rI_nil Ev.rI_cons Ev.rI_row Ev.rI_app Ev.r_d Ev.r_nils Ev.r_agg Ev.r_rs Ev.r_gl Ev.vw_row Ev.vw_app Ev.appO_s Ev.frzT_gl Ev.allD_gl Ev.killAt_i Ev.tkOne_i Ev.hT_agg Ev.hT_vagg Ev.hT_int Ev.hT_bool Ev.hT_str Ev.hT_sl Ev.hT_ptr Ev.hT_np Ev.hT_p Ev.hT_rs Ev.hT_mp Ev.hT_nils Ev.hT_fn Ev.hT_jk Ev.hT_gl Ev.eO_sl Ev.eO_nils Ev.eO_rs Ev.eT_sl Ev.eT_rs Ev.pL_str Ev.pL_sl Ev.pL_rs Ev.pL_nils Ev.pL_min Ev.pL_max Ev.len_glB Ev.noTup_gl Ev.rowV_len Ev.rowV_nil Ev.rowV_cons Ev.rowV_append Ev.rowV_set Ev.rowV_replicate Ev.nth_row Ev.row_take Ev.row_drop Ev.toDs_row Ev.fin_row Ev.map_row Ev.map_take_ Ev.map_drop_ Ev.Bk_i Ev.GlB_0 Ev.GlB_mk Ev.gl_nil Ev.gl_cons Ev.gl_snoc Ev.gl_setN Ev.appendTo_gl Ev.consV_gl Ev.elems_gl Ev.fin_gl Ev.view_gl Ev.argv_gl Ev.topR_gl Ev.sp_z Ev.sp_0 Ev.sp_s Ev.km_z Ev.km_0 Ev.km_s Ev.beq_toList Ev.nc0 Ev.bq_t Ev.bq_f Ev.bodyN Ev.le_maxRow Int.cast_ofNat_Int IntWalk.i64_in IntWalk.u64_in IntWalk.u8_in beq_self_eq_true Bool.true_beq Bool.false_beq Bool.and_true Bool.true_and Bool.false_and Bool.and_false Bool.and_self Bool.not_true Bool.not_false Bool.not_eq_true cond_true cond_false if_true if_false and_true true_and and_self decide_true decide_false Bool.or_true Bool.true_or Bool.or_false Bool.false_or List.isEmpty List.isEmpty_nil List.size_toArray List.map List.length_map List.length_cons List.length_nil Option.map Option.bind Option.getD Option.isSome List.replicate Bool.false_eq_true implies_true false_implies forall_const Array.toList Array.isEmpty List.append List.nil_append List.cons_append List.drop_zero List.take_length List.take_succ_cons List.take_zero List.take_nil List.getElem?_map List.getElem?_cons_zero List.getElem?_cons_succ List.getElem?_nil List.append_nil eq_self Int.toNat_natCast List.length_append Nat.zero_add Nat.add_zero List.length_replicate Nat.sub_zero Option.map_some Option.map_none Int.le_refl Nat.le_refl Int.natCast_nonneg List.map_append
noncomputable def G_bound_Exact_Light (L : Nat) : Specs := [(211, s_bound_Of_Light L)]
noncomputable def T_bound_Exact_Light : Table := tableOf [(161, en161)]
theorem Go_bound_Exact_Light (L : Nat) (hL : L ≤ 4611686018427387904) : ∀ g s, Ev.look (G_bound_Exact_Light L) g = some s → SpecOk Try.prog g s := (specs_cons (ok_bound_Of_Light L hL) specs_nil)
theorem To_bound_Exact_Light (L : Nat) : TableOk Try.prog ((G_bound_Exact_Light L).map (·.1)) T_bound_Exact_Light := (table_cons Try.func161 (by kernel_rfl) (by kernel_rfl) table_nil)
theorem lk_bound_Exact_Light_211 (L : Nat) : Ev.look (G_bound_Exact_Light L) 211 = some (s_bound_Of_Light L) := nr rfl
attribute [local go_sem] Ty.tk4 Ty.ub4 Ty.ek4 Ty.zv4 Ty.by4 Ty.so4 Ty.tk32 Ty.ik32 Ty.ek32 Ty.zv32 Ty.by32 Ty.so32 Ty.tk37 Ty.ct37 Ty.ek37 Ty.zv37 Ty.by37 Ty.so37 Ty.k37_e E.mk161_1000000 lk_bound_Exact_Light_211 s_bound_Of_Light_run loopN loops Try.f161
theorem e_bound_Exact_Light (L : Nat) (hL : L ≤ 4611686018427387904) (a0 : Int) (res : Int × Int × Bool) (h : p_bound_Exact_Light L a0 = some res) : evTop Try.prog (G_bound_Exact_Light L) T_bound_Exact_Light L 1 161 [.int .i64 a0] = some [.agg 37 [.int .i64 res.1, .int .i64 res.2.1, .bool res.2.2]] := by
  revert h
  unfold p_bound_Exact_Light evTop
  simp only [List.map]
  rw [evF_s (fn := Try.f161) (msk := en161.ms) (hT := by rfl) (hb := by rfl)]
  refine bnd_i fun r1 c1 => ?_
  rintro ⟨⟩
  simp only [go_sem, Nat.reduceAdd, Nat.reduceSub, Nat.reduceMul, Nat.reduceEqDiff, Nat.reduceBEq, Nat.reduceLT, Nat.reduceLeDiff, Nat.reducePow, Int.reduceToNat, Int.reduceLT, Int.reduceLE, Int.reduceGT, Int.reduceGE, Int.reduceEq, Int.reduceNeg, Int.reduceAdd, Int.reduceSub, Int.reduceMul, ↓reduceIte, reduceCtorEq, *]
noncomputable def s_bound_Exact_Light (L : Nat) : Ev.Spec := specP (cCons (cI .i64) cNil) (fun x => p_bound_Exact_Light L x.1) (fun r => [.agg 37 [.int .i64 r.1, .int .i64 r.2.1, .bool r.2.2]])
theorem s_bound_Exact_Light_run (L : Nat) (a0 : Int) : (s_bound_Exact_Light L).run [.int .i64 a0] = (p_bound_Exact_Light L a0).map fun r => [.agg 37 [.int .i64 r.1, .int .i64 r.2.1, .bool r.2.2]] := specP_run (cCons (cI .i64) cNil) (fun x => p_bound_Exact_Light L x.1) (fun r => [.agg 37 [.int .i64 r.1, .int .i64 r.2.1, .bool r.2.2]]) (a0, ())
theorem ok_bound_Exact_Light (L : Nat) (hL : L ≤ 4611686018427387904) : SpecOk Try.prog 161 (s_bound_Exact_Light L) := specP_ok mixed (Go_bound_Exact_Light L hL) (To_bound_Exact_Light L) fun x r h => ⟨L, 1, e_bound_Exact_Light L hL x.1 r h⟩
end Go.Proofs.Ytnojehmbiceceaa.P
end
section
set_option linter.unusedVariables false
set_option linter.unusedSimpArgs false
set_option maxRecDepth 100000
namespace Go.Proofs.Ytnojehmbiceceaa.P
open Go.Ev Go.IntKind Go.Proofs.Ytnojehmbiceceaa Go.Proofs.Ytnojehmbiceceaa.Ty Go.Proofs.Ytnojehmbiceceaa.E
def p_bound_Scale_Light (L : Nat) (a0_0 : Int) (a0_1 : Int) (a0_2 : Bool) (a1 : Int) (a2 : Int) : Option (Int × Int × Bool) := bnd (p_bound_Exact_Light L a1) fun r1 => bnd (p_bound_Mul_Light L a0_0 a0_1 a0_2 r1.1 r1.2.1 r1.2.2 a2) fun r2 => some (r2.1, r2.2.1, r2.2.2)
attribute [local go_sem] Ev.putR_s Ev.putR_0 Ev.thenO_s Ev.thenO_0 Ev.seqR_n Ev.seqR_e Ev.seqR_r Ev.seqR_0 Ev.blkR_e Ev.blkR_n Ev.blkR_r Ev.blkR_0 Ev.normR_s Ev.normR_0 Ev.outR_r Ev.outR_n Ev.outR_0 Ev.retS_s Ev.retS_0 Ev.pureO_s Ev.pureO_0 Ev.topR_0 Ev.topR_t Ev.topR_t0 Ev.oneL_0 Ev.oneL_s Ev.topR_d Ev.topR_nils Ev.topR_agg Ev.topR_rs Ev.evOp_move Ev.evOp_assign Ev.evOp_pick Ev.evOp_alloc Ev.evOp_box Ev.evOp_build Ev.evOp_buildSlice Ev.evOp_load Ev.evOp_store Ev.evOp_makeMap Ev.evOp_lookup Ev.evOp_mapUpdate Ev.evOp_insert Ev.evOp_nilCheck Ev.evOp_binOp Ev.evOp_unOp Ev.evOp_convert Ev.evOp_makeFunc Ev.evOp_makeSlice Ev.evOp_slice Ev.evOp_fieldAddr Ev.evOp_field Ev.evOp_indexAddr Ev.evOp_index Ev.evOp_extract Ev.evOp_call Ev.evOp_append Ev.evOp_clear Ev.evOp_len Ev.evOp_min Ev.evOp_max Ev.condR_b Ev.condR_t Ev.evOps_nil Ev.evOps_plain Ev.evOps_guard Ev.runG_eq Ev.skipG_eq Ev.condL_tt Ev.condL_ff Ev.condL_tf Ev.condL_ft Ev.condL_u Ev.condC_t Ev.condC_f Ev.evC_skip Ev.evC_ret Ev.evC_exit Ev.evC_label Ev.evC_region Ev.evC_draw Ev.evC_seq Ev.evC_cond Ev.evC_block Ev.evC_loop Ev.fin_d Ev.fin_nils Ev.fin_agg_ Ev.fin_rs Ev.finS_s Ev.mapO_fin Ev.upd_upd Ev.argv_d Ev.argv_nils Ev.argv_agg Ev.argv_rs Ev.argv_p Ev.fk_low Ev.appendTo_nils Ev.appendTo_rs Ev.consV_d Ev.consV_agg Ev.consV_p Ev.consV_rs Ev.consV_nils Ev.consV_fn Ev.consV_und Ev.consV_jk Ev.consV_grown Ev.topR_grown Ev.len_grown Ev.consV_mp Ev.sameK_i Ev.sameK_s Ev.mget_0 Ev.mget_hit Ev.mget_miss Ev.mput_0 Ev.mput_hit Ev.mput_miss Ev.apartAll Ev.apartL Ev.apartV Ev.freeAll Ev.sel Ev.keyOfV Ev.evLookup Ev.evPut Ev.hintOk Ev.keyOk Ev.consP Ev.lookV Ev.guardV Ev.dstAt Ev.evPure Ev.evStore Ev.evBin Ev.evBinO Ev.evNil Ev.isNilC Ev.evUn Ev.evConv Ev.evSlice Ev.optI Ev.foldI Ev.capsOk Ev.noTup Ev.nth Ev.setN Ev.killAt Ev.pad Ev.V.get Ev.V.put Ev.putD Ev.newBlk Ev.upd Ev.keq Ev.empty Ev.evCall Ev.V.args Ev.argP Ev.callOf Ev.evNilP Ev.isNilP Ev.look Ev.V.view.views Ev.V.view Ev.V.toD Ev.V.toD.V.toDs Ev.V.pure.pures Ev.V.pure Ev.D.flat.flats Ev.D.flat Ev.mkAgg Ev.allD Ev.aggParts Ev.setParts Ev.setElems Ev.getPath Ev.setPath Ev.subL Ev.eqD Ev.eqD.eqDs Ev.and2 Ev.strCut Ev.evalT Ev.constT Ev.evArgs Ev.mask Ev.maskOf Ev.tableOf Ev.compT Ev.resV Ev.retV Ev.mapO Ev.frzO_n Ev.frzO_e Ev.frzO_r Ev.frzO_0 Ev.mb_z Ev.mb_0 Ev.mb_s Ev.frzL_t Ev.frzL_f Ev.frzL_0 Ev.frzT_nils Ev.frzT_rs Ev.frzT_p Ev.frzK_i Ev.keyIn_i Ev.rI_nil Ev.rI_cons Ev.rI_row Ev.rI_app Ev.r_d Ev.r_nils Ev.r_agg Ev.r_rs Ev.r_gl Ev.vw_row Ev.vw_app Ev.appO_s Ev.frzT_gl Ev.allD_gl Ev.killAt_i Ev.tkOne_i Ev.hT_agg Ev.hT_vagg Ev.hT_int Ev.hT_bool Ev.hT_str Ev.hT_sl Ev.hT_ptr Ev.hT_np Ev.hT_p Ev.hT_rs Ev.hT_mp Ev.hT_nils Ev.hT_fn Ev.hT_jk Ev.hT_gl Ev.eO_sl Ev.eO_nils Ev.eO_rs Ev.eT_sl Ev.eT_rs Ev.pL_str Ev.pL_sl Ev.pL_rs Ev.pL_nils Ev.pL_min Ev.pL_max Ev.len_glB Ev.noTup_gl Ev.rowV_len Ev.rowV_nil Ev.rowV_cons Ev.rowV_append Ev.rowV_set Ev.rowV_replicate Ev.nth_row Ev.row_take Ev.row_drop Ev.toDs_row Ev.fin_row Ev.map_row Ev.map_take_ Ev.map_drop_ Ev.Bk_i Ev.GlB_0 Ev.GlB_mk Ev.gl_nil Ev.gl_cons Ev.gl_snoc Ev.gl_setN Ev.appendTo_gl Ev.consV_gl Ev.elems_gl Ev.fin_gl Ev.view_gl Ev.argv_gl Ev.topR_gl Ev.sp_z Ev.sp_0 Ev.sp_s Ev.km_z Ev.km_0 Ev.km_s Ev.beq_toList Ev.nc0 Ev.bq_t Ev.bq_f Ev.bodyN Ev.le_maxRow Int.cast_ofNat_Int IntWalk.i64_in IntWalk.u64_in IntWalk.u8_in beq_self_eq_true Bool.true_beq Bool.false_beq Bool.and_true Bool.true_and Bool.false_and Bool.and_false Bool.and_self Bool.not_true Bool.not_false Bool.not_eq_true cond_true cond_false if_true if_false and_true true_and and_self decide_true decide_false Bool.or_true Bool.true_or Bool.or_false Bool.false_or List.isEmpty List.isEmpty_nil List.size_toArray List.map List.length_map List.length_cons List.length_nil Option.map Option.bind Option.getD Option.isSome List.replicate Bool.false_eq_true implies_true false_implies forall_const Array.toList Array.isEmpty List.append List.nil_append List.cons_append List.drop_zero List.take_length List.take_succ_cons List.take_zero List.take_nil List.getElem?_map List.getElem?_cons_zero List.getElem?_cons_succ List.getElem?_nil List.append_nil eq_self Int.toNat_natCast List.length_append Nat.zero_add Nat.add_zero List.length_replicate Nat.sub_zero Option.map_some Option.map_none Int.le_refl Nat.le_refl Int.natCast_nonneg List.map_append
noncomputable def G_bound_Scale_Light (L : Nat) : Specs := [(160, s_bound_Mul_Light L), (161, s_bound_Exact_Light L)]
noncomputable def T_bound_Scale_Light : Table := tableOf [(72, en72)]
theorem Go_bound_Scale_Light (L : Nat) (hL : L ≤ 4611686018427387904) : ∀ g s, Ev.look (G_bound_Scale_Light L) g = some s → SpecOk Try.prog g s := (specs_cons (ok_bound_Mul_Light L hL) (specs_cons (ok_bound_Exact_Light L hL) specs_nil))
theorem To_bound_Scale_Light (L : Nat) : TableOk Try.prog ((G_bound_Scale_Light L).map (·.1)) T_bound_Scale_Light := (table_cons Try.func72 (by kernel_rfl) (by kernel_rfl) table_nil)
theorem lk_bound_Scale_Light_160 (L : Nat) : Ev.look (G_bound_Scale_Light L) 160 = some (s_bound_Mul_Light L) := nr rfl
theorem lk_bound_Scale_Light_161 (L : Nat) : Ev.look (G_bound_Scale_Light L) 161 = some (s_bound_Exact_Light L) := nr rfl
attribute [local go_sem] Ty.tk2 Ty.ik2 Ty.ek2 Ty.zv2 Ty.by2 Ty.so2 Ty.tk4 Ty.ub4 Ty.ek4 Ty.zv4 Ty.by4 Ty.so4 Ty.tk32 Ty.ik32 Ty.ek32 Ty.zv32 Ty.by32 Ty.so32 Ty.tk37 Ty.ct37 Ty.ek37 Ty.zv37 Ty.by37 Ty.so37 Ty.k37_e E.dw72_1 E.kl72_1 E.nc72_1 E.mk72_1000000 lk_bound_Scale_Light_160 lk_bound_Scale_Light_161 s_bound_Mul_Light_run s_bound_Exact_Light_run loopN loops Try.f72
theorem e_bound_Scale_Light (L : Nat) (hL : L ≤ 4611686018427387904) (a0_0 : Int) (a0_1 : Int) (a0_2 : Bool) (a1 : Int) (a2 : Int) (res : Int × Int × Bool) (h : p_bound_Scale_Light L a0_0 a0_1 a0_2 a1 a2 = some res) : evTop Try.prog (G_bound_Scale_Light L) T_bound_Scale_Light L 1 72 [.agg 37 [.int .i64 a0_0, .int .i64 a0_1, .bool a0_2], .int .i64 a1, .int .i64 a2] = some [.agg 37 [.int .i64 res.1, .int .i64 res.2.1, .bool res.2.2]] := by
  revert h
  unfold p_bound_Scale_Light evTop
  simp only [List.map]
  rw [evF_s (fn := Try.f72) (msk := en72.ms) (hT := by rfl) (hb := by rfl)]
  refine bnd_i fun r1 c1 => ?_
  refine bnd_i fun r2 c2 => ?_
  rintro ⟨⟩
  simp only [go_sem, Nat.reduceAdd, Nat.reduceSub, Nat.reduceMul, Nat.reduceEqDiff, Nat.reduceBEq, Nat.reduceLT, Nat.reduceLeDiff, Nat.reducePow, Int.reduceToNat, Int.reduceLT, Int.reduceLE, Int.reduceGT, Int.reduceGE, Int.reduceEq, Int.reduceNeg, Int.reduceAdd, Int.reduceSub, Int.reduceMul, ↓reduceIte, reduceCtorEq, *]
noncomputable def s_bound_Scale_Light (L : Nat) : Ev.Spec := specP (cCons k37 (cCons (cI .i64) (cCons (cI .i64) cNil))) (fun x => p_bound_Scale_Light L x.1.1 x.1.2.1 x.1.2.2.1 x.2.1 x.2.2.1) (fun r => [.agg 37 [.int .i64 r.1, .int .i64 r.2.1, .bool r.2.2]])
theorem s_bound_Scale_Light_run (L : Nat) (a0_0 : Int) (a0_1 : Int) (a0_2 : Bool) (a1 : Int) (a2 : Int) : (s_bound_Scale_Light L).run [.agg 37 [.int .i64 a0_0, .int .i64 a0_1, .bool a0_2], .int .i64 a1, .int .i64 a2] = (p_bound_Scale_Light L a0_0 a0_1 a0_2 a1 a2).map fun r => [.agg 37 [.int .i64 r.1, .int .i64 r.2.1, .bool r.2.2]] := specP_run (cCons k37 (cCons (cI .i64) (cCons (cI .i64) cNil))) (fun x => p_bound_Scale_Light L x.1.1 x.1.2.1 x.1.2.2.1 x.2.1 x.2.2.1) (fun r => [.agg 37 [.int .i64 r.1, .int .i64 r.2.1, .bool r.2.2]]) ((a0_0, a0_1, a0_2, ()), a1, a2, ())
theorem ok_bound_Scale_Light (L : Nat) (hL : L ≤ 4611686018427387904) : SpecOk Try.prog 72 (s_bound_Scale_Light L) := specP_ok mixed (Go_bound_Scale_Light L hL) (To_bound_Scale_Light L) fun x r h => ⟨L, 1, e_bound_Scale_Light L hL x.1.1 x.1.2.1 x.1.2.2.1 x.2.1 x.2.2.1 r h⟩
end Go.Proofs.Ytnojehmbiceceaa.P
end
section
set_option linter.unusedVariables false
set_option linter.unusedSimpArgs false
set_option maxRecDepth 100000
namespace Go.Proofs.Ytnojehmbiceceaa.E
open Go.Ev
noncomputable def en73 : Entry := ⟨Try.f73, [(1000000, mb 12 0 [2])]⟩
theorem mk73_1000000 (vs : List V) : mask (maskOf en73.ms 1000000) vs = km 12 0 [2] vs := mask_mb _ _ _ _
end Go.Proofs.Ytnojehmbiceceaa.E
end
section
set_option linter.unusedVariables false
set_option linter.unusedSimpArgs false
set_option maxRecDepth 100000
namespace Go.Proofs.Ytnojehmbiceceaa.P
open Go.Ev Go.IntKind Go.Proofs.Ytnojehmbiceceaa Go.Proofs.Ytnojehmbiceceaa.Ty Go.Proofs.Ytnojehmbiceceaa.E
def p_bound_As_Light_Quanta (L : Nat) (a0_0 : Int) (a0_1 : Int) (a0_2 : Bool) : Option (Int × Int × Bool) := bnd (p_bound_Norm_Quanta L a0_0 a0_1 a0_2) fun r1 => some (r1.1, r1.2.1, r1.2.2)
attribute [local go_sem] Ev.putR_s Ev.putR_0 Ev.thenO_s Ev.thenO_0 Ev.seqR_n Ev.seqR_e Ev.seqR_r Ev.seqR_0 Ev.blkR_e Ev.blkR_n Ev.blkR_r Ev.blkR_0 Ev.normR_s Ev.normR_0 Ev.outR_r Ev.outR_n Ev.outR_0 Ev.retS_s Ev.retS_0 Ev.pureO_s Ev.pureO_0 Ev.topR_0 Ev.topR_t Ev.topR_t0 Ev.oneL_0 Ev.oneL_s Ev.topR_d Ev.topR_nils Ev.topR_agg Ev.topR_rs Ev.evOp_move Ev.evOp_assign Ev.evOp_pick Ev.evOp_alloc Ev.evOp_box Ev.evOp_build Ev.evOp_buildSlice Ev.evOp_load Ev.evOp_store Ev.evOp_makeMap Ev.evOp_lookup Ev.evOp_mapUpdate Ev.evOp_insert Ev.evOp_nilCheck Ev.evOp_binOp Ev.evOp_unOp Ev.evOp_convert Ev.evOp_makeFunc Ev.evOp_makeSlice Ev.evOp_slice Ev.evOp_fieldAddr Ev.evOp_field Ev.evOp_indexAddr Ev.evOp_index Ev.evOp_extract Ev.evOp_call Ev.evOp_append Ev.evOp_clear Ev.evOp_len Ev.evOp_min Ev.evOp_max Ev.condR_b Ev.condR_t Ev.evOps_nil Ev.evOps_plain Ev.evOps_guard Ev.runG_eq Ev.skipG_eq Ev.condL_tt Ev.condL_ff Ev.condL_tf Ev.condL_ft Ev.condL_u Ev.condC_t Ev.condC_f Ev.evC_skip Ev.evC_ret Ev.evC_exit Ev.evC_label Ev.evC_region Ev.evC_draw Ev.evC_seq Ev.evC_cond Ev.evC_block Ev.evC_loop Ev.fin_d Ev.fin_nils Ev.fin_agg_ Ev.fin_rs Ev.finS_s Ev.mapO_fin Ev.upd_upd Ev.argv_d Ev.argv_nils Ev.argv_agg Ev.argv_rs Ev.argv_p Ev.fk_low Ev.appendTo_nils Ev.appendTo_rs Ev.consV_d Ev.consV_agg Ev.consV_p Ev.consV_rs Ev.consV_nils Ev.consV_fn Ev.consV_und Ev.consV_jk Ev.consV_grown Ev.topR_grown Ev.len_grown Ev.consV_mp Ev.sameK_i Ev.sameK_s Ev.mget_0 Ev.mget_hit Ev.mget_miss Ev.mput_0 Ev.mput_hit Ev.mput_miss Ev.apartAll Ev.apartL Ev.apartV Ev.freeAll Ev.sel Ev.keyOfV Ev.evLookup Ev.evPut Ev.hintOk Ev.keyOk Ev.consP Ev.lookV Ev.guardV Ev.dstAt Ev.evPure Ev.evStore Ev.evBin Ev.evBinO Ev.evNil Ev.isNilC Ev.evUn Ev.evConv Ev.evSlice Ev.optI Ev.foldI Ev.capsOk Ev.noTup Ev.nth Ev.setN Ev.killAt Ev.pad Ev.V.get Ev.V.put Ev.putD Ev.newBlk Ev.upd Ev.keq Ev.empty Ev.evCall Ev.V.args Ev.argP Ev.callOf Ev.evNilP Ev.isNilP Ev.look Ev.V.view.views Ev.V.view Ev.V.toD Ev.V.toD.V.toDs Ev.V.pure.pures Ev.V.pure Ev.D.flat.flats Ev.D.flat Ev.mkAgg Ev.allD Ev.aggParts Ev.setParts Ev.setElems Ev.getPath Ev.setPath Ev.subL Ev.eqD Ev.eqD.eqDs Ev.and2 Ev.strCut Ev.evalT Ev.constT Ev.evArgs Ev.mask Ev.maskOf Ev.tableOf Ev.compT Ev.resV Ev.retV Ev.mapO Ev.frzO_n Ev.frzO_e Ev.frzO_r Ev.frzO_0 Ev.mb_z Ev.mb_0 Ev.mb_s Ev.frzL_t Ev.frzL_f Ev.frzL_0 Ev.frzT_nils Ev.frzT_rs Ev.frzT_p Ev.frzK_i Ev.keyIn_i Ev.rI_nil Ev.rI_cons Ev.rI_row Ev.rI_app Ev.r_d Ev.r_nils Ev.r_agg Ev.r_rs Ev.r_gl Ev.vw_row Ev.vw_app Ev.appO_s Ev.frzT_gl Ev.allD_gl Ev.killAt_i Ev.tkOne_i Ev.hT_agg Ev.hT_vagg Ev.hT_int Ev.hT_bool Ev.hT_str Ev.hT_sl Ev.hT_ptr Ev.hT_np Ev.hT_p Ev.hT_rs Ev.hT_mp Ev.hT_nils Ev.hT_fn Ev.hT_jk Ev.hT_gl Ev.eO_sl Ev.eO_nils Ev.eO_rs Ev.eT_sl Ev.eT_rs Ev.pL_str Ev.pL_sl Ev.pL_rs Ev.pL_nils Ev.pL_min Ev.pL_max Ev.len_glB Ev.noTup_gl Ev.rowV_len Ev.rowV_nil Ev.rowV_cons Ev.rowV_append Ev.rowV_set Ev.rowV_replicate Ev.nth_row Ev.row_take Ev.row_drop Ev.toDs_row Ev.fin_row Ev.map_row Ev.map_take_ Ev.map_drop_ Ev.Bk_i Ev.GlB_0 Ev.GlB_mk Ev.gl_nil Ev.gl_cons Ev.gl_snoc Ev.gl_setN Ev.appendTo_gl Ev.consV_gl Ev.elems_gl Ev.fin_gl Ev.view_gl Ev.argv_gl Ev.topR_gl Ev.sp_z Ev.sp_0 Ev.sp_s Ev.km_z Ev.km_0 Ev.km_s Ev.beq_toList Ev.nc0 Ev.bq_t Ev.bq_f Ev.bodyN Ev.le_maxRow Int.cast_ofNat_Int IntWalk.i64_in IntWalk.u64_in IntWalk.u8_in beq_self_eq_true Bool.true_beq Bool.false_beq Bool.and_true Bool.true_and Bool.false_and Bool.and_false Bool.and_self Bool.not_true Bool.not_false Bool.not_eq_true cond_true cond_false if_true if_false and_true true_and and_self decide_true decide_false Bool.or_true Bool.true_or Bool.or_false Bool.false_or List.isEmpty List.isEmpty_nil List.size_toArray List.map List.length_map List.length_cons List.length_nil Option.map Option.bind Option.getD Option.isSome List.replicate Bool.false_eq_true implies_true false_implies forall_const Array.toList Array.isEmpty List.append List.nil_append List.cons_append List.drop_zero List.take_length List.take_succ_cons List.take_zero List.take_nil List.getElem?_map List.getElem?_cons_zero List.getElem?_cons_succ List.getElem?_nil List.append_nil eq_self Int.toNat_natCast List.length_append Nat.zero_add Nat.add_zero List.length_replicate Nat.sub_zero Option.map_some Option.map_none Int.le_refl Nat.le_refl Int.natCast_nonneg List.map_append
noncomputable def G_bound_As_Light_Quanta (L : Nat) : Specs := [(75, s_bound_Norm_Quanta L)]
noncomputable def T_bound_As_Light_Quanta : Table := tableOf [(73, en73)]
theorem Go_bound_As_Light_Quanta (L : Nat) (hL : L ≤ 4611686018427387904) : ∀ g s, Ev.look (G_bound_As_Light_Quanta L) g = some s → SpecOk Try.prog g s := (specs_cons (ok_bound_Norm_Quanta L hL) specs_nil)
theorem To_bound_As_Light_Quanta (L : Nat) : TableOk Try.prog ((G_bound_As_Light_Quanta L).map (·.1)) T_bound_As_Light_Quanta := (table_cons Try.func73 (by kernel_rfl) (by kernel_rfl) table_nil)
theorem lk_bound_As_Light_Quanta_75 (L : Nat) : Ev.look (G_bound_As_Light_Quanta L) 75 = some (s_bound_Norm_Quanta L) := nr rfl
attribute [local go_sem] Ty.tk4 Ty.ub4 Ty.ek4 Ty.zv4 Ty.by4 Ty.so4 Ty.tk24 Ty.ik24 Ty.ek24 Ty.zv24 Ty.by24 Ty.so24 Ty.tk32 Ty.ik32 Ty.ek32 Ty.zv32 Ty.by32 Ty.so32 Ty.tk35 Ty.ct35 Ty.ek35 Ty.zv35 Ty.by35 Ty.so35 Ty.tk37 Ty.ct37 Ty.ek37 Ty.zv37 Ty.by37 Ty.so37 Ty.k35_e Ty.k37_e E.mk73_1000000 lk_bound_As_Light_Quanta_75 s_bound_Norm_Quanta_run loopN loops Try.f73
theorem e_bound_As_Light_Quanta (L : Nat) (hL : L ≤ 4611686018427387904) (a0_0 : Int) (a0_1 : Int) (a0_2 : Bool) (res : Int × Int × Bool) (h : p_bound_As_Light_Quanta L a0_0 a0_1 a0_2 = some res) : evTop Try.prog (G_bound_As_Light_Quanta L) T_bound_As_Light_Quanta L 1 73 [.agg 35 [.int .i64 a0_0, .int .i64 a0_1, .bool a0_2]] = some [.agg 37 [.int .i64 res.1, .int .i64 res.2.1, .bool res.2.2]] := by
  revert h
  unfold p_bound_As_Light_Quanta evTop
  simp only [List.map]
  rw [evF_s (fn := Try.f73) (msk := en73.ms) (hT := by rfl) (hb := by rfl)]
  refine bnd_i fun r1 c1 => ?_
  rintro ⟨⟩
  simp only [go_sem, Nat.reduceAdd, Nat.reduceSub, Nat.reduceMul, Nat.reduceEqDiff, Nat.reduceBEq, Nat.reduceLT, Nat.reduceLeDiff, Nat.reducePow, Int.reduceToNat, Int.reduceLT, Int.reduceLE, Int.reduceGT, Int.reduceGE, Int.reduceEq, Int.reduceNeg, Int.reduceAdd, Int.reduceSub, Int.reduceMul, ↓reduceIte, reduceCtorEq, *]
noncomputable def s_bound_As_Light_Quanta (L : Nat) : Ev.Spec := specP (cCons k35 cNil) (fun x => p_bound_As_Light_Quanta L x.1.1 x.1.2.1 x.1.2.2.1) (fun r => [.agg 37 [.int .i64 r.1, .int .i64 r.2.1, .bool r.2.2]])
theorem s_bound_As_Light_Quanta_run (L : Nat) (a0_0 : Int) (a0_1 : Int) (a0_2 : Bool) : (s_bound_As_Light_Quanta L).run [.agg 35 [.int .i64 a0_0, .int .i64 a0_1, .bool a0_2]] = (p_bound_As_Light_Quanta L a0_0 a0_1 a0_2).map fun r => [.agg 37 [.int .i64 r.1, .int .i64 r.2.1, .bool r.2.2]] := specP_run (cCons k35 cNil) (fun x => p_bound_As_Light_Quanta L x.1.1 x.1.2.1 x.1.2.2.1) (fun r => [.agg 37 [.int .i64 r.1, .int .i64 r.2.1, .bool r.2.2]]) ((a0_0, a0_1, a0_2, ()), ())
theorem ok_bound_As_Light_Quanta (L : Nat) (hL : L ≤ 4611686018427387904) : SpecOk Try.prog 73 (s_bound_As_Light_Quanta L) := specP_ok mixed (Go_bound_As_Light_Quanta L hL) (To_bound_As_Light_Quanta L) fun x r h => ⟨L, 1, e_bound_As_Light_Quanta L hL x.1.1 x.1.2.1 x.1.2.2.1 r h⟩
end Go.Proofs.Ytnojehmbiceceaa.P
end
section
set_option linter.unusedVariables false
set_option linter.unusedSimpArgs false
set_option maxRecDepth 100000
namespace Go.Proofs.Ytnojehmbiceceaa.E
open Go.Ev
noncomputable def en76 : Entry := ⟨Try.f76, [(1000000, mb 8 0 [2])]⟩
theorem mk76_1000000 (vs : List V) : mask (maskOf en76.ms 1000000) vs = km 8 0 [2] vs := mask_mb _ _ _ _
end Go.Proofs.Ytnojehmbiceceaa.E
end
section
set_option linter.unusedVariables false
set_option linter.unusedSimpArgs false
set_option maxRecDepth 100000
namespace Go.Proofs.Ytnojehmbiceceaa.E
open Go.Ev
noncomputable def en164 : Entry := ⟨Try.f164, [(1000001, mb 37 0 []), (1000000, mb 37 0 [2])]⟩
theorem mk164_1000001 (vs : List V) : mask (maskOf en164.ms 1000001) vs = km 37 0 [] vs := mask_mb _ _ _ _
theorem mk164_1000000 (vs : List V) : mask (maskOf en164.ms 1000000) vs = km 37 0 [2] vs := mask_mb _ _ _ _
end Go.Proofs.Ytnojehmbiceceaa.E
end
section
set_option linter.unusedVariables false
set_option linter.unusedSimpArgs false
set_option maxRecDepth 100000
namespace Go.Proofs.Ytnojehmbiceceaa.P
open Go.Ev Go.IntKind Go.Proofs.Ytnojehmbiceceaa Go.Proofs.Ytnojehmbiceceaa.Ty Go.Proofs.Ytnojehmbiceceaa.E
def p_bound_Check_Part (L : Nat) (a0_0 : Int) (a0_1 : Int) (a0_2 : Bool) : Option Int := cb a0_2 (cb (decide (a0_0 = 0)) (cb (decide (a0_1 = 0)) (if (minI a0_0 a0_1) < (-1152921504606846976) then (some 4) else (if (maxI a0_0 a0_1) > 1152921504606846976 then (some 4) else (if a0_0 > a0_1 then (some 11) else (some 0)))) (some 3)) (some 3)) (if (minI a0_0 a0_1) < (-1152921504606846976) then (some 4) else (if (maxI a0_0 a0_1) > 1152921504606846976 then (some 4) else (if a0_0 > a0_1 then (some 11) else (some 0))))
attribute [local go_sem] Ev.putR_s Ev.putR_0 Ev.thenO_s Ev.thenO_0 Ev.seqR_n Ev.seqR_e Ev.seqR_r Ev.seqR_0 Ev.blkR_e Ev.blkR_n Ev.blkR_r Ev.blkR_0 Ev.normR_s Ev.normR_0 Ev.outR_r Ev.outR_n Ev.outR_0 Ev.retS_s Ev.retS_0 Ev.pureO_s Ev.pureO_0 Ev.topR_0 Ev.topR_t Ev.topR_t0 Ev.oneL_0 Ev.oneL_s Ev.topR_d Ev.topR_nils Ev.topR_agg Ev.topR_rs Ev.evOp_move Ev.evOp_assign Ev.evOp_pick Ev.evOp_alloc Ev.evOp_box Ev.evOp_build Ev.evOp_buildSlice Ev.evOp_load Ev.evOp_store Ev.evOp_makeMap Ev.evOp_lookup Ev.evOp_mapUpdate Ev.evOp_insert Ev.evOp_nilCheck Ev.evOp_binOp Ev.evOp_unOp Ev.evOp_convert Ev.evOp_makeFunc Ev.evOp_makeSlice Ev.evOp_slice Ev.evOp_fieldAddr Ev.evOp_field Ev.evOp_indexAddr Ev.evOp_index Ev.evOp_extract Ev.evOp_call Ev.evOp_append Ev.evOp_clear Ev.evOp_len Ev.evOp_min Ev.evOp_max Ev.condR_b Ev.condR_t Ev.evOps_nil Ev.evOps_plain Ev.evOps_guard Ev.runG_eq Ev.skipG_eq Ev.condL_tt Ev.condL_ff Ev.condL_tf Ev.condL_ft Ev.condL_u Ev.condC_t Ev.condC_f Ev.evC_skip Ev.evC_ret Ev.evC_exit Ev.evC_label Ev.evC_region Ev.evC_draw Ev.evC_seq Ev.evC_cond Ev.evC_block Ev.evC_loop Ev.fin_d Ev.fin_nils Ev.fin_agg_ Ev.fin_rs Ev.finS_s Ev.mapO_fin Ev.upd_upd Ev.argv_d Ev.argv_nils Ev.argv_agg Ev.argv_rs Ev.argv_p Ev.fk_low Ev.appendTo_nils Ev.appendTo_rs Ev.consV_d Ev.consV_agg Ev.consV_p Ev.consV_rs Ev.consV_nils Ev.consV_fn Ev.consV_und Ev.consV_jk Ev.consV_grown Ev.topR_grown Ev.len_grown Ev.consV_mp Ev.sameK_i Ev.sameK_s Ev.mget_0 Ev.mget_hit Ev.mget_miss Ev.mput_0 Ev.mput_hit Ev.mput_miss Ev.apartAll Ev.apartL Ev.apartV Ev.freeAll Ev.sel Ev.keyOfV Ev.evLookup Ev.evPut Ev.hintOk Ev.keyOk Ev.consP Ev.lookV Ev.guardV Ev.dstAt Ev.evPure Ev.evStore Ev.evBin Ev.evBinO Ev.evNil Ev.isNilC Ev.evUn Ev.evConv Ev.evSlice Ev.optI Ev.foldI Ev.capsOk Ev.noTup Ev.nth Ev.setN Ev.killAt Ev.pad Ev.V.get Ev.V.put Ev.putD Ev.newBlk Ev.upd Ev.keq Ev.empty Ev.evCall Ev.V.args Ev.argP Ev.callOf Ev.evNilP Ev.isNilP Ev.look Ev.V.view.views Ev.V.view Ev.V.toD Ev.V.toD.V.toDs Ev.V.pure.pures Ev.V.pure Ev.D.flat.flats Ev.D.flat Ev.mkAgg Ev.allD Ev.aggParts Ev.setParts Ev.setElems Ev.getPath Ev.setPath Ev.subL Ev.eqD Ev.eqD.eqDs Ev.and2 Ev.strCut Ev.evalT Ev.constT Ev.evArgs Ev.mask Ev.maskOf Ev.tableOf Ev.compT Ev.resV Ev.retV Ev.mapO Ev.frzO_n Ev.frzO_e Ev.frzO_r Ev.frzO_0 Ev.mb_z Ev.mb_0 Ev.mb_s Ev.frzL_t Ev.frzL_f Ev.frzL_0 Ev.frzT_nils Ev.frzT_rs Ev.frzT_p Ev.frzK_i Ev.keyIn_i Ev.rI_nil Ev.rI_cons Ev.rI_row Ev.rI_app Ev.r_d Ev.r_nils Ev.r_agg Ev.r_rs Ev.r_gl Ev.vw_row Ev.vw_app Ev.appO_s Ev.frzT_gl Ev.allD_gl Ev.killAt_i Ev.tkOne_i Ev.hT_agg Ev.hT_vagg Ev.hT_int Ev.hT_bool Ev.hT_str Ev.hT_sl Ev.hT_ptr Ev.hT_np Ev.hT_p Ev.hT_rs Ev.hT_mp Ev.hT_nils Ev.hT_fn Ev.hT_jk Ev.hT_gl Ev.eO_sl Ev.eO_nils Ev.eO_rs Ev.eT_sl Ev.eT_rs Ev.pL_str Ev.pL_sl Ev.pL_rs Ev.pL_nils Ev.pL_min Ev.pL_max Ev.len_glB Ev.noTup_gl Ev.rowV_len Ev.rowV_nil Ev.rowV_cons Ev.rowV_append Ev.rowV_set Ev.rowV_replicate Ev.nth_row Ev.row_take Ev.row_drop Ev.toDs_row Ev.fin_row Ev.map_row Ev.map_take_ Ev.map_drop_ Ev.Bk_i Ev.GlB_0 Ev.GlB_mk Ev.gl_nil Ev.gl_cons Ev.gl_snoc Ev.gl_setN Ev.appendTo_gl Ev.consV_gl Ev.elems_gl Ev.fin_gl Ev.view_gl Ev.argv_gl Ev.topR_gl Ev.sp_z Ev.sp_0 Ev.sp_s Ev.km_z Ev.km_0 Ev.km_s Ev.beq_toList Ev.nc0 Ev.bq_t Ev.bq_f Ev.bodyN Ev.le_maxRow Int.cast_ofNat_Int IntWalk.i64_in IntWalk.u64_in IntWalk.u8_in beq_self_eq_true Bool.true_beq Bool.false_beq Bool.and_true Bool.true_and Bool.false_and Bool.and_false Bool.and_self Bool.not_true Bool.not_false Bool.not_eq_true cond_true cond_false if_true if_false and_true true_and and_self decide_true decide_false Bool.or_true Bool.true_or Bool.or_false Bool.false_or List.isEmpty List.isEmpty_nil List.size_toArray List.map List.length_map List.length_cons List.length_nil Option.map Option.bind Option.getD Option.isSome List.replicate Bool.false_eq_true implies_true false_implies forall_const Array.toList Array.isEmpty List.append List.nil_append List.cons_append List.drop_zero List.take_length List.take_succ_cons List.take_zero List.take_nil List.getElem?_map List.getElem?_cons_zero List.getElem?_cons_succ List.getElem?_nil List.append_nil eq_self Int.toNat_natCast List.length_append Nat.zero_add Nat.add_zero List.length_replicate Nat.sub_zero Option.map_some Option.map_none Int.le_refl Nat.le_refl Int.natCast_nonneg List.map_append
noncomputable def G_bound_Check_Part (L : Nat) : Specs := []
noncomputable def T_bound_Check_Part : Table := tableOf [(164, en164)]
theorem Go_bound_Check_Part (L : Nat) (hL : L ≤ 4611686018427387904) : ∀ g s, Ev.look (G_bound_Check_Part L) g = some s → SpecOk Try.prog g s := specs_nil
theorem To_bound_Check_Part (L : Nat) : TableOk Try.prog ((G_bound_Check_Part L).map (·.1)) T_bound_Check_Part := (table_cons Try.func164 (by kernel_rfl) (by kernel_rfl) table_nil)
attribute [local go_sem] Ty.tk4 Ty.ub4 Ty.ek4 Ty.zv4 Ty.by4 Ty.so4 Ty.tk27 Ty.ik27 Ty.ek27 Ty.zv27 Ty.by27 Ty.so27 Ty.tk38 Ty.ik38 Ty.ek38 Ty.zv38 Ty.by38 Ty.so38 Ty.tk40 Ty.ct40 Ty.ek40 Ty.zv40 Ty.by40 Ty.so40 Ty.k40_e E.mk164_1000001 E.mk164_1000000 loopN loops Try.f164
theorem e_bound_Check_Part (L : Nat) (hL : L ≤ 4611686018427387904) (a0_0 : Int) (a0_1 : Int) (a0_2 : Bool) (res : Int) (h : p_bound_Check_Part L a0_0 a0_1 a0_2 = some res) : evTop Try.prog (G_bound_Check_Part L) T_bound_Check_Part L 1 164 [.agg 40 [.int .i64 a0_0, .int .i64 a0_1, .bool a0_2]] = some [.int .i64 res] := by
  revert h
  unfold p_bound_Check_Part evTop
  simp only [List.map]
  rw [evF_s (fn := Try.f164) (msk := en164.ms) (hT := by rfl) (hb := by rfl)]
  refine cb_i (fun c1 => ?_) (fun c1 => ?_)
  · refine cb_i (fun c2 => ?_) (fun c2 => ?_)
    · refine cb_i (fun c3 => ?_) (fun c3 => ?_)
      · refine ite_i (fun c4 => ?_) (fun c4 => ?_)
        · rintro ⟨⟩
          simp only [go_sem, Nat.reduceAdd, Nat.reduceSub, Nat.reduceMul, Nat.reduceEqDiff, Nat.reduceBEq, Nat.reduceLT, Nat.reduceLeDiff, Nat.reducePow, Int.reduceToNat, Int.reduceLT, Int.reduceLE, Int.reduceGT, Int.reduceGE, Int.reduceEq, Int.reduceNeg, Int.reduceAdd, Int.reduceSub, Int.reduceMul, ↓reduceIte, reduceCtorEq, *]
        · refine ite_i (fun c5 => ?_) (fun c5 => ?_)
          · rintro ⟨⟩
            simp only [go_sem, Nat.reduceAdd, Nat.reduceSub, Nat.reduceMul, Nat.reduceEqDiff, Nat.reduceBEq, Nat.reduceLT, Nat.reduceLeDiff, Nat.reducePow, Int.reduceToNat, Int.reduceLT, Int.reduceLE, Int.reduceGT, Int.reduceGE, Int.reduceEq, Int.reduceNeg, Int.reduceAdd, Int.reduceSub, Int.reduceMul, ↓reduceIte, reduceCtorEq, *]
          · refine ite_i (fun c6 => ?_) (fun c6 => ?_)
            · rintro ⟨⟩
              simp only [go_sem, Nat.reduceAdd, Nat.reduceSub, Nat.reduceMul, Nat.reduceEqDiff, Nat.reduceBEq, Nat.reduceLT, Nat.reduceLeDiff, Nat.reducePow, Int.reduceToNat, Int.reduceLT, Int.reduceLE, Int.reduceGT, Int.reduceGE, Int.reduceEq, Int.reduceNeg, Int.reduceAdd, Int.reduceSub, Int.reduceMul, ↓reduceIte, reduceCtorEq, *]
            · rintro ⟨⟩
              simp only [go_sem, Nat.reduceAdd, Nat.reduceSub, Nat.reduceMul, Nat.reduceEqDiff, Nat.reduceBEq, Nat.reduceLT, Nat.reduceLeDiff, Nat.reducePow, Int.reduceToNat, Int.reduceLT, Int.reduceLE, Int.reduceGT, Int.reduceGE, Int.reduceEq, Int.reduceNeg, Int.reduceAdd, Int.reduceSub, Int.reduceMul, ↓reduceIte, reduceCtorEq, *]
      · rintro ⟨⟩
        simp only [go_sem, Nat.reduceAdd, Nat.reduceSub, Nat.reduceMul, Nat.reduceEqDiff, Nat.reduceBEq, Nat.reduceLT, Nat.reduceLeDiff, Nat.reducePow, Int.reduceToNat, Int.reduceLT, Int.reduceLE, Int.reduceGT, Int.reduceGE, Int.reduceEq, Int.reduceNeg, Int.reduceAdd, Int.reduceSub, Int.reduceMul, ↓reduceIte, reduceCtorEq, *]
    · rintro ⟨⟩
      simp only [go_sem, Nat.reduceAdd, Nat.reduceSub, Nat.reduceMul, Nat.reduceEqDiff, Nat.reduceBEq, Nat.reduceLT, Nat.reduceLeDiff, Nat.reducePow, Int.reduceToNat, Int.reduceLT, Int.reduceLE, Int.reduceGT, Int.reduceGE, Int.reduceEq, Int.reduceNeg, Int.reduceAdd, Int.reduceSub, Int.reduceMul, ↓reduceIte, reduceCtorEq, *]
  · refine ite_i (fun c7 => ?_) (fun c7 => ?_)
    · rintro ⟨⟩
      simp only [go_sem, Nat.reduceAdd, Nat.reduceSub, Nat.reduceMul, Nat.reduceEqDiff, Nat.reduceBEq, Nat.reduceLT, Nat.reduceLeDiff, Nat.reducePow, Int.reduceToNat, Int.reduceLT, Int.reduceLE, Int.reduceGT, Int.reduceGE, Int.reduceEq, Int.reduceNeg, Int.reduceAdd, Int.reduceSub, Int.reduceMul, ↓reduceIte, reduceCtorEq, *]
    · refine ite_i (fun c8 => ?_) (fun c8 => ?_)
      · rintro ⟨⟩
        simp only [go_sem, Nat.reduceAdd, Nat.reduceSub, Nat.reduceMul, Nat.reduceEqDiff, Nat.reduceBEq, Nat.reduceLT, Nat.reduceLeDiff, Nat.reducePow, Int.reduceToNat, Int.reduceLT, Int.reduceLE, Int.reduceGT, Int.reduceGE, Int.reduceEq, Int.reduceNeg, Int.reduceAdd, Int.reduceSub, Int.reduceMul, ↓reduceIte, reduceCtorEq, *]
      · refine ite_i (fun c9 => ?_) (fun c9 => ?_)
        · rintro ⟨⟩
          simp only [go_sem, Nat.reduceAdd, Nat.reduceSub, Nat.reduceMul, Nat.reduceEqDiff, Nat.reduceBEq, Nat.reduceLT, Nat.reduceLeDiff, Nat.reducePow, Int.reduceToNat, Int.reduceLT, Int.reduceLE, Int.reduceGT, Int.reduceGE, Int.reduceEq, Int.reduceNeg, Int.reduceAdd, Int.reduceSub, Int.reduceMul, ↓reduceIte, reduceCtorEq, *]
        · rintro ⟨⟩
          simp only [go_sem, Nat.reduceAdd, Nat.reduceSub, Nat.reduceMul, Nat.reduceEqDiff, Nat.reduceBEq, Nat.reduceLT, Nat.reduceLeDiff, Nat.reducePow, Int.reduceToNat, Int.reduceLT, Int.reduceLE, Int.reduceGT, Int.reduceGE, Int.reduceEq, Int.reduceNeg, Int.reduceAdd, Int.reduceSub, Int.reduceMul, ↓reduceIte, reduceCtorEq, *]
noncomputable def s_bound_Check_Part (L : Nat) : Ev.Spec := specP (cCons k40 cNil) (fun x => p_bound_Check_Part L x.1.1 x.1.2.1 x.1.2.2.1) (fun r => [.int .i64 r])
theorem s_bound_Check_Part_run (L : Nat) (a0_0 : Int) (a0_1 : Int) (a0_2 : Bool) : (s_bound_Check_Part L).run [.agg 40 [.int .i64 a0_0, .int .i64 a0_1, .bool a0_2]] = (p_bound_Check_Part L a0_0 a0_1 a0_2).map fun r => [.int .i64 r] := specP_run (cCons k40 cNil) (fun x => p_bound_Check_Part L x.1.1 x.1.2.1 x.1.2.2.1) (fun r => [.int .i64 r]) ((a0_0, a0_1, a0_2, ()), ())
theorem ok_bound_Check_Part (L : Nat) (hL : L ≤ 4611686018427387904) : SpecOk Try.prog 164 (s_bound_Check_Part L) := specP_ok mixed (Go_bound_Check_Part L hL) (To_bound_Check_Part L) fun x r h => ⟨L, 1, e_bound_Check_Part L hL x.1.1 x.1.2.1 x.1.2.2.1 r h⟩
end Go.Proofs.Ytnojehmbiceceaa.P
end
section
set_option linter.unusedVariables false
set_option linter.unusedSimpArgs false
set_option maxRecDepth 100000
namespace Go.Proofs.Ytnojehmbiceceaa.E
open Go.Ev
noncomputable def en165 : Entry := ⟨Try.f165, [(1000000, mb 2 0 [0])]⟩
theorem mk165_1000000 (vs : List V) : mask (maskOf en165.ms 1000000) vs = km 2 0 [0] vs := mask_mb _ _ _ _
end Go.Proofs.Ytnojehmbiceceaa.E
end
section
set_option linter.unusedVariables false
set_option linter.unusedSimpArgs false
set_option maxRecDepth 100000
namespace Go.Proofs.Ytnojehmbiceceaa.P
open Go.Ev Go.IntKind Go.Proofs.Ytnojehmbiceceaa Go.Proofs.Ytnojehmbiceceaa.Ty Go.Proofs.Ytnojehmbiceceaa.E
def p_bound_None_Part (L : Nat)  : Option (Int × Int × Bool) := some (0, 0, true)
attribute [local go_sem] Ev.putR_s Ev.putR_0 Ev.thenO_s Ev.thenO_0 Ev.seqR_n Ev.seqR_e Ev.seqR_r Ev.seqR_0 Ev.blkR_e Ev.blkR_n Ev.blkR_r Ev.blkR_0 Ev.normR_s Ev.normR_0 Ev.outR_r Ev.outR_n Ev.outR_0 Ev.retS_s Ev.retS_0 Ev.pureO_s Ev.pureO_0 Ev.topR_0 Ev.topR_t Ev.topR_t0 Ev.oneL_0 Ev.oneL_s Ev.topR_d Ev.topR_nils Ev.topR_agg Ev.topR_rs Ev.evOp_move Ev.evOp_assign Ev.evOp_pick Ev.evOp_alloc Ev.evOp_box Ev.evOp_build Ev.evOp_buildSlice Ev.evOp_load Ev.evOp_store Ev.evOp_makeMap Ev.evOp_lookup Ev.evOp_mapUpdate Ev.evOp_insert Ev.evOp_nilCheck Ev.evOp_binOp Ev.evOp_unOp Ev.evOp_convert Ev.evOp_makeFunc Ev.evOp_makeSlice Ev.evOp_slice Ev.evOp_fieldAddr Ev.evOp_field Ev.evOp_indexAddr Ev.evOp_index Ev.evOp_extract Ev.evOp_call Ev.evOp_append Ev.evOp_clear Ev.evOp_len Ev.evOp_min Ev.evOp_max Ev.condR_b Ev.condR_t Ev.evOps_nil Ev.evOps_plain Ev.evOps_guard Ev.runG_eq Ev.skipG_eq Ev.condL_tt Ev.condL_ff Ev.condL_tf Ev.condL_ft Ev.condL_u Ev.condC_t Ev.condC_f Ev.evC_skip Ev.evC_ret Ev.evC_exit Ev.evC_label Ev.evC_region Ev.evC_draw Ev.evC_seq Ev.evC_cond Ev.evC_block Ev.evC_loop Ev.fin_d Ev.fin_nils Ev.fin_agg_ Ev.fin_rs Ev.finS_s Ev.mapO_fin Ev.upd_upd Ev.argv_d Ev.argv_nils Ev.argv_agg Ev.argv_rs Ev.argv_p Ev.fk_low Ev.appendTo_nils Ev.appendTo_rs Ev.consV_d Ev.consV_agg Ev.consV_p Ev.consV_rs Ev.consV_nils Ev.consV_fn Ev.consV_und Ev.consV_jk Ev.consV_grown Ev.topR_grown Ev.len_grown Ev.consV_mp Ev.sameK_i Ev.sameK_s Ev.mget_0 Ev.mget_hit Ev.mget_miss Ev.mput_0 Ev.mput_hit Ev.mput_miss Ev.apartAll Ev.apartL Ev.apartV Ev.freeAll Ev.sel Ev.keyOfV Ev.evLookup Ev.evPut Ev.hintOk Ev.keyOk Ev.consP Ev.lookV Ev.guardV Ev.dstAt Ev.evPure Ev.evStore Ev.evBin Ev.evBinO Ev.evNil Ev.isNilC Ev.evUn Ev.evConv Ev.evSlice Ev.optI Ev.foldI Ev.capsOk Ev.noTup Ev.nth Ev.setN Ev.killAt Ev.pad Ev.V.get Ev.V.put Ev.putD Ev.newBlk Ev.upd Ev.keq Ev.empty Ev.evCall Ev.V.args Ev.argP Ev.callOf Ev.evNilP Ev.isNilP Ev.look Ev.V.view.views Ev.V.view Ev.V.toD Ev.V.toD.V.toDs Ev.V.pure.pures Ev.V.pure Ev.D.flat.flats Ev.D.flat Ev.mkAgg Ev.allD Ev.aggParts Ev.setParts Ev.setElems Ev.getPath Ev.setPath Ev.subL Ev.eqD Ev.eqD.eqDs Ev.and2 Ev.strCut Ev.evalT Ev.constT Ev.evArgs Ev.mask Ev.maskOf Ev.tableOf Ev.compT Ev.resV Ev.retV Ev.mapO Ev.frzO_n Ev.frzO_e Ev.frzO_r Ev.frzO_0 Ev.mb_z Ev.mb_0 Ev.mb_s Ev.frzL_t Ev.frzL_f Ev.frzL_0 Ev.frzT_nils Ev.frzT_rs Ev.frzT_p Ev.frzK_i Ev.keyIn_i Ev.rI_nil Ev.rI_cons Ev.rI_row Ev.rI_app Ev.r_d Ev.r_nils Ev.r_agg Ev.r_rs Ev.r_gl Ev.vw_row Ev.vw_app Ev.appO_s Ev.frzT_gl Ev.allD_gl Ev.killAt_i Ev.tkOne_i Ev.hT_agg Ev.hT_vagg Ev.hT_int Ev.hT_bool Ev.hT_str Ev.hT_sl Ev.hT_ptr Ev.hT_np Ev.hT_p Ev.hT_rs Ev.hT_mp Ev.hT_nils Ev.hT_fn Ev.hT_jk Ev.hT_gl Ev.eO_sl Ev.eO_nils Ev.eO_rs Ev.eT_sl Ev.eT_rs Ev.pL_str Ev.pL_sl Ev.pL_rs Ev.pL_nils Ev.pL_min Ev.pL_max Ev.len_glB Ev.noTup_gl Ev.rowV_len Ev.rowV_nil Ev.rowV_cons Ev.rowV_append Ev.rowV_set Ev.rowV_replicate Ev.nth_row Ev.row_take Ev.row_drop Ev.toDs_row Ev.fin_row Ev.map_row Ev.map_take_ Ev.map_drop_ Ev.Bk_i Ev.GlB_0 Ev.GlB_mk Ev.gl_nil Ev.gl_cons Ev.gl_snoc Ev.gl_setN Ev.appendTo_gl Ev.consV_gl Ev.elems_gl Ev.fin_gl Ev.view_gl Ev.argv_gl Ev.topR_gl Ev.sp_z Ev.sp_0 Ev.sp_s Ev.km_z Ev.km_0 Ev.km_s Ev.beq_toList Ev.nc0 Ev.bq_t Ev.bq_f Ev.bodyN Ev.le_maxRow Int.cast_ofNat_Int IntWalk.i64_in IntWalk.u64_in IntWalk.u8_in beq_self_eq_true Bool.true_beq Bool.false_beq Bool.and_true Bool.true_and Bool.false_and Bool.and_false Bool.and_self Bool.not_true Bool.not_false Bool.not_eq_true cond_true cond_false if_true if_false and_true true_and and_self decide_true decide_false Bool.or_true Bool.true_or Bool.or_false Bool.false_or List.isEmpty List.isEmpty_nil List.size_toArray List.map List.length_map List.length_cons List.length_nil Option.map Option.bind Option.getD Option.isSome List.replicate Bool.false_eq_true implies_true false_implies forall_const Array.toList Array.isEmpty List.append List.nil_append List.cons_append List.drop_zero List.take_length List.take_succ_cons List.take_zero List.take_nil List.getElem?_map List.getElem?_cons_zero List.getElem?_cons_succ List.getElem?_nil List.append_nil eq_self Int.toNat_natCast List.length_append Nat.zero_add Nat.add_zero List.length_replicate Nat.sub_zero Option.map_some Option.map_none Int.le_refl Nat.le_refl Int.natCast_nonneg List.map_append
noncomputable def G_bound_None_Part (L : Nat) : Specs := []
noncomputable def T_bound_None_Part : Table := tableOf [(165, en165)]
theorem Go_bound_None_Part (L : Nat) (hL : L ≤ 4611686018427387904) : ∀ g s, Ev.look (G_bound_None_Part L) g = some s → SpecOk Try.prog g s := specs_nil
theorem To_bound_None_Part (L : Nat) : TableOk Try.prog ((G_bound_None_Part L).map (·.1)) T_bound_None_Part := (table_cons Try.func165 (by kernel_rfl) (by kernel_rfl) table_nil)
attribute [local go_sem] Ty.tk4 Ty.ub4 Ty.ek4 Ty.zv4 Ty.by4 Ty.so4 Ty.tk38 Ty.ik38 Ty.ek38 Ty.zv38 Ty.by38 Ty.so38 Ty.tk40 Ty.ct40 Ty.ek40 Ty.zv40 Ty.by40 Ty.so40 Ty.k40_e E.mk165_1000000 loopN loops Try.f165
theorem e_bound_None_Part (L : Nat) (hL : L ≤ 4611686018427387904)  (res : Int × Int × Bool) (h : p_bound_None_Part L  = some res) : evTop Try.prog (G_bound_None_Part L) T_bound_None_Part L 1 165 [] = some [.agg 40 [.int .i64 res.1, .int .i64 res.2.1, .bool res.2.2]] := by
  revert h
  unfold p_bound_None_Part evTop
  simp only [List.map]
  rw [evF_s (fn := Try.f165) (msk := en165.ms) (hT := by rfl) (hb := by rfl)]
  rintro ⟨⟩
  simp only [go_sem, Nat.reduceAdd, Nat.reduceSub, Nat.reduceMul, Nat.reduceEqDiff, Nat.reduceBEq, Nat.reduceLT, Nat.reduceLeDiff, Nat.reducePow, Int.reduceToNat, Int.reduceLT, Int.reduceLE, Int.reduceGT, Int.reduceGE, Int.reduceEq, Int.reduceNeg, Int.reduceAdd, Int.reduceSub, Int.reduceMul, ↓reduceIte, reduceCtorEq, *]
noncomputable def s_bound_None_Part (L : Nat) : Ev.Spec := specP cNil (fun x => p_bound_None_Part L ) (fun r => [.agg 40 [.int .i64 r.1, .int .i64 r.2.1, .bool r.2.2]])
theorem s_bound_None_Part_run (L : Nat)  : (s_bound_None_Part L).run [] = (p_bound_None_Part L ).map fun r => [.agg 40 [.int .i64 r.1, .int .i64 r.2.1, .bool r.2.2]] := specP_run cNil (fun x => p_bound_None_Part L ) (fun r => [.agg 40 [.int .i64 r.1, .int .i64 r.2.1, .bool r.2.2]]) (())
theorem ok_bound_None_Part (L : Nat) (hL : L ≤ 4611686018427387904) : SpecOk Try.prog 165 (s_bound_None_Part L) := specP_ok mixed (Go_bound_None_Part L hL) (To_bound_None_Part L) fun x r h => ⟨L, 1, e_bound_None_Part L hL  r h⟩
end Go.Proofs.Ytnojehmbiceceaa.P
end
