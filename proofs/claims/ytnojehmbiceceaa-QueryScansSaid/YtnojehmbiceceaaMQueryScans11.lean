/- Parts of one proof, joined: G112, E113, G113, E114, G114, E115, G115, E116, E186, G186, E187, G187, G116, E117, G117. -/
import Derived.Test.YtnojehmbiceceaaMQueryScans10
import Derived.Test.YtnojehmbiceceaaProg
section
attribute [local go_sem] Go.Ev.putR_s Go.Ev.putR_0 Go.Ev.thenO_s Go.Ev.thenO_0 Go.Ev.seqR_n Go.Ev.seqR_e Go.Ev.seqR_r Go.Ev.seqR_0 Go.Ev.blkR_e Go.Ev.blkR_n Go.Ev.blkR_r Go.Ev.blkR_0 Go.Ev.normR_s Go.Ev.normR_0 Go.Ev.outR_r Go.Ev.outR_n Go.Ev.outR_0 Go.Ev.retS_s Go.Ev.retS_0 Go.Ev.pureO_s Go.Ev.pureO_0 Go.Ev.topR_0 Go.Ev.topR_t Go.Ev.topR_t0 Go.Ev.oneL_0 Go.Ev.oneL_s Go.Ev.topR_d Go.Ev.topR_nils Go.Ev.topR_agg Go.Ev.topR_rs Go.Ev.evOp_move Go.Ev.evOp_assign Go.Ev.evOp_pick Go.Ev.evOp_alloc Go.Ev.evOp_box Go.Ev.evOp_build Go.Ev.evOp_buildSlice Go.Ev.evOp_load Go.Ev.evOp_store Go.Ev.evOp_makeMap Go.Ev.evOp_lookup Go.Ev.evOp_mapUpdate Go.Ev.evOp_insert Go.Ev.evOp_nilCheck Go.Ev.evOp_binOp Go.Ev.evOp_unOp Go.Ev.evOp_convert Go.Ev.evOp_makeFunc Go.Ev.evOp_makeSlice Go.Ev.evOp_slice Go.Ev.evOp_fieldAddr Go.Ev.evOp_field Go.Ev.evOp_indexAddr Go.Ev.evOp_index Go.Ev.evOp_extract Go.Ev.evOp_call Go.Ev.evOp_append Go.Ev.evOp_clear Go.Ev.evOp_len Go.Ev.evOp_min Go.Ev.evOp_max Go.Ev.condR_b Go.Ev.condR_t Go.Ev.evOps_nil Go.Ev.evOps_plain Go.Ev.evOps_guard Go.Ev.runG_eq Go.Ev.skipG_eq Go.Ev.condL_tt Go.Ev.condL_ff Go.Ev.condL_tf Go.Ev.condL_ft Go.Ev.condL_u Go.Ev.condC_t Go.Ev.condC_f Go.Ev.evC_skip Go.Ev.evC_ret Go.Ev.evC_exit Go.Ev.evC_label Go.Ev.evC_region Go.Ev.evC_draw Go.Ev.evC_seq Go.Ev.evC_cond Go.Ev.evC_block Go.Ev.evC_loop Go.Ev.fin_d Go.Ev.fin_nils Go.Ev.fin_agg_ Go.Ev.fin_rs Go.Ev.finS_s Go.Ev.mapO_fin Go.Ev.upd_upd Go.Ev.argv_d Go.Ev.argv_nils Go.Ev.argv_agg Go.Ev.argv_rs Go.Ev.argv_p Go.Ev.fk_low Go.Ev.appendTo_nils Go.Ev.appendTo_rs Go.Ev.consV_d Go.Ev.consV_agg Go.Ev.consV_p Go.Ev.consV_rs Go.Ev.consV_nils Go.Ev.consV_fn Go.Ev.consV_und Go.Ev.consV_jk Go.Ev.consV_grown Go.Ev.topR_grown Go.Ev.len_grown Go.Ev.consV_mp Go.Ev.sameK_i Go.Ev.sameK_s Go.Ev.mget_0 Go.Ev.mget_hit Go.Ev.mget_miss Go.Ev.mput_0 Go.Ev.mput_hit Go.Ev.mput_miss Go.Ev.apartAll Go.Ev.apartL Go.Ev.apartV Go.Ev.freeAll Go.Ev.sel Go.Ev.keyOfV Go.Ev.evLookup Go.Ev.evPut Go.Ev.hintOk Go.Ev.keyOk Go.Ev.consP Go.Ev.lookV Go.Ev.guardV Go.Ev.dstAt Go.Ev.evPure Go.Ev.evStore Go.Ev.evBin Go.Ev.evBinO Go.Ev.evNil Go.Ev.isNilC Go.Ev.evUn Go.Ev.evConv Go.Ev.evSlice Go.Ev.optI Go.Ev.foldI Go.Ev.capsOk Go.Ev.noTup Go.Ev.nth Go.Ev.setN Go.Ev.killAt Go.Ev.pad Go.Ev.V.get Go.Ev.V.put Go.Ev.putD Go.Ev.newBlk Go.Ev.upd Go.Ev.keq Go.Ev.empty Go.Ev.evCall Go.Ev.V.args Go.Ev.argP Go.Ev.callOf Go.Ev.evNilP Go.Ev.isNilP Go.Ev.look Go.Ev.V.view.views Go.Ev.V.view Go.Ev.V.toD Go.Ev.V.toD.V.toDs Go.Ev.V.pure.pures Go.Ev.V.pure Go.Ev.D.flat.flats Go.Ev.D.flat Go.Ev.mkAgg Go.Ev.allD Go.Ev.aggParts Go.Ev.setParts Go.Ev.setElems Go.Ev.getPath Go.Ev.setPath Go.Ev.subL Go.Ev.eqD Go.Ev.eqD.eqDs Go.Ev.and2 Go.Ev.strCut Go.Ev.evalT Go.Ev.constT Go.Ev.evArgs Go.Ev.mask Go.Ev.maskOf Go.Ev.tableOf Go.Ev.compT Go.Ev.resV Go.Ev.retV Go.Ev.mapO Go.Ev.frzO_n Go.Ev.frzO_e Go.Ev.frzO_r Go.Ev.frzO_0 Go.Ev.mb_z Go.Ev.mb_0 Go.Ev.mb_s Go.Ev.frzL_t Go.Ev.frzL_f Go.Ev.frzL_0 Go.Ev.frzT_nils Go.Ev.frzT_rs Go.Ev.frzT_p Go.Ev.frzK_i Go.Ev.keyIn_i Go.Ev.rI_nil Go.Ev.rI_cons Go.Ev.rI_row Go.Ev.rI_app Go.Ev.r_d Go.Ev.r_nils Go.Ev.r_agg Go.Ev.r_rs Go.Ev.r_gl Go.Ev.vw_row Go.Ev.vw_app Go.Ev.appO_s Go.Ev.frzT_gl Go.Ev.allD_gl Go.Ev.killAt_i Go.Ev.tkOne_i Go.Ev.hT_agg Go.Ev.hT_vagg Go.Ev.hT_int Go.Ev.hT_bool Go.Ev.hT_str Go.Ev.hT_sl Go.Ev.hT_ptr Go.Ev.hT_np Go.Ev.hT_p Go.Ev.hT_rs Go.Ev.hT_mp Go.Ev.hT_nils Go.Ev.hT_fn Go.Ev.hT_jk Go.Ev.hT_gl Go.Ev.eO_sl Go.Ev.eO_nils Go.Ev.eO_rs Go.Ev.eT_sl Go.Ev.eT_rs Go.Ev.pL_str Go.Ev.pL_sl Go.Ev.pL_rs Go.Ev.pL_nils Go.Ev.pL_min Go.Ev.pL_max Go.Ev.len_glB Go.Ev.noTup_gl Go.Ev.rowV_len Go.Ev.rowV_nil Go.Ev.rowV_cons Go.Ev.rowV_append Go.Ev.rowV_set Go.Ev.rowV_replicate Go.Ev.nth_row Go.Ev.row_take Go.Ev.row_drop Go.Ev.toDs_row Go.Ev.fin_row Go.Ev.map_row Go.Ev.map_take_ Go.Ev.map_drop_ Go.Ev.Bk_i Go.Ev.GlB_0 Go.Ev.GlB_mk Go.Ev.gl_nil Go.Ev.gl_cons Go.Ev.gl_snoc Go.Ev.gl_setN Go.Ev.appendTo_gl Go.Ev.consV_gl Go.Ev.elems_gl Go.Ev.fin_gl Go.Ev.view_gl Go.Ev.argv_gl Go.Ev.topR_gl Go.Ev.sp_z Go.Ev.sp_0 Go.Ev.sp_s Go.Ev.km_z Go.Ev.km_0 Go.Ev.km_s Go.Ev.beq_toList Go.Ev.nc0 Go.Ev.bq_t Go.Ev.bq_f Go.Ev.bodyN Go.Ev.le_maxRow Int.cast_ofNat_Int Go.IntWalk.i64_in Go.IntWalk.u64_in Go.IntWalk.u8_in beq_self_eq_true Bool.true_beq Bool.false_beq Bool.and_true Bool.true_and Bool.false_and Bool.and_false Bool.and_self Bool.not_true Bool.not_false Bool.not_eq_true cond_true cond_false if_true if_false and_true true_and and_self decide_true decide_false Bool.or_true Bool.true_or Bool.or_false Bool.false_or List.isEmpty List.isEmpty_nil List.size_toArray List.map List.length_map List.length_cons List.length_nil Option.map Option.bind Option.getD Option.isSome List.replicate Bool.false_eq_true implies_true false_implies forall_const Array.toList Array.isEmpty List.append List.nil_append List.cons_append List.drop_zero List.take_length List.take_succ_cons List.take_zero List.take_nil List.getElem?_map List.getElem?_cons_zero List.getElem?_cons_succ List.getElem?_nil List.append_nil eq_self Int.toNat_natCast List.length_append Nat.zero_add Nat.add_zero List.length_replicate Nat.sub_zero Option.map_some Option.map_none Int.le_refl Nat.le_refl Int.natCast_nonneg List.map_append
attribute [local go_sem_proc] Nat.reduceAdd Nat.reduceSub Nat.reduceMul Nat.reduceEqDiff Nat.reduceBEq Nat.reduceLT Nat.reduceLeDiff Nat.reducePow Int.reduceToNat Int.reduceLT Int.reduceLE Int.reduceGT Int.reduceGE Int.reduceEq Int.reduceNeg Int.reduceAdd Int.reduceSub Int.reduceMul reduceCtorEq
attribute [local go_sem_proc ↓] reduceIte
section
set_option linter.unusedVariables false
set_option linter.unusedSimpArgs false
set_option maxRecDepth 100000
namespace Go.Proofs.Ytnojehmbiceceaa.P
open Go.Ev Go.IntKind Go.Proofs.Ytnojehmbiceceaa Go.Proofs.Ytnojehmbiceceaa.Ty Go.Proofs.Ytnojehmbiceceaa.E
def p_spyref3_ends_l0 (L : Nat) (a0_0_0 : Int) (a0_0_1 : Int) (a0_0_2 : Bool) (a0_1_0 : Int) (a0_1_1 : Int) (a0_1_2 : Bool) (a0_2_0 : Int) (a0_2_1 : Int) (a0_2_2 : Bool) : Nat → Int → (List Int) → (List Int) → (List Int) → Option (Sum ((List Int) × (List Int) × (List Int)) ((List Int) × (List Int) × (List Int)))
  | 0, s2, s3, s4, s5 => some (.inl (s3, s4, s5))
  | tl + 1, s2, s3, s4, s5 => cb (decide (s2 = 0)) (cb a0_0_2 (some (.inr (s3, s4, s5))) (if a0_0_0 > a0_0_1 then (some (.inr (s3, s4, s5))) else (if a0_0_0 < (-1073741824) then (some (.inr (s3, s4, s5))) else (if a0_0_1 > 1073741824 then (some (.inr (s3, s4, s5))) else (if a0_0_0 ≤ 0 then (if a0_0_1 ≥ 0 then (p_spyref3_ends_l0 L a0_0_0 a0_0_1 a0_0_2 a0_1_0 a0_1_1 a0_1_2 a0_2_0 a0_2_1 a0_2_2 tl (s2 + 1) ([a0_0_0, a0_0_1, 0]) s4 s5) else (p_spyref3_ends_l0 L a0_0_0 a0_0_1 a0_0_2 a0_1_0 a0_1_1 a0_1_2 a0_2_0 a0_2_1 a0_2_2 tl (s2 + 1) ([a0_0_0, a0_0_1]) s4 s5)) else (p_spyref3_ends_l0 L a0_0_0 a0_0_1 a0_0_2 a0_1_0 a0_1_1 a0_1_2 a0_2_0 a0_2_1 a0_2_2 tl (s2 + 1) ([a0_0_0, a0_0_1]) s4 s5)))))) (cb (decide (s2 = 1)) (cb a0_1_2 (some (.inr (s3, s4, s5))) (if a0_1_0 > a0_1_1 then (some (.inr (s3, s4, s5))) else (if a0_1_0 < (-1073741824) then (some (.inr (s3, s4, s5))) else (if a0_1_1 > 1073741824 then (some (.inr (s3, s4, s5))) else (if a0_1_0 ≤ 0 then (if a0_1_1 ≥ 0 then (p_spyref3_ends_l0 L a0_0_0 a0_0_1 a0_0_2 a0_1_0 a0_1_1 a0_1_2 a0_2_0 a0_2_1 a0_2_2 tl (s2 + 1) s3 ([a0_1_0, a0_1_1, 0]) s5) else (p_spyref3_ends_l0 L a0_0_0 a0_0_1 a0_0_2 a0_1_0 a0_1_1 a0_1_2 a0_2_0 a0_2_1 a0_2_2 tl (s2 + 1) s3 ([a0_1_0, a0_1_1]) s5)) else (p_spyref3_ends_l0 L a0_0_0 a0_0_1 a0_0_2 a0_1_0 a0_1_1 a0_1_2 a0_2_0 a0_2_1 a0_2_2 tl (s2 + 1) s3 ([a0_1_0, a0_1_1]) s5)))))) (cb (decide (s2 = 2)) (cb a0_2_2 (some (.inr (s3, s4, s5))) (if a0_2_0 > a0_2_1 then (some (.inr (s3, s4, s5))) else (if a0_2_0 < (-1073741824) then (some (.inr (s3, s4, s5))) else (if a0_2_1 > 1073741824 then (some (.inr (s3, s4, s5))) else (if a0_2_0 ≤ 0 then (if a0_2_1 ≥ 0 then (p_spyref3_ends_l0 L a0_0_0 a0_0_1 a0_0_2 a0_1_0 a0_1_1 a0_1_2 a0_2_0 a0_2_1 a0_2_2 tl (s2 + 1) s3 s4 ([a0_2_0, a0_2_1, 0])) else (p_spyref3_ends_l0 L a0_0_0 a0_0_1 a0_0_2 a0_1_0 a0_1_1 a0_1_2 a0_2_0 a0_2_1 a0_2_2 tl (s2 + 1) s3 s4 ([a0_2_0, a0_2_1]))) else (p_spyref3_ends_l0 L a0_0_0 a0_0_1 a0_0_2 a0_1_0 a0_1_1 a0_1_2 a0_2_0 a0_2_1 a0_2_2 tl (s2 + 1) s3 s4 ([a0_2_0, a0_2_1]))))))) (none)))
def p_spyref3_ends (L : Nat) (a0_0_0 : Int) (a0_0_1 : Int) (a0_0_2 : Bool) (a0_1_0 : Int) (a0_1_1 : Int) (a0_1_2 : Bool) (a0_2_0 : Int) (a0_2_1 : Int) (a0_2_2 : Bool) : Option ((List Int) × (List Int) × (List Int) × Bool) := rq (3 < L) <| bnd (p_spyref3_ends_l0 L a0_0_0 a0_0_1 a0_0_2 a0_1_0 a0_1_1 a0_1_2 a0_2_0 a0_2_1 a0_2_2 3 0 ([] : List Int) ([] : List Int) ([] : List Int)) fun o6 => match o6 with | (.inl o6_0) => (some (o6_0.1, o6_0.2.1, o6_0.2.2, true)) | (.inr o6_1) => (some (o6_1.1, o6_1.2.1, o6_1.2.2, false))
noncomputable def G_spyref3_ends (L : Nat) : Specs := []
noncomputable def T_spyref3_ends : Table := tableOf [(112, en112)]
theorem Go_spyref3_ends (L : Nat) (hL : L ≤ 4611686018427387904) : ∀ g s, Ev.look (G_spyref3_ends L) g = some s → SpecOk Try.prog g s := specs_nil
theorem To_spyref3_ends (L : Nat) : TableOk Try.prog ((G_spyref3_ends L).map (·.1)) T_spyref3_ends := (table_cons Try.func112 (by kernel_rfl) (by kernel_rfl) table_nil)
attribute [local go_sem] Ty.tk2 Ty.ik2 Ty.ek2 Ty.zv2 Ty.by2 Ty.so2 Ty.tk3 Ty.ik3 Ty.ek3 Ty.zv3 Ty.by3 Ty.so3 Ty.tk4 Ty.ub4 Ty.ek4 Ty.zv4 Ty.by4 Ty.so4 Ty.tk62 Ty.ik62 Ty.ek62 Ty.zv62 Ty.by62 Ty.so62 Ty.tk64 Ty.ct64 Ty.ek64 Ty.zv64 Ty.by64 Ty.so64 Ty.tk66 Ty.ct66 Ty.ek66 Ty.zv66 Ty.by66 Ty.so66 Ty.tk168 Ty.ct168 Ty.zv168 Ty.by168 Ty.so168 Ty.tk179 Ty.zv179 Ty.by179 Ty.so179 Ty.tk180 Ty.ct180 Ty.zv180 Ty.by180 Ty.so180 Ty.k64_e Ty.k66_e Ty.k168_e Ty.k179_e Ty.k180_e E.mk112_0 E.mk112_1000001 E.mk112_1000002 E.mk112_1000000 E.kq112_0 E.gd112_0_1 E.gd112_0_2 E.gd112_0_4 E.gd112_0_6 E.gd112_0_43 E.gd112_0_57 E.gd112_0_58 E.fz112_0 E.fi112_0 E.lb112_0 loopN loops Try.f112
def Q0_p_spyref3_ends_l0 (a0_0_0 : Int) (a0_0_1 : Int) (a0_0_2 : Bool) (a0_1_0 : Int) (a0_1_1 : Int) (a0_1_2 : Bool) (a0_2_0 : Int) (a0_2_1 : Int) (a0_2_2 : Bool) (u : (List Int) × (List Int) × (List Int)) (z : Out) : Prop := ∃ env st, z = some (.exit 0, env, st) ∧ env = sp 62 0 [(2, .p (0, 2) (st (0, 2)).ver 0 []), (4, .p (0, 4) (st (0, 4)).ver 0 [])] ∧ Bk (st (0, 2)) 180 [.agg 180 [.nils 2, .nils 2, .nils 2]] ∧ Bk (st (0, 4)) 180 [.d (.agg 180 [.sl 2 (u.1.map (D.int .i64)), .sl 2 (u.2.1.map (D.int .i64)), .sl 2 (u.2.2.map (D.int .i64))])]
def Q1_p_spyref3_ends_l0 (a0_0_0 : Int) (a0_0_1 : Int) (a0_0_2 : Bool) (a0_1_0 : Int) (a0_1_1 : Int) (a0_1_2 : Bool) (a0_2_0 : Int) (a0_2_1 : Int) (a0_2_2 : Bool) (u : (List Int) × (List Int) × (List Int)) (z : Out) : Prop := ∃ env st, z = some (.ret, env, st) ∧ env = sp 62 0 [(2, .p (0, 2) (st (0, 2)).ver 0 []), (3, .d (.bool false))] ∧ Bk (st (0, 2)) 180 [.d (.agg 180 [.sl 2 (u.1.map (D.int .i64)), .sl 2 (u.2.1.map (D.int .i64)), .sl 2 (u.2.2.map (D.int .i64))])]
def Q_p_spyref3_ends_l0 (a0_0_0 : Int) (a0_0_1 : Int) (a0_0_2 : Bool) (a0_1_0 : Int) (a0_1_1 : Int) (a0_1_2 : Bool) (a0_2_0 : Int) (a0_2_1 : Int) (a0_2_2 : Bool) (o : Sum ((List Int) × (List Int) × (List Int)) ((List Int) × (List Int) × (List Int))) (z : Out) : Prop := match o with | (.inl u) => Q0_p_spyref3_ends_l0 a0_0_0 a0_0_1 a0_0_2 a0_1_0 a0_1_1 a0_1_2 a0_2_0 a0_2_1 a0_2_2 u z | (.inr u) => Q1_p_spyref3_ends_l0 a0_0_0 a0_0_1 a0_0_2 a0_1_0 a0_1_1 a0_1_2 a0_2_0 a0_2_1 a0_2_2 u z
theorem l_p_spyref3_ends_l0 (L : Nat) (hL : L ≤ 4611686018427387904) (a0_0_0 : Int) (a0_0_1 : Int) (a0_0_2 : Bool) (a0_1_0 : Int) (a0_1_1 : Int) (a0_1_2 : Bool) (a0_2_0 : Int) (a0_2_1 : Int) (a0_2_2 : Bool) : ∀ (tl n : Nat) (s2 : Int) (s3 : List Int) (s4 : List Int) (s5 : List Int) (env : List V) (st : Store) (o : Sum ((List Int) × (List Int) × (List Int)) ((List Int) × (List Int) × (List Int))), tl < n → Cnt 3 s2 tl → mask (maskOf en112.ms 0) env = sp 62 0 [(2, .p (0, 2) (st (0, 2)).ver 0 []), (4, .p (0, 4) (st (0, 4)).ver 0 []), (13, .d (.agg 168 [.agg 64 [.int .i64 a0_0_0, .int .i64 a0_0_1, .bool a0_0_2], .agg 64 [.int .i64 a0_1_0, .int .i64 a0_1_1, .bool a0_1_2], .agg 64 [.int .i64 a0_2_0, .int .i64 a0_2_1, .bool a0_2_2]])), (14, .d (.int .i64 s2))] → Bk (st (0, 2)) 180 [.agg 180 [.nils 2, .nils 2, .nils 2]] → Bk (st (0, 4)) 180 [.d (.agg 180 [.sl 2 (s3.map (D.int .i64)), .sl 2 (s4.map (D.int .i64)), .sl 2 (s5.map (D.int .i64))])] → p_spyref3_ends_l0 L a0_0_0 a0_0_1 a0_0_2 a0_1_0 a0_1_1 a0_1_2 a0_2_0 a0_2_1 a0_2_2 tl s2 s3 s4 s5 = some o →
    Q_p_spyref3_ends_l0 a0_0_0 a0_0_1 a0_0_2 a0_1_0 a0_1_1 a0_1_2 a0_2_0 a0_2_1 a0_2_2 o (iter (fun env st => frzO 0 (mb 62 0 [4]) fk112_0 (evC Try.prog (G_spyref3_ends L) (evF Try.prog (G_spyref3_ends L) T_spyref3_ends L 0) L en112.ms 0 0 lb112_0 env st)) (maskOf en112.ms 0) n env st) := by
  intro tl
  induction tl with
  | zero =>
    intro n s2 s3 s4 s5 env st o hn hR he hb0 hb1 h
    obtain ⟨n, rfl⟩ : ∃ m, n = m + 1 := ⟨n - 1, by omega⟩
    obtain ⟨be0, bv0, bl0⟩ := hb0
    obtain ⟨be1, bv1, bl1⟩ := hb1
    generalize hQ : Q_p_spyref3_ends_l0 a0_0_0 a0_0_1 a0_0_2 a0_1_0 a0_1_1 a0_1_2 a0_2_0 a0_2_1 a0_2_2 = Q
    have g0 := cnt_nil hR
    rw [iter, he]
    clear he
    generalize hK : iter _ _ n = K
    rw [p_spyref3_ends_l0] at h
    revert h
    rintro ⟨⟩
    simp only [go_sem, *]
    subst hQ
    refine (⟨_, _, rfl, ?_, ?_, ?_⟩ : Q0_p_spyref3_ends_l0 _ _ _ _ _ _ _ _ _ _ _)
    all_goals simp only [go_sem, *]
  | succ tl ih =>
    intro n s2 s3 s4 s5 env st o hn hR he hb0 hb1 h
    obtain ⟨n, rfl⟩ : ∃ m, n = m + 1 := ⟨n - 1, by omega⟩
    obtain ⟨be0, bv0, bl0⟩ := hb0
    obtain ⟨be1, bv1, bl1⟩ := hb1
    generalize hQ : Q_p_spyref3_ends_l0 a0_0_0 a0_0_1 a0_0_2 a0_1_0 a0_1_1 a0_1_2 a0_2_0 a0_2_1 a0_2_2 = Q at ih ⊢
    replace ih : Hold _ := ih
    replace hR := cnt_s hR
    obtain ⟨g0, g1, g3, hR⟩ := hR
    rw [iter, he]
    clear he
    generalize hK : iter _ _ n = K
    rw [p_spyref3_ends_l0] at h
    revert h
    refine cb_i (fun c1 => ?_) (fun c1 => ?_)
    · have c2 : 0 ≤ s2 := by have := of_decide_eq_true c1; omega
      have c3 : s2 < 3 := by have := of_decide_eq_true c1; omega
      have c4 : s2.toNat = 0 := by have := of_decide_eq_true c1; omega
      refine cb_i (fun c5 => ?_) (fun c5 => ?_)
      · rintro ⟨⟩
        simp only [go_sem, *]
        subst hQ
        refine (⟨_, _, rfl, ?_, ?_⟩ : Q1_p_spyref3_ends_l0 _ _ _ _ _ _ _ _ _ _ _)
        all_goals simp only [go_sem, *]
      · refine ite_i (fun c6 => ?_) (fun c6 => ?_)
        · rintro ⟨⟩
          simp only [go_sem, *]
          subst hQ
          refine (⟨_, _, rfl, ?_, ?_⟩ : Q1_p_spyref3_ends_l0 _ _ _ _ _ _ _ _ _ _ _)
          all_goals simp only [go_sem, *]
        · refine ite_i (fun c7 => ?_) (fun c7 => ?_)
          · rintro ⟨⟩
            simp only [go_sem, *]
            subst hQ
            refine (⟨_, _, rfl, ?_, ?_⟩ : Q1_p_spyref3_ends_l0 _ _ _ _ _ _ _ _ _ _ _)
            all_goals simp only [go_sem, *]
          · refine ite_i (fun c8 => ?_) (fun c8 => ?_)
            · rintro ⟨⟩
              simp only [go_sem, *]
              subst hQ
              refine (⟨_, _, rfl, ?_, ?_⟩ : Q1_p_spyref3_ends_l0 _ _ _ _ _ _ _ _ _ _ _)
              all_goals simp only [go_sem, *]
            · refine ite_i (fun c9 => ?_) (fun c9 => ?_)
              · refine ite_i (fun c10 => ?_) (fun c10 => ?_)
                · intro h
                  simp only [go_sem, *]
                  subst hK
                  refine ih n (s2 + 1) ([a0_0_0, a0_0_1, 0]) s4 s5 _ _ _ (by omega) hR ?_ ?_ ?_ h
                  all_goals simp only [go_sem, *]
                · intro h
                  simp only [go_sem, *]
                  subst hK
                  refine ih n (s2 + 1) ([a0_0_0, a0_0_1]) s4 s5 _ _ _ (by omega) hR ?_ ?_ ?_ h
                  all_goals simp only [go_sem, *]
              · intro h
                simp only [go_sem, *]
                subst hK
                refine ih n (s2 + 1) ([a0_0_0, a0_0_1]) s4 s5 _ _ _ (by omega) hR ?_ ?_ ?_ h
                all_goals simp only [go_sem, *]
    · refine cb_i (fun c11 => ?_) (fun c11 => ?_)
      · have c12 : 0 ≤ s2 := by have := of_decide_eq_true c11; omega
        have c13 : s2 < 3 := by have := of_decide_eq_true c11; omega
        have c14 : s2.toNat = 1 := by have := of_decide_eq_true c11; omega
        refine cb_i (fun c15 => ?_) (fun c15 => ?_)
        · rintro ⟨⟩
          simp only [go_sem, *]
          subst hQ
          refine (⟨_, _, rfl, ?_, ?_⟩ : Q1_p_spyref3_ends_l0 _ _ _ _ _ _ _ _ _ _ _)
          all_goals simp only [go_sem, *]
        · refine ite_i (fun c16 => ?_) (fun c16 => ?_)
          · rintro ⟨⟩
            simp only [go_sem, *]
            subst hQ
            refine (⟨_, _, rfl, ?_, ?_⟩ : Q1_p_spyref3_ends_l0 _ _ _ _ _ _ _ _ _ _ _)
            all_goals simp only [go_sem, *]
          · refine ite_i (fun c17 => ?_) (fun c17 => ?_)
            · rintro ⟨⟩
              simp only [go_sem, *]
              subst hQ
              refine (⟨_, _, rfl, ?_, ?_⟩ : Q1_p_spyref3_ends_l0 _ _ _ _ _ _ _ _ _ _ _)
              all_goals simp only [go_sem, *]
            · refine ite_i (fun c18 => ?_) (fun c18 => ?_)
              · rintro ⟨⟩
                simp only [go_sem, *]
                subst hQ
                refine (⟨_, _, rfl, ?_, ?_⟩ : Q1_p_spyref3_ends_l0 _ _ _ _ _ _ _ _ _ _ _)
                all_goals simp only [go_sem, *]
              · refine ite_i (fun c19 => ?_) (fun c19 => ?_)
                · refine ite_i (fun c20 => ?_) (fun c20 => ?_)
                  · intro h
                    simp only [go_sem, *]
                    subst hK
                    refine ih n (s2 + 1) s3 ([a0_1_0, a0_1_1, 0]) s5 _ _ _ (by omega) hR ?_ ?_ ?_ h
                    all_goals simp only [go_sem, *]
                  · intro h
                    simp only [go_sem, *]
                    subst hK
                    refine ih n (s2 + 1) s3 ([a0_1_0, a0_1_1]) s5 _ _ _ (by omega) hR ?_ ?_ ?_ h
                    all_goals simp only [go_sem, *]
                · intro h
                  simp only [go_sem, *]
                  subst hK
                  refine ih n (s2 + 1) s3 ([a0_1_0, a0_1_1]) s5 _ _ _ (by omega) hR ?_ ?_ ?_ h
                  all_goals simp only [go_sem, *]
      · refine cb_i (fun c21 => ?_) (fun c21 => ?_)
        · have c22 : 0 ≤ s2 := by have := of_decide_eq_true c21; omega
          have c23 : s2 < 3 := by have := of_decide_eq_true c21; omega
          have c24 : s2.toNat = 2 := by have := of_decide_eq_true c21; omega
          refine cb_i (fun c25 => ?_) (fun c25 => ?_)
          · rintro ⟨⟩
            simp only [go_sem, *]
            subst hQ
            refine (⟨_, _, rfl, ?_, ?_⟩ : Q1_p_spyref3_ends_l0 _ _ _ _ _ _ _ _ _ _ _)
            all_goals simp only [go_sem, *]
          · refine ite_i (fun c26 => ?_) (fun c26 => ?_)
            · rintro ⟨⟩
              simp only [go_sem, *]
              subst hQ
              refine (⟨_, _, rfl, ?_, ?_⟩ : Q1_p_spyref3_ends_l0 _ _ _ _ _ _ _ _ _ _ _)
              all_goals simp only [go_sem, *]
            · refine ite_i (fun c27 => ?_) (fun c27 => ?_)
              · rintro ⟨⟩
                simp only [go_sem, *]
                subst hQ
                refine (⟨_, _, rfl, ?_, ?_⟩ : Q1_p_spyref3_ends_l0 _ _ _ _ _ _ _ _ _ _ _)
                all_goals simp only [go_sem, *]
              · refine ite_i (fun c28 => ?_) (fun c28 => ?_)
                · rintro ⟨⟩
                  simp only [go_sem, *]
                  subst hQ
                  refine (⟨_, _, rfl, ?_, ?_⟩ : Q1_p_spyref3_ends_l0 _ _ _ _ _ _ _ _ _ _ _)
                  all_goals simp only [go_sem, *]
                · refine ite_i (fun c29 => ?_) (fun c29 => ?_)
                  · refine ite_i (fun c30 => ?_) (fun c30 => ?_)
                    · intro h
                      simp only [go_sem, *]
                      subst hK
                      refine ih n (s2 + 1) s3 s4 ([a0_2_0, a0_2_1, 0]) _ _ _ (by omega) hR ?_ ?_ ?_ h
                      all_goals simp only [go_sem, *]
                    · intro h
                      simp only [go_sem, *]
                      subst hK
                      refine ih n (s2 + 1) s3 s4 ([a0_2_0, a0_2_1]) _ _ _ (by omega) hR ?_ ?_ ?_ h
                      all_goals simp only [go_sem, *]
                  · intro h
                    simp only [go_sem, *]
                    subst hK
                    refine ih n (s2 + 1) s3 s4 ([a0_2_0, a0_2_1]) _ _ _ (by omega) hR ?_ ?_ ?_ h
                    all_goals simp only [go_sem, *]
        · intro h; cases h
theorem e_spyref3_ends (L : Nat) (hL : L ≤ 4611686018427387904) (a0_0_0 : Int) (a0_0_1 : Int) (a0_0_2 : Bool) (a0_1_0 : Int) (a0_1_1 : Int) (a0_1_2 : Bool) (a0_2_0 : Int) (a0_2_1 : Int) (a0_2_2 : Bool) (res : (List Int) × (List Int) × (List Int) × Bool) (h : p_spyref3_ends L a0_0_0 a0_0_1 a0_0_2 a0_1_0 a0_1_1 a0_1_2 a0_2_0 a0_2_1 a0_2_2 = some res) : evTop Try.prog (G_spyref3_ends L) T_spyref3_ends L 1 112 [.agg 66 [.agg 64 [.int .i64 a0_0_0, .int .i64 a0_0_1, .bool a0_0_2], .agg 64 [.int .i64 a0_1_0, .int .i64 a0_1_1, .bool a0_1_2], .agg 64 [.int .i64 a0_2_0, .int .i64 a0_2_1, .bool a0_2_2]]] = some [.agg 180 [.sl 2 (res.1.map (D.int .i64)), .sl 2 (res.2.1.map (D.int .i64)), .sl 2 (res.2.2.1.map (D.int .i64))], .bool res.2.2.2] := by
  revert h
  unfold p_spyref3_ends evTop
  simp only [List.map]
  rw [evF_s (fn := Try.f112) (msk := en112.ms) (hT := by rfl) (hb := by rfl)]
  refine rq_i fun c1 => ?_
  refine bnd_i fun o6 ho2 => ?_
  intro h
  simp only [go_sem, *]
  generalize hz4 : iter _ _ _ _ _ = z3
  have hq5 : Q_p_spyref3_ends_l0 a0_0_0 a0_0_1 a0_0_2 a0_1_0 a0_1_1 a0_1_2 a0_2_0 a0_2_1 a0_2_2 o6 z3 := by
    rw [← hz4]
    refine l_p_spyref3_ends_l0 L hL a0_0_0 a0_0_1 a0_0_2 a0_1_0 a0_1_1 a0_1_2 a0_2_0 a0_2_1 a0_2_2 _ L 0 ([] : List Int) ([] : List Int) ([] : List Int) _ _ _ c1 (cnt_0 (by decide) (by decide)) ?_ ?_ ?_ ho2
    all_goals simp only [go_sem, *]
  clear hz4 ho2
  rcases o6 with o6_0 | o6_1
  · obtain ⟨_, st7, rfl, rfl, ⟨k61, k62, k63⟩, ⟨k71, k72, k73⟩⟩ := hq5
    dsimp only at h
    revert h
    rintro ⟨⟩
    simp only [go_sem, *]
  · obtain ⟨_, st8, rfl, rfl, ⟨k81, k82, k83⟩⟩ := hq5
    dsimp only at h
    revert h
    rintro ⟨⟩
    simp only [go_sem, *]
noncomputable def s_spyref3_ends (L : Nat) : Ev.Spec := specP (cCons k66 cNil) (fun x => p_spyref3_ends L x.1.1.1 x.1.1.2.1 x.1.1.2.2.1 x.1.2.1.1 x.1.2.1.2.1 x.1.2.1.2.2.1 x.1.2.2.1.1 x.1.2.2.1.2.1 x.1.2.2.1.2.2.1) (fun r => [.agg 180 [.sl 2 (r.1.map (D.int .i64)), .sl 2 (r.2.1.map (D.int .i64)), .sl 2 (r.2.2.1.map (D.int .i64))], .bool r.2.2.2])
theorem s_spyref3_ends_run (L : Nat) (a0_0_0 : Int) (a0_0_1 : Int) (a0_0_2 : Bool) (a0_1_0 : Int) (a0_1_1 : Int) (a0_1_2 : Bool) (a0_2_0 : Int) (a0_2_1 : Int) (a0_2_2 : Bool) : (s_spyref3_ends L).run [.agg 66 [.agg 64 [.int .i64 a0_0_0, .int .i64 a0_0_1, .bool a0_0_2], .agg 64 [.int .i64 a0_1_0, .int .i64 a0_1_1, .bool a0_1_2], .agg 64 [.int .i64 a0_2_0, .int .i64 a0_2_1, .bool a0_2_2]]] = (p_spyref3_ends L a0_0_0 a0_0_1 a0_0_2 a0_1_0 a0_1_1 a0_1_2 a0_2_0 a0_2_1 a0_2_2).map fun r => [.agg 180 [.sl 2 (r.1.map (D.int .i64)), .sl 2 (r.2.1.map (D.int .i64)), .sl 2 (r.2.2.1.map (D.int .i64))], .bool r.2.2.2] := specP_run (cCons k66 cNil) (fun x => p_spyref3_ends L x.1.1.1 x.1.1.2.1 x.1.1.2.2.1 x.1.2.1.1 x.1.2.1.2.1 x.1.2.1.2.2.1 x.1.2.2.1.1 x.1.2.2.1.2.1 x.1.2.2.1.2.2.1) (fun r => [.agg 180 [.sl 2 (r.1.map (D.int .i64)), .sl 2 (r.2.1.map (D.int .i64)), .sl 2 (r.2.2.1.map (D.int .i64))], .bool r.2.2.2]) (((a0_0_0, a0_0_1, a0_0_2, ()), (a0_1_0, a0_1_1, a0_1_2, ()), (a0_2_0, a0_2_1, a0_2_2, ()), ()), ())
theorem ok_spyref3_ends (L : Nat) (hL : L ≤ 4611686018427387904) : SpecOk Try.prog 112 (s_spyref3_ends L) := specP_ok mixed (Go_spyref3_ends L hL) (To_spyref3_ends L) fun x r h => ⟨L, 1, e_spyref3_ends L hL x.1.1.1 x.1.1.2.1 x.1.1.2.2.1 x.1.2.1.1 x.1.2.1.2.1 x.1.2.1.2.2.1 x.1.2.2.1.1 x.1.2.2.1.2.1 x.1.2.2.1.2.2.1 r h⟩
end Go.Proofs.Ytnojehmbiceceaa.P
end
section
set_option linter.unusedVariables false
set_option linter.unusedSimpArgs false
set_option maxRecDepth 100000
namespace Go.Proofs.Ytnojehmbiceceaa.E
open Go.Ev
noncomputable def en113 : Entry := ⟨Try.f113, [(0, mb 25 0 [0, 3, 4]), (1000001, mb 25 0 [3]), (1000002, mb 25 0 [0, 3, 4]), (1000000, mb 25 0 [2])]⟩
theorem mk113_0 (vs : List V) : mask (maskOf en113.ms 0) vs = km 25 0 [0, 3, 4] vs := mask_mb _ _ _ _
theorem mk113_1000001 (vs : List V) : mask (maskOf en113.ms 1000001) vs = km 25 0 [3] vs := mask_mb _ _ _ _
theorem mk113_1000002 (vs : List V) : mask (maskOf en113.ms 1000002) vs = km 25 0 [0, 3, 4] vs := mask_mb _ _ _ _
theorem mk113_1000000 (vs : List V) : mask (maskOf en113.ms 1000000) vs = km 25 0 [2] vs := mask_mb _ _ _ _
theorem fz113_0 (lv : Nat) (f : Run) : frzF en113.ms lv 0 f = f := nr rfl
theorem fi113_0 (lv : Nat) (env : List V) (st : Store) (q : Store → Out) : frzI en113.ms lv 0 env st q = q st := nr rfl
noncomputable def lb113_0 : Code := loopN Try.f113 0
end Go.Proofs.Ytnojehmbiceceaa.E
end
section
set_option linter.unusedVariables false
set_option linter.unusedSimpArgs false
set_option maxRecDepth 100000
namespace Go.Proofs.Ytnojehmbiceceaa.P
open Go.Ev Go.IntKind Go.Proofs.Ytnojehmbiceceaa Go.Proofs.Ytnojehmbiceceaa.Ty Go.Proofs.Ytnojehmbiceceaa.E
def p_slices_Min_int64_l0 (L : Nat) (a0 : List Int) : Nat → Int → Int → Option Int
  | 0, _, _ => none
  | tl + 1, s4, s5 => if s5 < (a0.length : Int) then (bnd (idx a0 s5) fun x7 => p_slices_Min_int64_l0 L a0 tl (minI s4 x7) (i64.wrap (s5 + 1))) else (some s4)
def p_slices_Min_int64 (L : Nat) (a0 : List Int) : Option Int := if (a0.length : Int) < 1 then (none) else (bnd (idx a0 0) fun x1 => bnd (p_slices_Min_int64_l0 L a0 L x1 1) fun o8 => some o8)
noncomputable def G_slices_Min_int64 (L : Nat) : Specs := []
noncomputable def T_slices_Min_int64 : Table := tableOf [(113, en113)]
theorem Go_slices_Min_int64 (L : Nat) (hL : L ≤ 4611686018427387904) : ∀ g s, Ev.look (G_slices_Min_int64 L) g = some s → SpecOk Try.prog g s := specs_nil
theorem To_slices_Min_int64 (L : Nat) : TableOk Try.prog ((G_slices_Min_int64 L).map (·.1)) T_slices_Min_int64 := (table_cons Try.func113 (by kernel_rfl) (by kernel_rfl) table_nil)
attribute [local go_sem] Ty.tk2 Ty.ik2 Ty.ek2 Ty.zv2 Ty.by2 Ty.so2 Ty.tk3 Ty.ik3 Ty.ek3 Ty.zv3 Ty.by3 Ty.so3 Ty.tk4 Ty.ub4 Ty.ek4 Ty.zv4 Ty.by4 Ty.so4 Ty.tk20 Ty.by20 Ty.so20 Ty.tk179 Ty.zv179 Ty.by179 Ty.so179 Ty.k179_e E.mk113_0 E.mk113_1000001 E.mk113_1000002 E.mk113_1000000 E.fz113_0 E.fi113_0 E.lb113_0 loopN loops Try.f113
def Q0_p_slices_Min_int64_l0 (a0 : List Int) (u : Int) (z : Out) : Prop := ∃ env st, z = some (.exit 0, env, st) ∧ env = sp 25 0 [(3, .d (.int .i64 u))]
abbrev Q_p_slices_Min_int64_l0 (a0 : List Int) (o : Int) (z : Out) : Prop := Q0_p_slices_Min_int64_l0 a0 o z
theorem l_p_slices_Min_int64_l0 (L : Nat) (hL : L ≤ 4611686018427387904) (a0 : List Int) : ∀ (n : Nat) (s4 : Int) (s5 : Int) (env : List V) (st : Store) (o : Int), mask (maskOf en113.ms 0) env = sp 25 0 [(0, .d (.sl 2 (a0.map (D.int .i64)))), (3, .d (.int .i64 s4)), (4, .d (.int .i64 s5))] → p_slices_Min_int64_l0 L a0 n s4 s5 = some o →
    Q_p_slices_Min_int64_l0 a0 o (iter (evC Try.prog (G_slices_Min_int64 L) (evF Try.prog (G_slices_Min_int64 L) T_slices_Min_int64 L 0) L en113.ms 0 0 lb113_0) (maskOf en113.ms 0) n env st) := by
  intro n
  induction n with
  | zero => intro s4 s5 env st o he  h; cases h
  | succ n ih =>
    intro s4 s5 env st o he  h
    replace ih : Hold _ := ih
    rw [iter, he]
    clear he
    generalize hK : iter _ _ n = K
    rw [p_slices_Min_int64_l0] at h
    revert h
    refine ite_i (fun c1 => ?_) (fun c1 => ?_)
    · refine idx_i fun x7 c2 c3 c4 => ?_
      intro h
      simp only [go_sem, *]
      subst hK
      refine ih  (minI s4 x7) (i64.wrap (s5 + 1)) _ _ _ ?_ h
      all_goals simp only [go_sem, *]
    · rintro ⟨⟩
      simp only [go_sem, *]
      refine (⟨_, _, rfl, ?_⟩ : Q0_p_slices_Min_int64_l0 _ _ _)
      all_goals simp only [go_sem, *]
theorem e_slices_Min_int64 (L : Nat) (hL : L ≤ 4611686018427387904) (a0 : List Int) (res : Int) (h : p_slices_Min_int64 L a0 = some res) : evTop Try.prog (G_slices_Min_int64 L) T_slices_Min_int64 L 1 113 [.sl 2 (a0.map (D.int .i64))] = some [.int .i64 res] := by
  revert h
  unfold p_slices_Min_int64 evTop
  simp only [List.map]
  rw [evF_s (fn := Try.f113) (msk := en113.ms) (hT := by rfl) (hb := by rfl)]
  refine ite_i (fun c1 => ?_) (fun c1 => ?_)
  · intro h; cases h
  · refine idx_i fun x1 c2 c3 c4 => ?_
    have c4 : a0[0]? = some x1 := c4
    refine bnd_i fun o8 ho5 => ?_
    intro h
    simp only [go_sem, *]
    generalize hz7 : iter _ _ _ _ _ = z6
    have hq8 : Q_p_slices_Min_int64_l0 a0 o8 z6 := by
      rw [← hz7]
      refine l_p_slices_Min_int64_l0 L hL a0 L x1 1 _ _ _  ?_ ho5
      all_goals simp only [go_sem, *]
    clear hz7 ho5
    obtain ⟨_, st9, rfl, rfl⟩ := hq8
    revert h
    rintro ⟨⟩
    simp only [go_sem, *]
noncomputable def s_slices_Min_int64 (L : Nat) : Ev.Spec := specP (cCons k179 cNil) (fun x => p_slices_Min_int64 L x.1) (fun r => [.int .i64 r])
theorem s_slices_Min_int64_run (L : Nat) (a0 : List Int) : (s_slices_Min_int64 L).run [.sl 2 (a0.map (D.int .i64))] = (p_slices_Min_int64 L a0).map fun r => [.int .i64 r] := specP_run (cCons k179 cNil) (fun x => p_slices_Min_int64 L x.1) (fun r => [.int .i64 r]) (a0, ())
theorem ok_slices_Min_int64 (L : Nat) (hL : L ≤ 4611686018427387904) : SpecOk Try.prog 113 (s_slices_Min_int64 L) := specP_ok mixed (Go_slices_Min_int64 L hL) (To_slices_Min_int64 L) fun x r h => ⟨L, 1, e_slices_Min_int64 L hL x.1 r h⟩
end Go.Proofs.Ytnojehmbiceceaa.P
end
section
set_option linter.unusedVariables false
set_option linter.unusedSimpArgs false
set_option maxRecDepth 100000
namespace Go.Proofs.Ytnojehmbiceceaa.E
open Go.Ev
noncomputable def en114 : Entry := ⟨Try.f114, [(0, mb 25 0 [0, 3, 4]), (1000001, mb 25 0 [3]), (1000002, mb 25 0 [0, 3, 4]), (1000000, mb 25 0 [2])]⟩
theorem mk114_0 (vs : List V) : mask (maskOf en114.ms 0) vs = km 25 0 [0, 3, 4] vs := mask_mb _ _ _ _
theorem mk114_1000001 (vs : List V) : mask (maskOf en114.ms 1000001) vs = km 25 0 [3] vs := mask_mb _ _ _ _
theorem mk114_1000002 (vs : List V) : mask (maskOf en114.ms 1000002) vs = km 25 0 [0, 3, 4] vs := mask_mb _ _ _ _
theorem mk114_1000000 (vs : List V) : mask (maskOf en114.ms 1000000) vs = km 25 0 [2] vs := mask_mb _ _ _ _
theorem fz114_0 (lv : Nat) (f : Run) : frzF en114.ms lv 0 f = f := nr rfl
theorem fi114_0 (lv : Nat) (env : List V) (st : Store) (q : Store → Out) : frzI en114.ms lv 0 env st q = q st := nr rfl
noncomputable def lb114_0 : Code := loopN Try.f114 0
end Go.Proofs.Ytnojehmbiceceaa.E
end
section
set_option linter.unusedVariables false
set_option linter.unusedSimpArgs false
set_option maxRecDepth 100000
namespace Go.Proofs.Ytnojehmbiceceaa.P
open Go.Ev Go.IntKind Go.Proofs.Ytnojehmbiceceaa Go.Proofs.Ytnojehmbiceceaa.Ty Go.Proofs.Ytnojehmbiceceaa.E
def p_slices_Max_int64_l0 (L : Nat) (a0 : List Int) : Nat → Int → Int → Option Int
  | 0, _, _ => none
  | tl + 1, s4, s5 => if s5 < (a0.length : Int) then (bnd (idx a0 s5) fun x7 => p_slices_Max_int64_l0 L a0 tl (maxI s4 x7) (i64.wrap (s5 + 1))) else (some s4)
def p_slices_Max_int64 (L : Nat) (a0 : List Int) : Option Int := if (a0.length : Int) < 1 then (none) else (bnd (idx a0 0) fun x1 => bnd (p_slices_Max_int64_l0 L a0 L x1 1) fun o8 => some o8)
noncomputable def G_slices_Max_int64 (L : Nat) : Specs := []
noncomputable def T_slices_Max_int64 : Table := tableOf [(114, en114)]
theorem Go_slices_Max_int64 (L : Nat) (hL : L ≤ 4611686018427387904) : ∀ g s, Ev.look (G_slices_Max_int64 L) g = some s → SpecOk Try.prog g s := specs_nil
theorem To_slices_Max_int64 (L : Nat) : TableOk Try.prog ((G_slices_Max_int64 L).map (·.1)) T_slices_Max_int64 := (table_cons Try.func114 (by kernel_rfl) (by kernel_rfl) table_nil)
attribute [local go_sem] Ty.tk2 Ty.ik2 Ty.ek2 Ty.zv2 Ty.by2 Ty.so2 Ty.tk3 Ty.ik3 Ty.ek3 Ty.zv3 Ty.by3 Ty.so3 Ty.tk4 Ty.ub4 Ty.ek4 Ty.zv4 Ty.by4 Ty.so4 Ty.tk20 Ty.by20 Ty.so20 Ty.tk179 Ty.zv179 Ty.by179 Ty.so179 Ty.k179_e E.mk114_0 E.mk114_1000001 E.mk114_1000002 E.mk114_1000000 E.fz114_0 E.fi114_0 E.lb114_0 loopN loops Try.f114
def Q0_p_slices_Max_int64_l0 (a0 : List Int) (u : Int) (z : Out) : Prop := ∃ env st, z = some (.exit 0, env, st) ∧ env = sp 25 0 [(3, .d (.int .i64 u))]
abbrev Q_p_slices_Max_int64_l0 (a0 : List Int) (o : Int) (z : Out) : Prop := Q0_p_slices_Max_int64_l0 a0 o z
theorem l_p_slices_Max_int64_l0 (L : Nat) (hL : L ≤ 4611686018427387904) (a0 : List Int) : ∀ (n : Nat) (s4 : Int) (s5 : Int) (env : List V) (st : Store) (o : Int), mask (maskOf en114.ms 0) env = sp 25 0 [(0, .d (.sl 2 (a0.map (D.int .i64)))), (3, .d (.int .i64 s4)), (4, .d (.int .i64 s5))] → p_slices_Max_int64_l0 L a0 n s4 s5 = some o →
    Q_p_slices_Max_int64_l0 a0 o (iter (evC Try.prog (G_slices_Max_int64 L) (evF Try.prog (G_slices_Max_int64 L) T_slices_Max_int64 L 0) L en114.ms 0 0 lb114_0) (maskOf en114.ms 0) n env st) := by
  intro n
  induction n with
  | zero => intro s4 s5 env st o he  h; cases h
  | succ n ih =>
    intro s4 s5 env st o he  h
    replace ih : Hold _ := ih
    rw [iter, he]
    clear he
    generalize hK : iter _ _ n = K
    rw [p_slices_Max_int64_l0] at h
    revert h
    refine ite_i (fun c1 => ?_) (fun c1 => ?_)
    · refine idx_i fun x7 c2 c3 c4 => ?_
      intro h
      simp only [go_sem, *]
      subst hK
      refine ih  (maxI s4 x7) (i64.wrap (s5 + 1)) _ _ _ ?_ h
      all_goals simp only [go_sem, *]
    · rintro ⟨⟩
      simp only [go_sem, *]
      refine (⟨_, _, rfl, ?_⟩ : Q0_p_slices_Max_int64_l0 _ _ _)
      all_goals simp only [go_sem, *]
theorem e_slices_Max_int64 (L : Nat) (hL : L ≤ 4611686018427387904) (a0 : List Int) (res : Int) (h : p_slices_Max_int64 L a0 = some res) : evTop Try.prog (G_slices_Max_int64 L) T_slices_Max_int64 L 1 114 [.sl 2 (a0.map (D.int .i64))] = some [.int .i64 res] := by
  revert h
  unfold p_slices_Max_int64 evTop
  simp only [List.map]
  rw [evF_s (fn := Try.f114) (msk := en114.ms) (hT := by rfl) (hb := by rfl)]
  refine ite_i (fun c1 => ?_) (fun c1 => ?_)
  · intro h; cases h
  · refine idx_i fun x1 c2 c3 c4 => ?_
    have c4 : a0[0]? = some x1 := c4
    refine bnd_i fun o8 ho5 => ?_
    intro h
    simp only [go_sem, *]
    generalize hz7 : iter _ _ _ _ _ = z6
    have hq8 : Q_p_slices_Max_int64_l0 a0 o8 z6 := by
      rw [← hz7]
      refine l_p_slices_Max_int64_l0 L hL a0 L x1 1 _ _ _  ?_ ho5
      all_goals simp only [go_sem, *]
    clear hz7 ho5
    obtain ⟨_, st9, rfl, rfl⟩ := hq8
    revert h
    rintro ⟨⟩
    simp only [go_sem, *]
noncomputable def s_slices_Max_int64 (L : Nat) : Ev.Spec := specP (cCons k179 cNil) (fun x => p_slices_Max_int64 L x.1) (fun r => [.int .i64 r])
theorem s_slices_Max_int64_run (L : Nat) (a0 : List Int) : (s_slices_Max_int64 L).run [.sl 2 (a0.map (D.int .i64))] = (p_slices_Max_int64 L a0).map fun r => [.int .i64 r] := specP_run (cCons k179 cNil) (fun x => p_slices_Max_int64 L x.1) (fun r => [.int .i64 r]) (a0, ())
theorem ok_slices_Max_int64 (L : Nat) (hL : L ≤ 4611686018427387904) : SpecOk Try.prog 114 (s_slices_Max_int64 L) := specP_ok mixed (Go_slices_Max_int64 L hL) (To_slices_Max_int64 L) fun x r h => ⟨L, 1, e_slices_Max_int64 L hL x.1 r h⟩
end Go.Proofs.Ytnojehmbiceceaa.P
end
section
set_option linter.unusedVariables false
set_option linter.unusedSimpArgs false
set_option maxRecDepth 100000
namespace Go.Proofs.Ytnojehmbiceceaa.E
open Go.Ev
noncomputable def en115 : Entry := ⟨Try.f115, [(0, mb 39 0 [4, 5, 11, 12]), (2, mb 39 0 [4, 5, 8, 11, 12, 15, 16, 17]), (1000001, mb 39 0 [4, 5]), (1000002, mb 39 0 [4, 5, 11, 12]), (1000003, mb 39 0 [4, 5, 8, 11, 12]), (1000004, mb 39 0 [4, 5, 8, 11, 12, 15, 16, 17]), (1000000, mb 39 0 [2, 3])]⟩
theorem mk115_0 (vs : List V) : mask (maskOf en115.ms 0) vs = km 39 0 [4, 5, 11, 12] vs := mask_mb _ _ _ _
theorem mk115_2 (vs : List V) : mask (maskOf en115.ms 2) vs = km 39 0 [4, 5, 8, 11, 12, 15, 16, 17] vs := mask_mb _ _ _ _
theorem mk115_1000001 (vs : List V) : mask (maskOf en115.ms 1000001) vs = km 39 0 [4, 5] vs := mask_mb _ _ _ _
theorem mk115_1000002 (vs : List V) : mask (maskOf en115.ms 1000002) vs = km 39 0 [4, 5, 11, 12] vs := mask_mb _ _ _ _
theorem mk115_1000003 (vs : List V) : mask (maskOf en115.ms 1000003) vs = km 39 0 [4, 5, 8, 11, 12] vs := mask_mb _ _ _ _
theorem mk115_1000004 (vs : List V) : mask (maskOf en115.ms 1000004) vs = km 39 0 [4, 5, 8, 11, 12, 15, 16, 17] vs := mask_mb _ _ _ _
theorem mk115_1000000 (vs : List V) : mask (maskOf en115.ms 1000000) vs = km 39 0 [2, 3] vs := mask_mb _ _ _ _
theorem fz115_0 (lv : Nat) (f : Run) : frzF en115.ms lv 0 f = f := nr rfl
theorem fi115_0 (lv : Nat) (env : List V) (st : Store) (q : Store → Out) : frzI en115.ms lv 0 env st q = q st := nr rfl
theorem fz115_2 (lv : Nat) (f : Run) : frzF en115.ms lv 2 f = f := nr rfl
theorem fi115_2 (lv : Nat) (env : List V) (st : Store) (q : Store → Out) : frzI en115.ms lv 2 env st q = q st := nr rfl
noncomputable def lb115_0 : Code := loopN Try.f115 0
noncomputable def lb115_2 : Code := loopN Try.f115 1
end Go.Proofs.Ytnojehmbiceceaa.E
end
section
set_option linter.unusedVariables false
set_option linter.unusedSimpArgs false
set_option maxRecDepth 100000
namespace Go.Proofs.Ytnojehmbiceceaa.P
open Go.Ev Go.IntKind Go.Proofs.Ytnojehmbiceceaa Go.Proofs.Ytnojehmbiceceaa.Ty Go.Proofs.Ytnojehmbiceceaa.E
def p_spyref3_squares_l1 (L : Nat)  : List Int → (List Int) → Option (List Int)
  | [], s49 => some s49
  | x47 :: tl, s49 => rq (s49.length + 1 ≤ maxRow) <| rq ((s49.length + 1) * 8 ≤ maxRow) <| p_spyref3_squares_l1 L  tl (s49 ++ [(i64.wrap (x47 * x47))])
def p_spyref3_squares_l2 (L : Nat)  : List Int → (List Int) → Option (List Int)
  | [], s56 => some s56
  | x54 :: tl, s56 => rq (s56.length + 1 ≤ maxRow) <| rq ((s56.length + 1) * 8 ≤ maxRow) <| p_spyref3_squares_l2 L  tl (s56 ++ [(i64.wrap (x54 * x54))])
def p_spyref3_squares_l3 (L : Nat)  : List Int → (List Int) → Option (List Int)
  | [], s63 => some s63
  | x61 :: tl, s63 => rq (s63.length + 1 ≤ maxRow) <| rq ((s63.length + 1) * 8 ≤ maxRow) <| p_spyref3_squares_l3 L  tl (s63 ++ [(i64.wrap (x61 * x61))])
def p_spyref3_squares_l0 (L : Nat) (a0_0 : List Int) (a0_1 : List Int) (a0_2 : List Int) : Nat → Int → Int → Int → Option (Int × Int)
  | 0, s2, s24, s25 => some (s24, s25)
  | tl + 1, s2, s24, s25 => cb (decide (s2 = 0)) (rq (a0_0.length < L) <| bnd (p_spyref3_squares_l1 L a0_0 ([])) fun o50 => bnd (p_slices_Min_int64 L o50) fun r52 => bnd (p_slices_Max_int64 L o50) fun r53 => p_spyref3_squares_l0 L a0_0 a0_1 a0_2 tl (s2 + 1) (i64.wrap (s24 + r52)) (i64.wrap (s25 + r53))) (cb (decide (s2 = 1)) (rq (a0_1.length < L) <| bnd (p_spyref3_squares_l2 L a0_1 ([])) fun o57 => bnd (p_slices_Min_int64 L o57) fun r59 => bnd (p_slices_Max_int64 L o57) fun r60 => p_spyref3_squares_l0 L a0_0 a0_1 a0_2 tl (s2 + 1) (i64.wrap (s24 + r59)) (i64.wrap (s25 + r60))) (cb (decide (s2 = 2)) (rq (a0_2.length < L) <| bnd (p_spyref3_squares_l3 L a0_2 ([])) fun o64 => bnd (p_slices_Min_int64 L o64) fun r66 => bnd (p_slices_Max_int64 L o64) fun r67 => p_spyref3_squares_l0 L a0_0 a0_1 a0_2 tl (s2 + 1) (i64.wrap (s24 + r66)) (i64.wrap (s25 + r67))) (none)))
def p_spyref3_squares (L : Nat) (a0_0 : List Int) (a0_1 : List Int) (a0_2 : List Int) : Option (Int × Int) := rq (3 < L) <| bnd (p_spyref3_squares_l0 L a0_0 a0_1 a0_2 3 0 0 0) fun o68 => some (o68.1, o68.2)
noncomputable def G_spyref3_squares (L : Nat) : Specs := [(113, s_slices_Min_int64 L), (114, s_slices_Max_int64 L)]
noncomputable def T_spyref3_squares : Table := tableOf [(115, en115)]
theorem Go_spyref3_squares (L : Nat) (hL : L ≤ 4611686018427387904) : ∀ g s, Ev.look (G_spyref3_squares L) g = some s → SpecOk Try.prog g s := (specs_cons (ok_slices_Min_int64 L hL) (specs_cons (ok_slices_Max_int64 L hL) specs_nil))
theorem To_spyref3_squares (L : Nat) : TableOk Try.prog ((G_spyref3_squares L).map (·.1)) T_spyref3_squares := (table_cons Try.func115 (by kernel_rfl) (by kernel_rfl) table_nil)
theorem lk_spyref3_squares_113 (L : Nat) : Ev.look (G_spyref3_squares L) 113 = some (s_slices_Min_int64 L) := nr rfl
theorem lk_spyref3_squares_114 (L : Nat) : Ev.look (G_spyref3_squares L) 114 = some (s_slices_Max_int64 L) := nr rfl
attribute [local go_sem] Ty.tk2 Ty.ik2 Ty.ek2 Ty.zv2 Ty.by2 Ty.so2 Ty.tk3 Ty.ik3 Ty.ek3 Ty.zv3 Ty.by3 Ty.so3 Ty.tk179 Ty.zv179 Ty.by179 Ty.so179 Ty.tk180 Ty.ct180 Ty.zv180 Ty.by180 Ty.so180 Ty.k179_e Ty.k180_e E.mk115_0 E.mk115_2 E.mk115_1000001 E.mk115_1000002 E.mk115_1000003 E.mk115_1000004 E.mk115_1000000 E.fz115_0 E.fi115_0 E.fz115_2 E.fi115_2 E.lb115_0 E.lb115_2 lk_spyref3_squares_113 lk_spyref3_squares_114 s_slices_Min_int64_run s_slices_Max_int64_run loopN loops Try.f115
def Q0_p_spyref3_squares_l1 (s24 : Int) (s25 : Int) (a0_0 : List Int) (a0_1 : List Int) (a0_2 : List Int) (s2 : Int) (u : List Int) (z : Out) : Prop := ∃ env st, z = some (.exit 2, env, st) ∧ env = sp 39 0 [(4, .d (.int .i64 s24)), (5, .d (.int .i64 s25)), (8, gl 2 (0, 26) (st (0, 26)).ver (rowV (D.int .i64) u)), (11, .d (.agg 180 [.sl 2 (a0_0.map (D.int .i64)), .sl 2 (a0_1.map (D.int .i64)), .sl 2 (a0_2.map (D.int .i64))])), (12, .d (.int .i64 s2))] ∧ GlB (st (0, 26)) 2 (rowV (D.int .i64) u)
abbrev Q_p_spyref3_squares_l1 (s24 : Int) (s25 : Int) (a0_0 : List Int) (a0_1 : List Int) (a0_2 : List Int) (s2 : Int) (o : List Int) (z : Out) : Prop := Q0_p_spyref3_squares_l1 s24 s25 a0_0 a0_1 a0_2 s2 o z
theorem l_p_spyref3_squares_l1 (L : Nat) (hL : L ≤ 4611686018427387904) (s24 : Int) (s25 : Int) (a0_0 : List Int) (a0_1 : List Int) (a0_2 : List Int) (s2 : Int) : ∀ (tl : List Int) (n : Nat) (s48 : Int) (s49 : List Int) (env : List V) (st : Store) (o : List Int), tl.length < n → Rng a0_0 s48 tl → mask (maskOf en115.ms 2) env = sp 39 0 [(4, .d (.int .i64 s24)), (5, .d (.int .i64 s25)), (8, gl 2 (0, 26) (st (0, 26)).ver (rowV (D.int .i64) s49)), (11, .d (.agg 180 [.sl 2 (a0_0.map (D.int .i64)), .sl 2 (a0_1.map (D.int .i64)), .sl 2 (a0_2.map (D.int .i64))])), (12, .d (.int .i64 s2)), (15, .d (.sl 2 (a0_0.map (D.int .i64)))), (16, .d (.int .i64 (a0_0.length : Int))), (17, .d (.int .i64 s48))] → GlB (st (0, 26)) 2 (rowV (D.int .i64) s49) → p_spyref3_squares_l1 L  tl s49 = some o →
    Q_p_spyref3_squares_l1 s24 s25 a0_0 a0_1 a0_2 s2 o (iter (evC Try.prog (G_spyref3_squares L) (evF Try.prog (G_spyref3_squares L) T_spyref3_squares L 0) L en115.ms 0 2 lb115_2) (maskOf en115.ms 2) n env st) := by
  intro tl
  induction tl with
  | nil =>
    intro n s48 s49 env st o hn hR he hb0 h
    obtain ⟨n, rfl⟩ : ∃ m, n = m + 1 := ⟨n - 1, by omega⟩
    have g0 := rng_nil hR
    rw [iter, he]
    clear he
    generalize hK : iter _ _ n = K
    rw [p_spyref3_squares_l1] at h
    revert h
    rintro ⟨⟩
    simp only [go_sem, *]
    refine (⟨_, _, rfl, ?_, ?_⟩ : Q0_p_spyref3_squares_l1 _ _ _ _ _ _ _ _)
    all_goals simp only [go_sem, *]
  | cons x47 tl ih =>
    intro n s48 s49 env st o hn hR he hb0 h
    obtain ⟨n, rfl⟩ : ∃ m, n = m + 1 := ⟨n - 1, by omega⟩
    replace ih : Hold _ := ih
    replace hR := rng_s hR
    obtain ⟨g0, g1, g2, g3, hR⟩ := hR
    rw [iter, he]
    clear he
    generalize hK : iter _ _ n = K
    rw [p_spyref3_squares_l1] at h
    revert h
    refine rq_i fun c1 => ?_
    refine rq_i fun c2 => ?_
    intro h
    simp only [go_sem, *]
    subst hK
    refine ih n (s48 + 1) (s49 ++ [(i64.wrap (x47 * x47))]) _ _ _ (by simp only [List.length_cons] at hn; omega) hR ?_ ?_ h
    all_goals simp only [go_sem, *]
def Q0_p_spyref3_squares_l2 (s24 : Int) (s25 : Int) (a0_0 : List Int) (a0_1 : List Int) (a0_2 : List Int) (s2 : Int) (u : List Int) (z : Out) : Prop := ∃ env st, z = some (.exit 2, env, st) ∧ env = sp 39 0 [(4, .d (.int .i64 s24)), (5, .d (.int .i64 s25)), (8, gl 2 (0, 26) (st (0, 26)).ver (rowV (D.int .i64) u)), (11, .d (.agg 180 [.sl 2 (a0_0.map (D.int .i64)), .sl 2 (a0_1.map (D.int .i64)), .sl 2 (a0_2.map (D.int .i64))])), (12, .d (.int .i64 s2))] ∧ GlB (st (0, 26)) 2 (rowV (D.int .i64) u)
abbrev Q_p_spyref3_squares_l2 (s24 : Int) (s25 : Int) (a0_0 : List Int) (a0_1 : List Int) (a0_2 : List Int) (s2 : Int) (o : List Int) (z : Out) : Prop := Q0_p_spyref3_squares_l2 s24 s25 a0_0 a0_1 a0_2 s2 o z
theorem l_p_spyref3_squares_l2 (L : Nat) (hL : L ≤ 4611686018427387904) (s24 : Int) (s25 : Int) (a0_0 : List Int) (a0_1 : List Int) (a0_2 : List Int) (s2 : Int) : ∀ (tl : List Int) (n : Nat) (s55 : Int) (s56 : List Int) (env : List V) (st : Store) (o : List Int), tl.length < n → Rng a0_1 s55 tl → mask (maskOf en115.ms 2) env = sp 39 0 [(4, .d (.int .i64 s24)), (5, .d (.int .i64 s25)), (8, gl 2 (0, 26) (st (0, 26)).ver (rowV (D.int .i64) s56)), (11, .d (.agg 180 [.sl 2 (a0_0.map (D.int .i64)), .sl 2 (a0_1.map (D.int .i64)), .sl 2 (a0_2.map (D.int .i64))])), (12, .d (.int .i64 s2)), (15, .d (.sl 2 (a0_1.map (D.int .i64)))), (16, .d (.int .i64 (a0_1.length : Int))), (17, .d (.int .i64 s55))] → GlB (st (0, 26)) 2 (rowV (D.int .i64) s56) → p_spyref3_squares_l2 L  tl s56 = some o →
    Q_p_spyref3_squares_l2 s24 s25 a0_0 a0_1 a0_2 s2 o (iter (evC Try.prog (G_spyref3_squares L) (evF Try.prog (G_spyref3_squares L) T_spyref3_squares L 0) L en115.ms 0 2 lb115_2) (maskOf en115.ms 2) n env st) := by
  intro tl
  induction tl with
  | nil =>
    intro n s55 s56 env st o hn hR he hb0 h
    obtain ⟨n, rfl⟩ : ∃ m, n = m + 1 := ⟨n - 1, by omega⟩
    have g0 := rng_nil hR
    rw [iter, he]
    clear he
    generalize hK : iter _ _ n = K
    rw [p_spyref3_squares_l2] at h
    revert h
    rintro ⟨⟩
    simp only [go_sem, *]
    refine (⟨_, _, rfl, ?_, ?_⟩ : Q0_p_spyref3_squares_l2 _ _ _ _ _ _ _ _)
    all_goals simp only [go_sem, *]
  | cons x54 tl ih =>
    intro n s55 s56 env st o hn hR he hb0 h
    obtain ⟨n, rfl⟩ : ∃ m, n = m + 1 := ⟨n - 1, by omega⟩
    replace ih : Hold _ := ih
    replace hR := rng_s hR
    obtain ⟨g0, g1, g2, g3, hR⟩ := hR
    rw [iter, he]
    clear he
    generalize hK : iter _ _ n = K
    rw [p_spyref3_squares_l2] at h
    revert h
    refine rq_i fun c1 => ?_
    refine rq_i fun c2 => ?_
    intro h
    simp only [go_sem, *]
    subst hK
    refine ih n (s55 + 1) (s56 ++ [(i64.wrap (x54 * x54))]) _ _ _ (by simp only [List.length_cons] at hn; omega) hR ?_ ?_ h
    all_goals simp only [go_sem, *]
def Q0_p_spyref3_squares_l3 (s24 : Int) (s25 : Int) (a0_0 : List Int) (a0_1 : List Int) (a0_2 : List Int) (s2 : Int) (u : List Int) (z : Out) : Prop := ∃ env st, z = some (.exit 2, env, st) ∧ env = sp 39 0 [(4, .d (.int .i64 s24)), (5, .d (.int .i64 s25)), (8, gl 2 (0, 26) (st (0, 26)).ver (rowV (D.int .i64) u)), (11, .d (.agg 180 [.sl 2 (a0_0.map (D.int .i64)), .sl 2 (a0_1.map (D.int .i64)), .sl 2 (a0_2.map (D.int .i64))])), (12, .d (.int .i64 s2))] ∧ GlB (st (0, 26)) 2 (rowV (D.int .i64) u)
abbrev Q_p_spyref3_squares_l3 (s24 : Int) (s25 : Int) (a0_0 : List Int) (a0_1 : List Int) (a0_2 : List Int) (s2 : Int) (o : List Int) (z : Out) : Prop := Q0_p_spyref3_squares_l3 s24 s25 a0_0 a0_1 a0_2 s2 o z
theorem l_p_spyref3_squares_l3 (L : Nat) (hL : L ≤ 4611686018427387904) (s24 : Int) (s25 : Int) (a0_0 : List Int) (a0_1 : List Int) (a0_2 : List Int) (s2 : Int) : ∀ (tl : List Int) (n : Nat) (s62 : Int) (s63 : List Int) (env : List V) (st : Store) (o : List Int), tl.length < n → Rng a0_2 s62 tl → mask (maskOf en115.ms 2) env = sp 39 0 [(4, .d (.int .i64 s24)), (5, .d (.int .i64 s25)), (8, gl 2 (0, 26) (st (0, 26)).ver (rowV (D.int .i64) s63)), (11, .d (.agg 180 [.sl 2 (a0_0.map (D.int .i64)), .sl 2 (a0_1.map (D.int .i64)), .sl 2 (a0_2.map (D.int .i64))])), (12, .d (.int .i64 s2)), (15, .d (.sl 2 (a0_2.map (D.int .i64)))), (16, .d (.int .i64 (a0_2.length : Int))), (17, .d (.int .i64 s62))] → GlB (st (0, 26)) 2 (rowV (D.int .i64) s63) → p_spyref3_squares_l3 L  tl s63 = some o →
    Q_p_spyref3_squares_l3 s24 s25 a0_0 a0_1 a0_2 s2 o (iter (evC Try.prog (G_spyref3_squares L) (evF Try.prog (G_spyref3_squares L) T_spyref3_squares L 0) L en115.ms 0 2 lb115_2) (maskOf en115.ms 2) n env st) := by
  intro tl
  induction tl with
  | nil =>
    intro n s62 s63 env st o hn hR he hb0 h
    obtain ⟨n, rfl⟩ : ∃ m, n = m + 1 := ⟨n - 1, by omega⟩
    have g0 := rng_nil hR
    rw [iter, he]
    clear he
    generalize hK : iter _ _ n = K
    rw [p_spyref3_squares_l3] at h
    revert h
    rintro ⟨⟩
    simp only [go_sem, *]
    refine (⟨_, _, rfl, ?_, ?_⟩ : Q0_p_spyref3_squares_l3 _ _ _ _ _ _ _ _)
    all_goals simp only [go_sem, *]
  | cons x61 tl ih =>
    intro n s62 s63 env st o hn hR he hb0 h
    obtain ⟨n, rfl⟩ : ∃ m, n = m + 1 := ⟨n - 1, by omega⟩
    replace ih : Hold _ := ih
    replace hR := rng_s hR
    obtain ⟨g0, g1, g2, g3, hR⟩ := hR
    rw [iter, he]
    clear he
    generalize hK : iter _ _ n = K
    rw [p_spyref3_squares_l3] at h
    revert h
    refine rq_i fun c1 => ?_
    refine rq_i fun c2 => ?_
    intro h
    simp only [go_sem, *]
    subst hK
    refine ih n (s62 + 1) (s63 ++ [(i64.wrap (x61 * x61))]) _ _ _ (by simp only [List.length_cons] at hn; omega) hR ?_ ?_ h
    all_goals simp only [go_sem, *]
def Q0_p_spyref3_squares_l0 (a0_0 : List Int) (a0_1 : List Int) (a0_2 : List Int) (u : Int × Int) (z : Out) : Prop := ∃ env st, z = some (.exit 0, env, st) ∧ env = sp 39 0 [(4, .d (.int .i64 u.1)), (5, .d (.int .i64 u.2))]
abbrev Q_p_spyref3_squares_l0 (a0_0 : List Int) (a0_1 : List Int) (a0_2 : List Int) (o : Int × Int) (z : Out) : Prop := Q0_p_spyref3_squares_l0 a0_0 a0_1 a0_2 o z
theorem l_p_spyref3_squares_l0 (L : Nat) (hL : L ≤ 4611686018427387904) (a0_0 : List Int) (a0_1 : List Int) (a0_2 : List Int) : ∀ (tl n : Nat) (s2 : Int) (s24 : Int) (s25 : Int) (env : List V) (st : Store) (o : Int × Int), tl < n → Cnt 3 s2 tl → mask (maskOf en115.ms 0) env = sp 39 0 [(4, .d (.int .i64 s24)), (5, .d (.int .i64 s25)), (11, .d (.agg 180 [.sl 2 (a0_0.map (D.int .i64)), .sl 2 (a0_1.map (D.int .i64)), .sl 2 (a0_2.map (D.int .i64))])), (12, .d (.int .i64 s2))] → p_spyref3_squares_l0 L a0_0 a0_1 a0_2 tl s2 s24 s25 = some o →
    Q_p_spyref3_squares_l0 a0_0 a0_1 a0_2 o (iter (evC Try.prog (G_spyref3_squares L) (evF Try.prog (G_spyref3_squares L) T_spyref3_squares L 0) L en115.ms 0 0 lb115_0) (maskOf en115.ms 0) n env st) := by
  intro tl
  induction tl with
  | zero =>
    intro n s2 s24 s25 env st o hn hR he  h
    obtain ⟨n, rfl⟩ : ∃ m, n = m + 1 := ⟨n - 1, by omega⟩
    have g0 := cnt_nil hR
    rw [iter, he]
    clear he
    generalize hK : iter _ _ n = K
    rw [p_spyref3_squares_l0] at h
    revert h
    rintro ⟨⟩
    simp only [go_sem, *]
    refine (⟨_, _, rfl, ?_⟩ : Q0_p_spyref3_squares_l0 _ _ _ _ _)
    all_goals simp only [go_sem, *]
  | succ tl ih =>
    intro n s2 s24 s25 env st o hn hR he  h
    obtain ⟨n, rfl⟩ : ∃ m, n = m + 1 := ⟨n - 1, by omega⟩
    replace ih : Hold _ := ih
    replace hR := cnt_s hR
    obtain ⟨g0, g1, g3, hR⟩ := hR
    rw [iter, he]
    clear he
    generalize hK : iter _ _ n = K
    rw [p_spyref3_squares_l0] at h
    revert h
    refine cb_i (fun c1 => ?_) (fun c1 => ?_)
    · have c2 : 0 ≤ s2 := by have := of_decide_eq_true c1; omega
      have c3 : s2 < 3 := by have := of_decide_eq_true c1; omega
      have c4 : s2.toNat = 0 := by have := of_decide_eq_true c1; omega
      refine rq_i fun c5 => ?_
      refine bnd_i fun o50 ho6 => ?_
      intro h
      simp only [go_sem, *]
      generalize hz8 : iter _ _ _ _ _ = z7
      have hq9 : Q_p_spyref3_squares_l1 s24 s25 a0_0 a0_1 a0_2 s2 o50 z7 := by
        rw [← hz8]
        refine l_p_spyref3_squares_l1 L hL s24 s25 a0_0 a0_1 a0_2 s2 a0_0 L 0 ([]) _ _ _ c5 (rng_0 c5 hL) ?_ ?_ ho6
        all_goals simp only [go_sem, *]
      clear hz8 ho6
      obtain ⟨_, st51, rfl, rfl, k10⟩ := hq9
      revert h
      refine bnd_i fun r52 c11 => ?_
      refine bnd_i fun r53 c12 => ?_
      intro h
      simp only [go_sem, *]
      subst hK
      refine ih n (s2 + 1) (i64.wrap (s24 + r52)) (i64.wrap (s25 + r53)) _ _ _ (by omega) hR ?_ h
      all_goals simp only [go_sem, *]
    · refine cb_i (fun c13 => ?_) (fun c13 => ?_)
      · have c14 : 0 ≤ s2 := by have := of_decide_eq_true c13; omega
        have c15 : s2 < 3 := by have := of_decide_eq_true c13; omega
        have c16 : s2.toNat = 1 := by have := of_decide_eq_true c13; omega
        refine rq_i fun c17 => ?_
        refine bnd_i fun o57 ho18 => ?_
        intro h
        simp only [go_sem, *]
        generalize hz20 : iter _ _ _ _ _ = z19
        have hq21 : Q_p_spyref3_squares_l2 s24 s25 a0_0 a0_1 a0_2 s2 o57 z19 := by
          rw [← hz20]
          refine l_p_spyref3_squares_l2 L hL s24 s25 a0_0 a0_1 a0_2 s2 a0_1 L 0 ([]) _ _ _ c17 (rng_0 c17 hL) ?_ ?_ ho18
          all_goals simp only [go_sem, *]
        clear hz20 ho18
        obtain ⟨_, st58, rfl, rfl, k22⟩ := hq21
        revert h
        refine bnd_i fun r59 c23 => ?_
        refine bnd_i fun r60 c24 => ?_
        intro h
        simp only [go_sem, *]
        subst hK
        refine ih n (s2 + 1) (i64.wrap (s24 + r59)) (i64.wrap (s25 + r60)) _ _ _ (by omega) hR ?_ h
        all_goals simp only [go_sem, *]
      · refine cb_i (fun c25 => ?_) (fun c25 => ?_)
        · have c26 : 0 ≤ s2 := by have := of_decide_eq_true c25; omega
          have c27 : s2 < 3 := by have := of_decide_eq_true c25; omega
          have c28 : s2.toNat = 2 := by have := of_decide_eq_true c25; omega
          refine rq_i fun c29 => ?_
          refine bnd_i fun o64 ho30 => ?_
          intro h
          simp only [go_sem, *]
          generalize hz32 : iter _ _ _ _ _ = z31
          have hq33 : Q_p_spyref3_squares_l3 s24 s25 a0_0 a0_1 a0_2 s2 o64 z31 := by
            rw [← hz32]
            refine l_p_spyref3_squares_l3 L hL s24 s25 a0_0 a0_1 a0_2 s2 a0_2 L 0 ([]) _ _ _ c29 (rng_0 c29 hL) ?_ ?_ ho30
            all_goals simp only [go_sem, *]
          clear hz32 ho30
          obtain ⟨_, st65, rfl, rfl, k34⟩ := hq33
          revert h
          refine bnd_i fun r66 c35 => ?_
          refine bnd_i fun r67 c36 => ?_
          intro h
          simp only [go_sem, *]
          subst hK
          refine ih n (s2 + 1) (i64.wrap (s24 + r66)) (i64.wrap (s25 + r67)) _ _ _ (by omega) hR ?_ h
          all_goals simp only [go_sem, *]
        · intro h; cases h
theorem e_spyref3_squares (L : Nat) (hL : L ≤ 4611686018427387904) (a0_0 : List Int) (a0_1 : List Int) (a0_2 : List Int) (res : Int × Int) (h : p_spyref3_squares L a0_0 a0_1 a0_2 = some res) : evTop Try.prog (G_spyref3_squares L) T_spyref3_squares L 1 115 [.agg 180 [.sl 2 (a0_0.map (D.int .i64)), .sl 2 (a0_1.map (D.int .i64)), .sl 2 (a0_2.map (D.int .i64))]] = some [.int .i64 res.1, .int .i64 res.2] := by
  revert h
  unfold p_spyref3_squares evTop
  simp only [List.map]
  rw [evF_s (fn := Try.f115) (msk := en115.ms) (hT := by rfl) (hb := by rfl)]
  refine rq_i fun c1 => ?_
  refine bnd_i fun o68 ho2 => ?_
  intro h
  simp only [go_sem, *]
  generalize hz4 : iter _ _ _ _ _ = z3
  have hq5 : Q_p_spyref3_squares_l0 a0_0 a0_1 a0_2 o68 z3 := by
    rw [← hz4]
    refine l_p_spyref3_squares_l0 L hL a0_0 a0_1 a0_2 _ L 0 0 0 _ _ _ c1 (cnt_0 (by decide) (by decide)) ?_ ho2
    all_goals simp only [go_sem, *]
  clear hz4 ho2
  obtain ⟨_, st69, rfl, rfl⟩ := hq5
  revert h
  rintro ⟨⟩
  simp only [go_sem, *]
noncomputable def s_spyref3_squares (L : Nat) : Ev.Spec := specP (cCons k180 cNil) (fun x => p_spyref3_squares L x.1.1 x.1.2.1 x.1.2.2.1) (fun r => [.int .i64 r.1, .int .i64 r.2])
theorem s_spyref3_squares_run (L : Nat) (a0_0 : List Int) (a0_1 : List Int) (a0_2 : List Int) : (s_spyref3_squares L).run [.agg 180 [.sl 2 (a0_0.map (D.int .i64)), .sl 2 (a0_1.map (D.int .i64)), .sl 2 (a0_2.map (D.int .i64))]] = (p_spyref3_squares L a0_0 a0_1 a0_2).map fun r => [.int .i64 r.1, .int .i64 r.2] := specP_run (cCons k180 cNil) (fun x => p_spyref3_squares L x.1.1 x.1.2.1 x.1.2.2.1) (fun r => [.int .i64 r.1, .int .i64 r.2]) ((a0_0, a0_1, a0_2, ()), ())
theorem ok_spyref3_squares (L : Nat) (hL : L ≤ 4611686018427387904) : SpecOk Try.prog 115 (s_spyref3_squares L) := specP_ok mixed (Go_spyref3_squares L hL) (To_spyref3_squares L) fun x r h => ⟨L, 1, e_spyref3_squares L hL x.1.1 x.1.2.1 x.1.2.2.1 r h⟩
end Go.Proofs.Ytnojehmbiceceaa.P
end
section
set_option linter.unusedVariables false
set_option linter.unusedSimpArgs false
set_option maxRecDepth 100000
namespace Go.Proofs.Ytnojehmbiceceaa.E
open Go.Ev
noncomputable def en116 : Entry := ⟨Try.f116, [(1000001, mb 77 0 []), (1000000, mb 77 0 [8])]⟩
theorem mk116_1000001 (vs : List V) : mask (maskOf en116.ms 1000001) vs = km 77 0 [] vs := mask_mb _ _ _ _
theorem mk116_1000000 (vs : List V) : mask (maskOf en116.ms 1000000) vs = km 77 0 [8] vs := mask_mb _ _ _ _
end Go.Proofs.Ytnojehmbiceceaa.E
end
section
set_option linter.unusedVariables false
set_option linter.unusedSimpArgs false
set_option maxRecDepth 100000
namespace Go.Proofs.Ytnojehmbiceceaa.E
open Go.Ev
noncomputable def en186 : Entry := ⟨Try.f186, [(1000001, mb 9 0 []), (1000000, mb 9 0 [2])]⟩
theorem mk186_1000001 (vs : List V) : mask (maskOf en186.ms 1000001) vs = km 9 0 [] vs := mask_mb _ _ _ _
theorem mk186_1000000 (vs : List V) : mask (maskOf en186.ms 1000000) vs = km 9 0 [2] vs := mask_mb _ _ _ _
end Go.Proofs.Ytnojehmbiceceaa.E
end
section
set_option linter.unusedVariables false
set_option linter.unusedSimpArgs false
set_option maxRecDepth 100000
namespace Go.Proofs.Ytnojehmbiceceaa.P
open Go.Ev Go.IntKind Go.Proofs.Ytnojehmbiceceaa Go.Proofs.Ytnojehmbiceceaa.Ty Go.Proofs.Ytnojehmbiceceaa.E
def p_spyref3_sign (L : Nat) (a0 : Int) : Option Int := if a0 < 0 then (some (-1)) else (if a0 > 0 then (some 1) else (some 0))
noncomputable def G_spyref3_sign (L : Nat) : Specs := []
noncomputable def T_spyref3_sign : Table := tableOf [(186, en186)]
theorem Go_spyref3_sign (L : Nat) (hL : L ≤ 4611686018427387904) : ∀ g s, Ev.look (G_spyref3_sign L) g = some s → SpecOk Try.prog g s := specs_nil
theorem To_spyref3_sign (L : Nat) : TableOk Try.prog ((G_spyref3_sign L).map (·.1)) T_spyref3_sign := (table_cons Try.func186 (by kernel_rfl) (by kernel_rfl) table_nil)
attribute [local go_sem] Ty.tk2 Ty.ik2 Ty.ek2 Ty.zv2 Ty.by2 Ty.so2 Ty.tk4 Ty.ub4 Ty.ek4 Ty.zv4 Ty.by4 Ty.so4 E.mk186_1000001 E.mk186_1000000 loopN loops Try.f186
theorem e_spyref3_sign (L : Nat) (hL : L ≤ 4611686018427387904) (a0 : Int) (res : Int) (h : p_spyref3_sign L a0 = some res) : evTop Try.prog (G_spyref3_sign L) T_spyref3_sign L 1 186 [.int .i64 a0] = some [.int .i64 res] := by
  revert h
  unfold p_spyref3_sign evTop
  simp only [List.map]
  rw [evF_s (fn := Try.f186) (msk := en186.ms) (hT := by rfl) (hb := by rfl)]
  refine ite_i (fun c1 => ?_) (fun c1 => ?_)
  · rintro ⟨⟩
    simp only [go_sem, *]
  · refine ite_i (fun c2 => ?_) (fun c2 => ?_)
    · rintro ⟨⟩
      simp only [go_sem, *]
    · rintro ⟨⟩
      simp only [go_sem, *]
noncomputable def s_spyref3_sign (L : Nat) : Ev.Spec := specP (cCons (cI .i64) cNil) (fun x => p_spyref3_sign L x.1) (fun r => [.int .i64 r])
theorem s_spyref3_sign_run (L : Nat) (a0 : Int) : (s_spyref3_sign L).run [.int .i64 a0] = (p_spyref3_sign L a0).map fun r => [.int .i64 r] := specP_run (cCons (cI .i64) cNil) (fun x => p_spyref3_sign L x.1) (fun r => [.int .i64 r]) (a0, ())
theorem ok_spyref3_sign (L : Nat) (hL : L ≤ 4611686018427387904) : SpecOk Try.prog 186 (s_spyref3_sign L) := specP_ok mixed (Go_spyref3_sign L hL) (To_spyref3_sign L) fun x r h => ⟨L, 1, e_spyref3_sign L hL x.1 r h⟩
end Go.Proofs.Ytnojehmbiceceaa.P
end
section
set_option linter.unusedVariables false
set_option linter.unusedSimpArgs false
set_option maxRecDepth 100000
namespace Go.Proofs.Ytnojehmbiceceaa.E
open Go.Ev
noncomputable def en187 : Entry := ⟨Try.f187, [(1000000, mb 10 0 [2])]⟩
theorem mk187_1000000 (vs : List V) : mask (maskOf en187.ms 1000000) vs = km 10 0 [2] vs := mask_mb _ _ _ _
end Go.Proofs.Ytnojehmbiceceaa.E
end
section
set_option linter.unusedVariables false
set_option linter.unusedSimpArgs false
set_option maxRecDepth 100000
namespace Go.Proofs.Ytnojehmbiceceaa.P
open Go.Ev Go.IntKind Go.Proofs.Ytnojehmbiceceaa Go.Proofs.Ytnojehmbiceceaa.Ty Go.Proofs.Ytnojehmbiceceaa.E
def p_spyref3_size (L : Nat) (a0 : Int) : Option Int := if a0 < 0 then (some (u64.wrap (0 - (u64.wrap a0)))) else (some (u64.wrap a0))
noncomputable def G_spyref3_size (L : Nat) : Specs := []
noncomputable def T_spyref3_size : Table := tableOf [(187, en187)]
theorem Go_spyref3_size (L : Nat) (hL : L ≤ 4611686018427387904) : ∀ g s, Ev.look (G_spyref3_size L) g = some s → SpecOk Try.prog g s := specs_nil
theorem To_spyref3_size (L : Nat) : TableOk Try.prog ((G_spyref3_size L).map (·.1)) T_spyref3_size := (table_cons Try.func187 (by kernel_rfl) (by kernel_rfl) table_nil)
attribute [local go_sem] Ty.tk2 Ty.ik2 Ty.ek2 Ty.zv2 Ty.by2 Ty.so2 Ty.tk4 Ty.ub4 Ty.ek4 Ty.zv4 Ty.by4 Ty.so4 Ty.tk133 Ty.ik133 Ty.ek133 Ty.zv133 Ty.by133 Ty.so133 E.mk187_1000000 loopN loops Try.f187
theorem e_spyref3_size (L : Nat) (hL : L ≤ 4611686018427387904) (a0 : Int) (res : Int) (h : p_spyref3_size L a0 = some res) : evTop Try.prog (G_spyref3_size L) T_spyref3_size L 1 187 [.int .i64 a0] = some [.int .u64 res] := by
  revert h
  unfold p_spyref3_size evTop
  simp only [List.map]
  rw [evF_s (fn := Try.f187) (msk := en187.ms) (hT := by rfl) (hb := by rfl)]
  refine ite_i (fun c1 => ?_) (fun c1 => ?_)
  · rintro ⟨⟩
    simp only [go_sem, *]
  · rintro ⟨⟩
    simp only [go_sem, *]
noncomputable def s_spyref3_size (L : Nat) : Ev.Spec := specP (cCons (cI .i64) cNil) (fun x => p_spyref3_size L x.1) (fun r => [.int .u64 r])
theorem s_spyref3_size_run (L : Nat) (a0 : Int) : (s_spyref3_size L).run [.int .i64 a0] = (p_spyref3_size L a0).map fun r => [.int .u64 r] := specP_run (cCons (cI .i64) cNil) (fun x => p_spyref3_size L x.1) (fun r => [.int .u64 r]) (a0, ())
theorem ok_spyref3_size (L : Nat) (hL : L ≤ 4611686018427387904) : SpecOk Try.prog 187 (s_spyref3_size L) := specP_ok mixed (Go_spyref3_size L hL) (To_spyref3_size L) fun x r h => ⟨L, 1, e_spyref3_size L hL x.1 r h⟩
end Go.Proofs.Ytnojehmbiceceaa.P
end
section
set_option linter.unusedVariables false
set_option linter.unusedSimpArgs false
set_option maxRecDepth 100000
namespace Go.Proofs.Ytnojehmbiceceaa.P
open Go.Ev Go.IntKind Go.Proofs.Ytnojehmbiceceaa Go.Proofs.Ytnojehmbiceceaa.Ty Go.Proofs.Ytnojehmbiceceaa.E
def p_spyref3_Cmp (L : Nat) (a0 : Int) (a1 : Int) (a2 : Int) (a3 : Int) : Option Int := bnd (p_spyref3_sign L a0) fun r1 => bnd (p_spyref3_sign L a2) fun r2 => cb (decide ((i64.wrap (r1 * (minI 1 a1))) = (i64.wrap (r2 * (minI 1 a3))))) (cb (decide ((i64.wrap (r1 * (minI 1 a1))) = 0)) (some (i64.wrap ((i64.wrap (r1 * (minI 1 a1))) - (i64.wrap (r2 * (minI 1 a3)))))) (bnd (p_spyref3_size L a0) fun r3 => bnd (p_bits_Mul64 L r3 (u64.wrap a1)) fun r4 => bnd (p_spyref3_size L a2) fun r5 => bnd (p_bits_Mul64 L r5 (u64.wrap a3)) fun r6 => cb (decide (r4.1 = r6.1)) (cb (decide (r4.2 = r6.2)) (some 0) (if r4.1 > r6.1 then (cb (true == (decide ((i64.wrap (r1 * (minI 1 a1))) > 0))) (some 1) (some (-1))) else (cb ((decide (r4.2 > r6.2)) == (decide ((i64.wrap (r1 * (minI 1 a1))) > 0))) (some 1) (some (-1))))) (if r4.1 > r6.1 then (cb (true == (decide ((i64.wrap (r1 * (minI 1 a1))) > 0))) (some 1) (some (-1))) else (cb (false == (decide ((i64.wrap (r1 * (minI 1 a1))) > 0))) (some 1) (some (-1)))))) (some (i64.wrap ((i64.wrap (r1 * (minI 1 a1))) - (i64.wrap (r2 * (minI 1 a3))))))
noncomputable def G_spyref3_Cmp (L : Nat) : Specs := [(172, s_bits_Mul64 L), (186, s_spyref3_sign L), (187, s_spyref3_size L)]
noncomputable def T_spyref3_Cmp : Table := tableOf [(116, en116)]
theorem Go_spyref3_Cmp (L : Nat) (hL : L ≤ 4611686018427387904) : ∀ g s, Ev.look (G_spyref3_Cmp L) g = some s → SpecOk Try.prog g s := (specs_cons (ok_bits_Mul64 L hL) (specs_cons (ok_spyref3_sign L hL) (specs_cons (ok_spyref3_size L hL) specs_nil)))
theorem To_spyref3_Cmp (L : Nat) : TableOk Try.prog ((G_spyref3_Cmp L).map (·.1)) T_spyref3_Cmp := (table_cons Try.func116 (by kernel_rfl) (by kernel_rfl) table_nil)
theorem lk_spyref3_Cmp_172 (L : Nat) : Ev.look (G_spyref3_Cmp L) 172 = some (s_bits_Mul64 L) := nr rfl
theorem lk_spyref3_Cmp_186 (L : Nat) : Ev.look (G_spyref3_Cmp L) 186 = some (s_spyref3_sign L) := nr rfl
theorem lk_spyref3_Cmp_187 (L : Nat) : Ev.look (G_spyref3_Cmp L) 187 = some (s_spyref3_size L) := nr rfl
attribute [local go_sem] Ty.tk2 Ty.ik2 Ty.ek2 Ty.zv2 Ty.by2 Ty.so2 Ty.tk3 Ty.ik3 Ty.ek3 Ty.zv3 Ty.by3 Ty.so3 Ty.tk4 Ty.ub4 Ty.ek4 Ty.zv4 Ty.by4 Ty.so4 Ty.tk133 Ty.ik133 Ty.ek133 Ty.zv133 Ty.by133 Ty.so133 E.mk116_1000001 E.mk116_1000000 lk_spyref3_Cmp_172 lk_spyref3_Cmp_186 lk_spyref3_Cmp_187 s_bits_Mul64_run s_spyref3_sign_run s_spyref3_size_run loopN loops Try.f116
theorem e_spyref3_Cmp (L : Nat) (hL : L ≤ 4611686018427387904) (a0 : Int) (a1 : Int) (a2 : Int) (a3 : Int) (res : Int) (h : p_spyref3_Cmp L a0 a1 a2 a3 = some res) : evTop Try.prog (G_spyref3_Cmp L) T_spyref3_Cmp L 1 116 [.int .i64 a0, .int .i64 a1, .int .i64 a2, .int .i64 a3] = some [.int .i64 res] := by
  revert h
  unfold p_spyref3_Cmp evTop
  simp only [List.map]
  rw [evF_s (fn := Try.f116) (msk := en116.ms) (hT := by rfl) (hb := by rfl)]
  refine bnd_i fun r1 c1 => ?_
  refine bnd_i fun r2 c2 => ?_
  refine cb_i (fun c3 => ?_) (fun c3 => ?_)
  · refine cb_i (fun c4 => ?_) (fun c4 => ?_)
    · rintro ⟨⟩
      simp only [go_sem, *]
    · refine bnd_i fun r3 c5 => ?_
      refine bnd_i fun r4 c6 => ?_
      refine bnd_i fun r5 c7 => ?_
      refine bnd_i fun r6 c8 => ?_
      refine cb_i (fun c9 => ?_) (fun c9 => ?_)
      · refine cb_i (fun c10 => ?_) (fun c10 => ?_)
        · rintro ⟨⟩
          simp only [go_sem, *]
        · refine ite_i (fun c11 => ?_) (fun c11 => ?_)
          · refine cb_i (fun c12 => ?_) (fun c12 => ?_)
            · rintro ⟨⟩
              simp only [go_sem, *]
            · rintro ⟨⟩
              simp only [go_sem, *]
          · refine cb_i (fun c13 => ?_) (fun c13 => ?_)
            · rintro ⟨⟩
              simp only [go_sem, *]
            · rintro ⟨⟩
              simp only [go_sem, *]
      · refine ite_i (fun c14 => ?_) (fun c14 => ?_)
        · refine cb_i (fun c15 => ?_) (fun c15 => ?_)
          · rintro ⟨⟩
            simp only [go_sem, *]
          · rintro ⟨⟩
            simp only [go_sem, *]
        · refine cb_i (fun c16 => ?_) (fun c16 => ?_)
          · rintro ⟨⟩
            simp only [go_sem, *]
          · rintro ⟨⟩
            simp only [go_sem, *]
  · rintro ⟨⟩
    simp only [go_sem, *]
noncomputable def s_spyref3_Cmp (L : Nat) : Ev.Spec := specP (cCons (cI .i64) (cCons (cI .i64) (cCons (cI .i64) (cCons (cI .i64) cNil)))) (fun x => p_spyref3_Cmp L x.1 x.2.1 x.2.2.1 x.2.2.2.1) (fun r => [.int .i64 r])
theorem s_spyref3_Cmp_run (L : Nat) (a0 : Int) (a1 : Int) (a2 : Int) (a3 : Int) : (s_spyref3_Cmp L).run [.int .i64 a0, .int .i64 a1, .int .i64 a2, .int .i64 a3] = (p_spyref3_Cmp L a0 a1 a2 a3).map fun r => [.int .i64 r] := specP_run (cCons (cI .i64) (cCons (cI .i64) (cCons (cI .i64) (cCons (cI .i64) cNil)))) (fun x => p_spyref3_Cmp L x.1 x.2.1 x.2.2.1 x.2.2.2.1) (fun r => [.int .i64 r]) (a0, a1, a2, a3, ())
theorem ok_spyref3_Cmp (L : Nat) (hL : L ≤ 4611686018427387904) : SpecOk Try.prog 116 (s_spyref3_Cmp L) := specP_ok mixed (Go_spyref3_Cmp L hL) (To_spyref3_Cmp L) fun x r h => ⟨L, 1, e_spyref3_Cmp L hL x.1 x.2.1 x.2.2.1 x.2.2.2.1 r h⟩
end Go.Proofs.Ytnojehmbiceceaa.P
end
section
set_option linter.unusedVariables false
set_option linter.unusedSimpArgs false
set_option maxRecDepth 100000
namespace Go.Proofs.Ytnojehmbiceceaa.E
open Go.Ev
noncomputable def en117 : Entry := ⟨Try.f117, [(1000000, mb 40 0 [4])]⟩
theorem mk117_1000000 (vs : List V) : mask (maskOf en117.ms 1000000) vs = km 40 0 [4] vs := mask_mb _ _ _ _
end Go.Proofs.Ytnojehmbiceceaa.E
end
section
set_option linter.unusedVariables false
set_option linter.unusedSimpArgs false
set_option maxRecDepth 100000
namespace Go.Proofs.Ytnojehmbiceceaa.P
open Go.Ev Go.IntKind Go.Proofs.Ytnojehmbiceceaa Go.Proofs.Ytnojehmbiceceaa.Ty Go.Proofs.Ytnojehmbiceceaa.E
def p_spyref3_RootUp (L : Nat) (a0 : Int) (a1 : Int) : Option Int := bnd (p_spyref3_Root L a0 a1) fun r1 => bnd (p_bits_Mul64 L (u64.wrap a0) (u64.wrap a1)) fun r2 => bnd (p_bits_Mul64 L (u64.wrap r1) (u64.wrap r1)) fun r3 => cb (decide (r3.1 = r2.1)) (cb (decide (r3.2 = r2.2)) (some r1) (some (i64.wrap (r1 + 1)))) (some (i64.wrap (r1 + 1)))
noncomputable def G_spyref3_RootUp (L : Nat) : Specs := [(118, s_spyref3_Root L), (172, s_bits_Mul64 L)]
noncomputable def T_spyref3_RootUp : Table := tableOf [(117, en117)]
theorem Go_spyref3_RootUp (L : Nat) (hL : L ≤ 4611686018427387904) : ∀ g s, Ev.look (G_spyref3_RootUp L) g = some s → SpecOk Try.prog g s := (specs_cons (ok_spyref3_Root L hL) (specs_cons (ok_bits_Mul64 L hL) specs_nil))
theorem To_spyref3_RootUp (L : Nat) : TableOk Try.prog ((G_spyref3_RootUp L).map (·.1)) T_spyref3_RootUp := (table_cons Try.func117 (by kernel_rfl) (by kernel_rfl) table_nil)
theorem lk_spyref3_RootUp_118 (L : Nat) : Ev.look (G_spyref3_RootUp L) 118 = some (s_spyref3_Root L) := nr rfl
theorem lk_spyref3_RootUp_172 (L : Nat) : Ev.look (G_spyref3_RootUp L) 172 = some (s_bits_Mul64 L) := nr rfl
attribute [local go_sem] Ty.tk2 Ty.ik2 Ty.ek2 Ty.zv2 Ty.by2 Ty.so2 Ty.tk4 Ty.ub4 Ty.ek4 Ty.zv4 Ty.by4 Ty.so4 Ty.tk133 Ty.ik133 Ty.ek133 Ty.zv133 Ty.by133 Ty.so133 E.mk117_1000000 lk_spyref3_RootUp_118 lk_spyref3_RootUp_172 s_spyref3_Root_run s_bits_Mul64_run loopN loops Try.f117
theorem e_spyref3_RootUp (L : Nat) (hL : L ≤ 4611686018427387904) (a0 : Int) (a1 : Int) (res : Int) (h : p_spyref3_RootUp L a0 a1 = some res) : evTop Try.prog (G_spyref3_RootUp L) T_spyref3_RootUp L 1 117 [.int .i64 a0, .int .i64 a1] = some [.int .i64 res] := by
  revert h
  unfold p_spyref3_RootUp evTop
  simp only [List.map]
  rw [evF_s (fn := Try.f117) (msk := en117.ms) (hT := by rfl) (hb := by rfl)]
  refine bnd_i fun r1 c1 => ?_
  refine bnd_i fun r2 c2 => ?_
  refine bnd_i fun r3 c3 => ?_
  refine cb_i (fun c4 => ?_) (fun c4 => ?_)
  · refine cb_i (fun c5 => ?_) (fun c5 => ?_)
    · rintro ⟨⟩
      simp only [go_sem, *]
    · rintro ⟨⟩
      simp only [go_sem, *]
  · rintro ⟨⟩
    simp only [go_sem, *]
noncomputable def s_spyref3_RootUp (L : Nat) : Ev.Spec := specP (cCons (cI .i64) (cCons (cI .i64) cNil)) (fun x => p_spyref3_RootUp L x.1 x.2.1) (fun r => [.int .i64 r])
theorem s_spyref3_RootUp_run (L : Nat) (a0 : Int) (a1 : Int) : (s_spyref3_RootUp L).run [.int .i64 a0, .int .i64 a1] = (p_spyref3_RootUp L a0 a1).map fun r => [.int .i64 r] := specP_run (cCons (cI .i64) (cCons (cI .i64) cNil)) (fun x => p_spyref3_RootUp L x.1 x.2.1) (fun r => [.int .i64 r]) (a0, a1, ())
theorem ok_spyref3_RootUp (L : Nat) (hL : L ≤ 4611686018427387904) : SpecOk Try.prog 117 (s_spyref3_RootUp L) := specP_ok mixed (Go_spyref3_RootUp L hL) (To_spyref3_RootUp L) fun x r h => ⟨L, 1, e_spyref3_RootUp L hL x.1 x.2.1 r h⟩
end Go.Proofs.Ytnojehmbiceceaa.P
end
end
