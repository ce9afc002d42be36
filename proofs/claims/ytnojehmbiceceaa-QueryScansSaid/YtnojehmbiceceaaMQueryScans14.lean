/- Parts of one proof, joined: G119, G121, G37, G193, G125, G45, G41. -/
import Derived.Test.YtnojehmbiceceaaMQueryScans13
section
attribute [local go_sem] Go.Ev.putR_s Go.Ev.putR_0 Go.Ev.thenO_s Go.Ev.thenO_0 Go.Ev.seqR_n Go.Ev.seqR_e Go.Ev.seqR_r Go.Ev.seqR_0 Go.Ev.blkR_e Go.Ev.blkR_n Go.Ev.blkR_r Go.Ev.blkR_0 Go.Ev.normR_s Go.Ev.normR_0 Go.Ev.outR_r Go.Ev.outR_n Go.Ev.outR_0 Go.Ev.retS_s Go.Ev.retS_0 Go.Ev.pureO_s Go.Ev.pureO_0 Go.Ev.topR_0 Go.Ev.topR_t Go.Ev.topR_t0 Go.Ev.oneL_0 Go.Ev.oneL_s Go.Ev.topR_d Go.Ev.topR_nils Go.Ev.topR_agg Go.Ev.topR_rs Go.Ev.evOp_move Go.Ev.evOp_assign Go.Ev.evOp_pick Go.Ev.evOp_alloc Go.Ev.evOp_box Go.Ev.evOp_build Go.Ev.evOp_buildSlice Go.Ev.evOp_load Go.Ev.evOp_store Go.Ev.evOp_makeMap Go.Ev.evOp_lookup Go.Ev.evOp_mapUpdate Go.Ev.evOp_insert Go.Ev.evOp_nilCheck Go.Ev.evOp_binOp Go.Ev.evOp_unOp Go.Ev.evOp_convert Go.Ev.evOp_makeFunc Go.Ev.evOp_makeSlice Go.Ev.evOp_slice Go.Ev.evOp_fieldAddr Go.Ev.evOp_field Go.Ev.evOp_indexAddr Go.Ev.evOp_index Go.Ev.evOp_extract Go.Ev.evOp_call Go.Ev.evOp_append Go.Ev.evOp_clear Go.Ev.evOp_len Go.Ev.evOp_min Go.Ev.evOp_max Go.Ev.condR_b Go.Ev.condR_t Go.Ev.evOps_nil Go.Ev.evOps_plain Go.Ev.evOps_guard Go.Ev.runG_eq Go.Ev.skipG_eq Go.Ev.condL_tt Go.Ev.condL_ff Go.Ev.condL_tf Go.Ev.condL_ft Go.Ev.condL_u Go.Ev.condC_t Go.Ev.condC_f Go.Ev.evC_skip Go.Ev.evC_ret Go.Ev.evC_exit Go.Ev.evC_label Go.Ev.evC_region Go.Ev.evC_draw Go.Ev.evC_seq Go.Ev.evC_cond Go.Ev.evC_block Go.Ev.evC_loop Go.Ev.fin_d Go.Ev.fin_nils Go.Ev.fin_agg_ Go.Ev.fin_rs Go.Ev.finS_s Go.Ev.mapO_fin Go.Ev.upd_upd Go.Ev.argv_d Go.Ev.argv_nils Go.Ev.argv_agg Go.Ev.argv_rs Go.Ev.argv_p Go.Ev.fk_low Go.Ev.appendTo_nils Go.Ev.appendTo_rs Go.Ev.consV_d Go.Ev.consV_agg Go.Ev.consV_p Go.Ev.consV_rs Go.Ev.consV_nils Go.Ev.consV_fn Go.Ev.consV_und Go.Ev.consV_jk Go.Ev.consV_grown Go.Ev.topR_grown Go.Ev.len_grown Go.Ev.consV_mp Go.Ev.sameK_i Go.Ev.sameK_s Go.Ev.mget_0 Go.Ev.mget_hit Go.Ev.mget_miss Go.Ev.mput_0 Go.Ev.mput_hit Go.Ev.mput_miss Go.Ev.apartAll Go.Ev.apartL Go.Ev.apartV Go.Ev.freeAll Go.Ev.sel Go.Ev.keyOfV Go.Ev.evLookup Go.Ev.evPut Go.Ev.hintOk Go.Ev.keyOk Go.Ev.consP Go.Ev.lookV Go.Ev.guardV Go.Ev.dstAt Go.Ev.evPure Go.Ev.evStore Go.Ev.evBin Go.Ev.evBinO Go.Ev.evNil Go.Ev.isNilC Go.Ev.evUn Go.Ev.evConv Go.Ev.evSlice Go.Ev.optI Go.Ev.foldI Go.Ev.capsOk Go.Ev.noTup Go.Ev.nth Go.Ev.setN Go.Ev.killAt Go.Ev.pad Go.Ev.V.get Go.Ev.V.put Go.Ev.putD Go.Ev.newBlk Go.Ev.upd Go.Ev.keq Go.Ev.empty Go.Ev.evCall Go.Ev.V.args Go.Ev.argP Go.Ev.callOf Go.Ev.evNilP Go.Ev.isNilP Go.Ev.look Go.Ev.V.view.views Go.Ev.V.view Go.Ev.V.toD Go.Ev.V.toD.V.toDs Go.Ev.V.pure.pures Go.Ev.V.pure Go.Ev.D.flat.flats Go.Ev.D.flat Go.Ev.mkAgg Go.Ev.allD Go.Ev.aggParts Go.Ev.setParts Go.Ev.setElems Go.Ev.getPath Go.Ev.setPath Go.Ev.subL Go.Ev.eqD Go.Ev.eqD.eqDs Go.Ev.and2 Go.Ev.strCut Go.Ev.evalT Go.Ev.constT Go.Ev.evArgs Go.Ev.mask Go.Ev.maskOf Go.Ev.tableOf Go.Ev.compT Go.Ev.resV Go.Ev.retV Go.Ev.mapO Go.Ev.frzO_n Go.Ev.frzO_e Go.Ev.frzO_r Go.Ev.frzO_0 Go.Ev.mb_z Go.Ev.mb_0 Go.Ev.mb_s Go.Ev.frzL_t Go.Ev.frzL_f Go.Ev.frzL_0 Go.Ev.frzT_nils Go.Ev.frzT_rs Go.Ev.frzT_p Go.Ev.frzK_i Go.Ev.keyIn_i Go.Ev.rI_nil Go.Ev.rI_cons Go.Ev.rI_row Go.Ev.rI_app Go.Ev.r_d Go.Ev.r_nils Go.Ev.r_agg Go.Ev.r_rs Go.Ev.r_gl Go.Ev.vw_row Go.Ev.vw_app Go.Ev.appO_s Go.Ev.frzT_gl Go.Ev.allD_gl Go.Ev.killAt_i Go.Ev.tkOne_i Go.Ev.hT_agg Go.Ev.hT_vagg Go.Ev.hT_int Go.Ev.hT_bool Go.Ev.hT_str Go.Ev.hT_sl Go.Ev.hT_ptr Go.Ev.hT_np Go.Ev.hT_p Go.Ev.hT_rs Go.Ev.hT_mp Go.Ev.hT_nils Go.Ev.hT_fn Go.Ev.hT_jk Go.Ev.hT_gl Go.Ev.eO_sl Go.Ev.eO_nils Go.Ev.eO_rs Go.Ev.eT_sl Go.Ev.eT_rs Go.Ev.pL_str Go.Ev.pL_sl Go.Ev.pL_rs Go.Ev.pL_nils Go.Ev.pL_min Go.Ev.pL_max Go.Ev.len_glB Go.Ev.noTup_gl Go.Ev.rowV_len Go.Ev.rowV_nil Go.Ev.rowV_cons Go.Ev.rowV_append Go.Ev.rowV_set Go.Ev.rowV_replicate Go.Ev.nth_row Go.Ev.row_take Go.Ev.row_drop Go.Ev.toDs_row Go.Ev.fin_row Go.Ev.map_row Go.Ev.map_take_ Go.Ev.map_drop_ Go.Ev.Bk_i Go.Ev.GlB_0 Go.Ev.GlB_mk Go.Ev.gl_nil Go.Ev.gl_cons Go.Ev.gl_snoc Go.Ev.gl_setN Go.Ev.appendTo_gl Go.Ev.consV_gl Go.Ev.elems_gl Go.Ev.fin_gl Go.Ev.view_gl Go.Ev.argv_gl Go.Ev.topR_gl Go.Ev.sp_z Go.Ev.sp_0 Go.Ev.sp_s Go.Ev.km_z Go.Ev.km_0 Go.Ev.km_s Go.Ev.beq_toList Go.Ev.nc0 Go.Ev.bq_t Go.Ev.bq_f Go.Ev.bodyN Go.Ev.le_maxRow Int.cast_ofNat_Int Go.IntWalk.i64_in Go.IntWalk.u64_in Go.IntWalk.u8_in beq_self_eq_true Bool.true_beq Bool.false_beq Bool.and_true Bool.true_and Bool.false_and Bool.and_false Bool.and_self Bool.not_true Bool.not_false Bool.not_eq_true cond_true cond_false if_true if_false and_true true_and and_self decide_true decide_false Bool.or_true Bool.true_or Bool.or_false Bool.false_or List.isEmpty List.isEmpty_nil List.size_toArray List.map List.length_map List.length_cons List.length_nil Option.map Option.bind Option.getD Option.isSome List.replicate Bool.false_eq_true implies_true false_implies forall_const Array.toList Array.isEmpty List.append List.nil_append List.cons_append List.drop_zero List.take_length List.take_succ_cons List.take_zero List.take_nil List.getElem?_map List.getElem?_cons_zero List.getElem?_cons_succ List.getElem?_nil List.append_nil eq_self Int.toNat_natCast List.length_append Nat.zero_add Nat.add_zero List.length_replicate Nat.sub_zero Option.map_some Option.map_none Int.le_refl Nat.le_refl Int.natCast_nonneg List.map_append
attribute [local go_sem_proc] Nat.reduceAdd Nat.reduceSub Nat.reduceMul Nat.reduceEqDiff Nat.reduceBEq Nat.reduceLT Nat.reduceLeDiff Nat.reducePow Int.reduceToNat Int.reduceLT Int.reduceLE Int.reduceGT Int.reduceGE Int.reduceEq Int.reduceNeg Int.reduceAdd Int.reduceSub Int.reduceMul reduceCtorEq
attribute [local go_sem_proc ↓] reduceIte
section
set_option linter.unusedVariables false
set_option linter.unusedSimpArgs false
set_option maxRecDepth 100000
namespace Go.Proofs.Ytnojehmbiceceaa.P
open Go.Ev Go.IntKind Go.Proofs.Ytnojehmbiceceaa Go.Proofs.Ytnojehmbiceceaa.Ty Go.Proofs.Ytnojehmbiceceaa.E
def p_query_grade_l0 (L : Nat) (a0_1_0_0 : Int) (a0_1_0_1 : Int) (a0_1_0_2 : Bool) (a0_1_1_0 : Int) (a0_1_1_1 : Int) (a0_1_1_2 : Bool) (a0_1_2_0 : Int) (a0_1_2_1 : Int) (a0_1_2_2 : Bool) : List ((Int × Int × Int × Unit) × Int × Unit) → Int → Option Int
  | [], s8 => some s8
  | x3 :: tl, s8 => bnd (p_query_point L x3.1.1 x3.1.2.1 x3.1.2.2.1) fun r11 => bnd (p_query_Near L a0_1_0_0 a0_1_0_1 a0_1_0_2 a0_1_1_0 a0_1_1_1 a0_1_1_2 a0_1_2_0 a0_1_2_1 a0_1_2_2 r11.1 r11.2.1 r11.2.2.1 r11.2.2.2.1 r11.2.2.2.2.1 r11.2.2.2.2.2.1 r11.2.2.2.2.2.2.1 r11.2.2.2.2.2.2.2.1 r11.2.2.2.2.2.2.2.2 x3.2.1) fun r12 => p_query_grade_l0 L a0_1_0_0 a0_1_0_1 a0_1_0_2 a0_1_1_0 a0_1_1_1 a0_1_1_2 a0_1_2_0 a0_1_2_1 a0_1_2_2 tl (minI s8 r12)
def p_query_grade (L : Nat) (a0_0 : Int) (a0_1_0_0 : Int) (a0_1_0_1 : Int) (a0_1_0_2 : Bool) (a0_1_1_0 : Int) (a0_1_1_1 : Int) (a0_1_1_2 : Bool) (a0_1_2_0 : Int) (a0_1_2_1 : Int) (a0_1_2_2 : Bool) (a0_2_0 : Int) (a0_2_1 : Int) (a0_2_2 : Bool) (a0_3_0 : Int) (a0_3_1 : Int) (a0_3_2 : Bool) (a0_4 : List Int) (a0_5 : Int) (a1_0 : List ((Int × Int × Int × Unit) × Int × Unit)) (a1_1 : Int) (a1_2 : Int) (a1_3 : Int) (a1_4 : Int) : Option Int := bnd (p_query_between_Tick L a0_3_0 a0_3_1 a0_3_2 a1_1 a1_2) fun r1 => bnd (p_query_between_Quanta L a0_2_0 a0_2_1 a0_2_2 a1_3 1125899906842624) fun r2 => cb (decide ((bitsI .and .i64 a0_5 a1_4) = 0)) (rq (a1_0.length < L) <| bnd (p_query_grade_l0 L a0_1_0_0 a0_1_0_1 a0_1_0_2 a0_1_1_0 a0_1_1_1 a0_1_1_2 a0_1_2_0 a0_1_2_1 a0_1_2_2 a1_0 (minI r1 r2)) fun o13 => some o13) (rq (a1_0.length < L) <| bnd (p_query_grade_l0 L a0_1_0_0 a0_1_0_1 a0_1_0_2 a0_1_1_0 a0_1_1_1 a0_1_1_2 a0_1_2_0 a0_1_2_1 a0_1_2_2 a1_0 0) fun o24 => some o24)
noncomputable def G_query_grade (L : Nat) : Specs := [(33, s_query_Near L), (188, s_query_between_Tick L), (189, s_query_between_Quanta L), (190, s_query_point L)]
noncomputable def T_query_grade : Table := tableOf [(119, en119)]
theorem Go_query_grade (L : Nat) (hL : L ≤ 4611686018427387904) : ∀ g s, Ev.look (G_query_grade L) g = some s → SpecOk Try.prog g s := (specs_cons (ok_query_Near L hL) (specs_cons (ok_query_between_Tick L hL) (specs_cons (ok_query_between_Quanta L hL) (specs_cons (ok_query_point L hL) specs_nil))))
theorem To_query_grade (L : Nat) : TableOk Try.prog ((G_query_grade L).map (·.1)) T_query_grade := (table_cons Try.func119 (by kernel_rfl) (by kernel_rfl) table_nil)
theorem lk_query_grade_33 (L : Nat) : Ev.look (G_query_grade L) 33 = some (s_query_Near L) := nr rfl
theorem lk_query_grade_188 (L : Nat) : Ev.look (G_query_grade L) 188 = some (s_query_between_Tick L) := nr rfl
theorem lk_query_grade_189 (L : Nat) : Ev.look (G_query_grade L) 189 = some (s_query_between_Quanta L) := nr rfl
theorem lk_query_grade_190 (L : Nat) : Ev.look (G_query_grade L) 190 = some (s_query_point L) := nr rfl
attribute [local go_sem] Ty.tk2 Ty.ik2 Ty.ek2 Ty.zv2 Ty.by2 Ty.so2 Ty.tk3 Ty.ik3 Ty.ek3 Ty.zv3 Ty.by3 Ty.so3 Ty.tk4 Ty.ub4 Ty.ek4 Ty.zv4 Ty.by4 Ty.so4 Ty.tk22 Ty.zv22 Ty.by22 Ty.so22 Ty.tk24 Ty.ik24 Ty.ek24 Ty.zv24 Ty.by24 Ty.so24 Ty.tk35 Ty.ct35 Ty.ek35 Ty.zv35 Ty.by35 Ty.so35 Ty.tk62 Ty.ik62 Ty.ek62 Ty.zv62 Ty.by62 Ty.so62 Ty.tk64 Ty.ct64 Ty.ek64 Ty.zv64 Ty.by64 Ty.so64 Ty.tk66 Ty.ct66 Ty.ek66 Ty.zv66 Ty.by66 Ty.so66 Ty.tk67 Ty.ik67 Ty.ek67 Ty.zv67 Ty.by67 Ty.so67 Ty.tk71 Ty.zv71 Ty.by71 Ty.so71 Ty.tk72 Ty.ik72 Ty.ek72 Ty.zv72 Ty.by72 Ty.so72 Ty.tk74 Ty.ct74 Ty.zv74 Ty.by74 Ty.so74 Ty.tk87 Ty.ct87 Ty.ek87 Ty.zv87 Ty.by87 Ty.so87 Ty.tk89 Ty.ct89 Ty.zv89 Ty.by89 Ty.so89 Ty.tk165 Ty.ct165 Ty.ek165 Ty.zv165 Ty.by165 Ty.so165 Ty.tk167 Ty.ct167 Ty.ek167 Ty.zv167 Ty.by167 Ty.so167 Ty.k22_e Ty.k35_e Ty.k64_e Ty.k66_e Ty.k71_e Ty.k74_e Ty.k87_e Ty.k89_e Ty.k165_e Ty.k167_e E.dw119_1 E.kl119_1 E.nc119_1 E.dw119_7 E.kl119_7 E.nc119_7 E.mk119_0 E.mk119_1000001 E.mk119_1000002 E.mk119_1000000 E.fz119_0 E.fi119_0 E.lb119_0 lk_query_grade_33 lk_query_grade_188 lk_query_grade_189 lk_query_grade_190 s_query_Near_run s_query_between_Tick_run s_query_between_Quanta_run s_query_point_run loopN loops Try.f119
def Q0_p_query_grade_l0 (a1_0 : List ((Int × Int × Int × Unit) × Int × Unit)) (a0_0 : Int) (a0_1_0_0 : Int) (a0_1_0_1 : Int) (a0_1_0_2 : Bool) (a0_1_1_0 : Int) (a0_1_1_1 : Int) (a0_1_1_2 : Bool) (a0_1_2_0 : Int) (a0_1_2_1 : Int) (a0_1_2_2 : Bool) (a0_2_0 : Int) (a0_2_1 : Int) (a0_2_2 : Bool) (a0_3_0 : Int) (a0_3_1 : Int) (a0_3_2 : Bool) (a0_4 : List Int) (a0_5 : Int) (u : Int) (z : Out) : Prop := ∃ env st, z = some (.exit 0, env, st) ∧ env = sp 46 0 [(5, .d (.int .i64 u))]
abbrev Q_p_query_grade_l0 (a1_0 : List ((Int × Int × Int × Unit) × Int × Unit)) (a0_0 : Int) (a0_1_0_0 : Int) (a0_1_0_1 : Int) (a0_1_0_2 : Bool) (a0_1_1_0 : Int) (a0_1_1_1 : Int) (a0_1_1_2 : Bool) (a0_1_2_0 : Int) (a0_1_2_1 : Int) (a0_1_2_2 : Bool) (a0_2_0 : Int) (a0_2_1 : Int) (a0_2_2 : Bool) (a0_3_0 : Int) (a0_3_1 : Int) (a0_3_2 : Bool) (a0_4 : List Int) (a0_5 : Int) (o : Int) (z : Out) : Prop := Q0_p_query_grade_l0 a1_0 a0_0 a0_1_0_0 a0_1_0_1 a0_1_0_2 a0_1_1_0 a0_1_1_1 a0_1_1_2 a0_1_2_0 a0_1_2_1 a0_1_2_2 a0_2_0 a0_2_1 a0_2_2 a0_3_0 a0_3_1 a0_3_2 a0_4 a0_5 o z
theorem l_p_query_grade_l0 (L : Nat) (hL : L ≤ 4611686018427387904) (a1_0 : List ((Int × Int × Int × Unit) × Int × Unit)) (a0_0 : Int) (a0_1_0_0 : Int) (a0_1_0_1 : Int) (a0_1_0_2 : Bool) (a0_1_1_0 : Int) (a0_1_1_1 : Int) (a0_1_1_2 : Bool) (a0_1_2_0 : Int) (a0_1_2_1 : Int) (a0_1_2_2 : Bool) (a0_2_0 : Int) (a0_2_1 : Int) (a0_2_2 : Bool) (a0_3_0 : Int) (a0_3_1 : Int) (a0_3_2 : Bool) (a0_4 : List Int) (a0_5 : Int) : ∀ (tl : List ((Int × Int × Int × Unit) × Int × Unit)) (n : Nat) (s5 : Int) (s8 : Int) (env : List V) (st : Store) (o : Int), tl.length < n → Rng a1_0 s5 tl → mask (maskOf en119.ms 0) env = sp 46 0 [(2, .p (0, 2) (st (0, 2)).ver 0 []), (5, .d (.int .i64 s8)), (28, .d (.sl 167 (a1_0.map k167.e))), (29, .d (.int .i64 (a1_0.length : Int))), (30, .d (.int .i64 s5))] → Bk (st (0, 2)) 89 [.d (.agg 89 [.int .i64 a0_0, .agg 66 [.agg 64 [.int .i64 a0_1_0_0, .int .i64 a0_1_0_1, .bool a0_1_0_2], .agg 64 [.int .i64 a0_1_1_0, .int .i64 a0_1_1_1, .bool a0_1_1_2], .agg 64 [.int .i64 a0_1_2_0, .int .i64 a0_1_2_1, .bool a0_1_2_2]], .agg 35 [.int .i64 a0_2_0, .int .i64 a0_2_1, .bool a0_2_2], .agg 87 [.int .i64 a0_3_0, .int .i64 a0_3_1, .bool a0_3_2], .sl 3 (a0_4.map (D.int .i64)), .int .i64 a0_5])] → p_query_grade_l0 L a0_1_0_0 a0_1_0_1 a0_1_0_2 a0_1_1_0 a0_1_1_1 a0_1_1_2 a0_1_2_0 a0_1_2_1 a0_1_2_2 tl s8 = some o →
    Q_p_query_grade_l0 a1_0 a0_0 a0_1_0_0 a0_1_0_1 a0_1_0_2 a0_1_1_0 a0_1_1_1 a0_1_1_2 a0_1_2_0 a0_1_2_1 a0_1_2_2 a0_2_0 a0_2_1 a0_2_2 a0_3_0 a0_3_1 a0_3_2 a0_4 a0_5 o (iter (evC Try.prog (G_query_grade L) (evF Try.prog (G_query_grade L) T_query_grade L 0) L en119.ms 0 0 lb119_0) (maskOf en119.ms 0) n env st) := by
  intro tl
  induction tl with
  | nil =>
    intro n s5 s8 env st o hn hR he hb0 h
    obtain ⟨n, rfl⟩ : ∃ m, n = m + 1 := ⟨n - 1, by omega⟩
    obtain ⟨be0, bv0, bl0⟩ := hb0
    generalize hQ : Q_p_query_grade_l0 a1_0 a0_0 a0_1_0_0 a0_1_0_1 a0_1_0_2 a0_1_1_0 a0_1_1_1 a0_1_1_2 a0_1_2_0 a0_1_2_1 a0_1_2_2 a0_2_0 a0_2_1 a0_2_2 a0_3_0 a0_3_1 a0_3_2 a0_4 a0_5 = Q
    have g0 := rng_nil hR
    rw [iter, he]
    clear he
    generalize hK : iter _ _ n = K
    rw [p_query_grade_l0] at h
    revert h
    rintro ⟨⟩
    simp only [go_sem, *]
    subst hQ
    refine (⟨_, _, rfl, ?_⟩ : Q0_p_query_grade_l0 _ _ _ _ _ _ _ _ _ _ _ _ _ _ _ _ _ _ _ _ _)
    all_goals simp only [go_sem, *]
  | cons x3 tl ih =>
    intro n s5 s8 env st o hn hR he hb0 h
    obtain ⟨n, rfl⟩ : ∃ m, n = m + 1 := ⟨n - 1, by omega⟩
    obtain ⟨be0, bv0, bl0⟩ := hb0
    generalize hQ : Q_p_query_grade_l0 a1_0 a0_0 a0_1_0_0 a0_1_0_1 a0_1_0_2 a0_1_1_0 a0_1_1_1 a0_1_1_2 a0_1_2_0 a0_1_2_1 a0_1_2_2 a0_2_0 a0_2_1 a0_2_2 a0_3_0 a0_3_1 a0_3_2 a0_4 a0_5 = Q at ih ⊢
    replace ih : Hold _ := ih
    replace hR := rng_s hR
    obtain ⟨g0, g1, g2, g3, hR⟩ := hR
    rw [iter, he]
    clear he
    generalize hK : iter _ _ n = K
    rw [p_query_grade_l0] at h
    revert h
    refine bnd_i fun r11 c1 => ?_
    refine bnd_i fun r12 c2 => ?_
    intro h
    simp only [go_sem, *]
    subst hK
    refine ih n (s5 + 1) (minI s8 r12) _ _ _ (by simp only [List.length_cons] at hn; omega) hR ?_ ?_ h
    all_goals simp only [go_sem, *]
theorem e_query_grade (L : Nat) (hL : L ≤ 4611686018427387904) (a0_0 : Int) (a0_1_0_0 : Int) (a0_1_0_1 : Int) (a0_1_0_2 : Bool) (a0_1_1_0 : Int) (a0_1_1_1 : Int) (a0_1_1_2 : Bool) (a0_1_2_0 : Int) (a0_1_2_1 : Int) (a0_1_2_2 : Bool) (a0_2_0 : Int) (a0_2_1 : Int) (a0_2_2 : Bool) (a0_3_0 : Int) (a0_3_1 : Int) (a0_3_2 : Bool) (a0_4 : List Int) (a0_5 : Int) (a1_0 : List ((Int × Int × Int × Unit) × Int × Unit)) (a1_1 : Int) (a1_2 : Int) (a1_3 : Int) (a1_4 : Int) (res : Int) (h : p_query_grade L a0_0 a0_1_0_0 a0_1_0_1 a0_1_0_2 a0_1_1_0 a0_1_1_1 a0_1_1_2 a0_1_2_0 a0_1_2_1 a0_1_2_2 a0_2_0 a0_2_1 a0_2_2 a0_3_0 a0_3_1 a0_3_2 a0_4 a0_5 a1_0 a1_1 a1_2 a1_3 a1_4 = some res) : evTop Try.prog (G_query_grade L) T_query_grade L 1 119 [.agg 89 [.int .i64 a0_0, .agg 66 [.agg 64 [.int .i64 a0_1_0_0, .int .i64 a0_1_0_1, .bool a0_1_0_2], .agg 64 [.int .i64 a0_1_1_0, .int .i64 a0_1_1_1, .bool a0_1_1_2], .agg 64 [.int .i64 a0_1_2_0, .int .i64 a0_1_2_1, .bool a0_1_2_2]], .agg 35 [.int .i64 a0_2_0, .int .i64 a0_2_1, .bool a0_2_2], .agg 87 [.int .i64 a0_3_0, .int .i64 a0_3_1, .bool a0_3_2], .sl 3 (a0_4.map (D.int .i64)), .int .i64 a0_5], .agg 74 [.sl 167 (a1_0.map k167.e), .int .i64 a1_1, .int .i64 a1_2, .int .i64 a1_3, .int .i64 a1_4]] = some [.int .i64 res] := by
  revert h
  unfold p_query_grade evTop
  simp only [List.map]
  rw [evF_s (fn := Try.f119) (msk := en119.ms) (hT := by rfl) (hb := by rfl)]
  refine bnd_i fun r1 c1 => ?_
  refine bnd_i fun r2 c2 => ?_
  refine cb_i (fun c3 => ?_) (fun c3 => ?_)
  · refine rq_i fun c4 => ?_
    refine bnd_i fun o13 ho5 => ?_
    intro h
    simp only [go_sem, *]
    generalize hz7 : iter _ _ _ _ _ = z6
    have hq8 : Q_p_query_grade_l0 a1_0 a0_0 a0_1_0_0 a0_1_0_1 a0_1_0_2 a0_1_1_0 a0_1_1_1 a0_1_1_2 a0_1_2_0 a0_1_2_1 a0_1_2_2 a0_2_0 a0_2_1 a0_2_2 a0_3_0 a0_3_1 a0_3_2 a0_4 a0_5 o13 z6 := by
      rw [← hz7]
      refine l_p_query_grade_l0 L hL a1_0 a0_0 a0_1_0_0 a0_1_0_1 a0_1_0_2 a0_1_1_0 a0_1_1_1 a0_1_1_2 a0_1_2_0 a0_1_2_1 a0_1_2_2 a0_2_0 a0_2_1 a0_2_2 a0_3_0 a0_3_1 a0_3_2 a0_4 a0_5 a1_0 L 0 (minI r1 r2) _ _ _ c4 (rng_0 c4 hL) ?_ ?_ ho5
      all_goals simp only [go_sem, *]
    clear hz7 ho5
    obtain ⟨_, st14, rfl, rfl⟩ := hq8
    revert h
    rintro ⟨⟩
    simp only [go_sem, *]
  · refine rq_i fun c9 => ?_
    refine bnd_i fun o24 ho10 => ?_
    intro h
    simp only [go_sem, *]
    generalize hz12 : iter _ _ _ _ _ = z11
    have hq13 : Q_p_query_grade_l0 a1_0 a0_0 a0_1_0_0 a0_1_0_1 a0_1_0_2 a0_1_1_0 a0_1_1_1 a0_1_1_2 a0_1_2_0 a0_1_2_1 a0_1_2_2 a0_2_0 a0_2_1 a0_2_2 a0_3_0 a0_3_1 a0_3_2 a0_4 a0_5 o24 z11 := by
      rw [← hz12]
      refine l_p_query_grade_l0 L hL a1_0 a0_0 a0_1_0_0 a0_1_0_1 a0_1_0_2 a0_1_1_0 a0_1_1_1 a0_1_1_2 a0_1_2_0 a0_1_2_1 a0_1_2_2 a0_2_0 a0_2_1 a0_2_2 a0_3_0 a0_3_1 a0_3_2 a0_4 a0_5 a1_0 L 0 0 _ _ _ c9 (rng_0 c9 hL) ?_ ?_ ho10
      all_goals simp only [go_sem, *]
    clear hz12 ho10
    obtain ⟨_, st25, rfl, rfl⟩ := hq13
    revert h
    rintro ⟨⟩
    simp only [go_sem, *]
noncomputable def s_query_grade (L : Nat) : Ev.Spec := specP (cCons k89 (cCons k74 cNil)) (fun x => p_query_grade L x.1.1 x.1.2.1.1.1 x.1.2.1.1.2.1 x.1.2.1.1.2.2.1 x.1.2.1.2.1.1 x.1.2.1.2.1.2.1 x.1.2.1.2.1.2.2.1 x.1.2.1.2.2.1.1 x.1.2.1.2.2.1.2.1 x.1.2.1.2.2.1.2.2.1 x.1.2.2.1.1 x.1.2.2.1.2.1 x.1.2.2.1.2.2.1 x.1.2.2.2.1.1 x.1.2.2.2.1.2.1 x.1.2.2.2.1.2.2.1 x.1.2.2.2.2.1 x.1.2.2.2.2.2.1 x.2.1.1 x.2.1.2.1 x.2.1.2.2.1 x.2.1.2.2.2.1 x.2.1.2.2.2.2.1) (fun r => [.int .i64 r])
theorem s_query_grade_run (L : Nat) (a0_0 : Int) (a0_1_0_0 : Int) (a0_1_0_1 : Int) (a0_1_0_2 : Bool) (a0_1_1_0 : Int) (a0_1_1_1 : Int) (a0_1_1_2 : Bool) (a0_1_2_0 : Int) (a0_1_2_1 : Int) (a0_1_2_2 : Bool) (a0_2_0 : Int) (a0_2_1 : Int) (a0_2_2 : Bool) (a0_3_0 : Int) (a0_3_1 : Int) (a0_3_2 : Bool) (a0_4 : List Int) (a0_5 : Int) (a1_0 : List ((Int × Int × Int × Unit) × Int × Unit)) (a1_1 : Int) (a1_2 : Int) (a1_3 : Int) (a1_4 : Int) : (s_query_grade L).run [.agg 89 [.int .i64 a0_0, .agg 66 [.agg 64 [.int .i64 a0_1_0_0, .int .i64 a0_1_0_1, .bool a0_1_0_2], .agg 64 [.int .i64 a0_1_1_0, .int .i64 a0_1_1_1, .bool a0_1_1_2], .agg 64 [.int .i64 a0_1_2_0, .int .i64 a0_1_2_1, .bool a0_1_2_2]], .agg 35 [.int .i64 a0_2_0, .int .i64 a0_2_1, .bool a0_2_2], .agg 87 [.int .i64 a0_3_0, .int .i64 a0_3_1, .bool a0_3_2], .sl 3 (a0_4.map (D.int .i64)), .int .i64 a0_5], .agg 74 [.sl 167 (a1_0.map k167.e), .int .i64 a1_1, .int .i64 a1_2, .int .i64 a1_3, .int .i64 a1_4]] = (p_query_grade L a0_0 a0_1_0_0 a0_1_0_1 a0_1_0_2 a0_1_1_0 a0_1_1_1 a0_1_1_2 a0_1_2_0 a0_1_2_1 a0_1_2_2 a0_2_0 a0_2_1 a0_2_2 a0_3_0 a0_3_1 a0_3_2 a0_4 a0_5 a1_0 a1_1 a1_2 a1_3 a1_4).map fun r => [.int .i64 r] := specP_run (cCons k89 (cCons k74 cNil)) (fun x => p_query_grade L x.1.1 x.1.2.1.1.1 x.1.2.1.1.2.1 x.1.2.1.1.2.2.1 x.1.2.1.2.1.1 x.1.2.1.2.1.2.1 x.1.2.1.2.1.2.2.1 x.1.2.1.2.2.1.1 x.1.2.1.2.2.1.2.1 x.1.2.1.2.2.1.2.2.1 x.1.2.2.1.1 x.1.2.2.1.2.1 x.1.2.2.1.2.2.1 x.1.2.2.2.1.1 x.1.2.2.2.1.2.1 x.1.2.2.2.1.2.2.1 x.1.2.2.2.2.1 x.1.2.2.2.2.2.1 x.2.1.1 x.2.1.2.1 x.2.1.2.2.1 x.2.1.2.2.2.1 x.2.1.2.2.2.2.1) (fun r => [.int .i64 r]) ((a0_0, ((a0_1_0_0, a0_1_0_1, a0_1_0_2, ()), (a0_1_1_0, a0_1_1_1, a0_1_1_2, ()), (a0_1_2_0, a0_1_2_1, a0_1_2_2, ()), ()), (a0_2_0, a0_2_1, a0_2_2, ()), (a0_3_0, a0_3_1, a0_3_2, ()), a0_4, a0_5, ()), (a1_0, a1_1, a1_2, a1_3, a1_4, ()), ())
theorem ok_query_grade (L : Nat) (hL : L ≤ 4611686018427387904) : SpecOk Try.prog 119 (s_query_grade L) := specP_ok mixed (Go_query_grade L hL) (To_query_grade L) fun x r h => ⟨L, 1, e_query_grade L hL x.1.1 x.1.2.1.1.1 x.1.2.1.1.2.1 x.1.2.1.1.2.2.1 x.1.2.1.2.1.1 x.1.2.1.2.1.2.1 x.1.2.1.2.1.2.2.1 x.1.2.1.2.2.1.1 x.1.2.1.2.2.1.2.1 x.1.2.1.2.2.1.2.2.1 x.1.2.2.1.1 x.1.2.2.1.2.1 x.1.2.2.1.2.2.1 x.1.2.2.2.1.1 x.1.2.2.2.1.2.1 x.1.2.2.2.1.2.2.1 x.1.2.2.2.2.1 x.1.2.2.2.2.2.1 x.2.1.1 x.2.1.2.1 x.2.1.2.2.1 x.2.1.2.2.2.1 x.2.1.2.2.2.2.1 r h⟩
end Go.Proofs.Ytnojehmbiceceaa.P
end
section
set_option linter.unusedVariables false
set_option linter.unusedSimpArgs false
set_option maxRecDepth 100000
namespace Go.Proofs.Ytnojehmbiceceaa.P
open Go.Ev Go.IntKind Go.Proofs.Ytnojehmbiceceaa Go.Proofs.Ytnojehmbiceceaa.Ty Go.Proofs.Ytnojehmbiceceaa.E
def p_sphere_Check (L : Nat) (a0_0 : Int) (a0_1 : Int) (a0_2 : Int) : Option Int := if (maxI (maxI a0_0 a0_1) a0_2) > 1048576 then (some 4) else (if (minI (minI a0_0 a0_1) a0_2) < (-1048576) then (some 4) else (cb ((decide (a0_0 = 0)) && ((decide (a0_1 = 0)) && (decide (a0_2 = 0)))) (some 8) (some 0)))
noncomputable def G_sphere_Check (L : Nat) : Specs := []
noncomputable def T_sphere_Check : Table := tableOf [(121, en121)]
theorem Go_sphere_Check (L : Nat) (hL : L ≤ 4611686018427387904) : ∀ g s, Ev.look (G_sphere_Check L) g = some s → SpecOk Try.prog g s := specs_nil
theorem To_sphere_Check (L : Nat) : TableOk Try.prog ((G_sphere_Check L).map (·.1)) T_sphere_Check := (table_cons Try.func121 (by kernel_rfl) (by kernel_rfl) table_nil)
attribute [local go_sem] Ty.tk2 Ty.ik2 Ty.ek2 Ty.zv2 Ty.by2 Ty.so2 Ty.tk4 Ty.ub4 Ty.ek4 Ty.zv4 Ty.by4 Ty.so4 Ty.tk27 Ty.ik27 Ty.ek27 Ty.zv27 Ty.by27 Ty.so27 Ty.tk165 Ty.ct165 Ty.ek165 Ty.zv165 Ty.by165 Ty.so165 Ty.k165_e E.mk121_1000001 E.mk121_1000000 loopN loops Try.f121
theorem e_sphere_Check (L : Nat) (hL : L ≤ 4611686018427387904) (a0_0 : Int) (a0_1 : Int) (a0_2 : Int) (res : Int) (h : p_sphere_Check L a0_0 a0_1 a0_2 = some res) : evTop Try.prog (G_sphere_Check L) T_sphere_Check L 1 121 [.agg 165 [.int .i64 a0_0, .int .i64 a0_1, .int .i64 a0_2]] = some [.int .i64 res] := by
  revert h
  unfold p_sphere_Check evTop
  simp only [List.map]
  rw [evF_s (fn := Try.f121) (msk := en121.ms) (hT := by rfl) (hb := by rfl)]
  refine ite_i (fun c1 => ?_) (fun c1 => ?_)
  · rintro ⟨⟩
    simp only [go_sem, *]
  · refine ite_i (fun c2 => ?_) (fun c2 => ?_)
    · rintro ⟨⟩
      simp only [go_sem, *]
    · refine cb_i (fun c3 => ?_) (fun c3 => ?_)
      · rintro ⟨⟩
        simp only [go_sem, *]
      · rintro ⟨⟩
        simp only [go_sem, *]
noncomputable def s_sphere_Check (L : Nat) : Ev.Spec := specP (cCons k165 cNil) (fun x => p_sphere_Check L x.1.1 x.1.2.1 x.1.2.2.1) (fun r => [.int .i64 r])
theorem s_sphere_Check_run (L : Nat) (a0_0 : Int) (a0_1 : Int) (a0_2 : Int) : (s_sphere_Check L).run [.agg 165 [.int .i64 a0_0, .int .i64 a0_1, .int .i64 a0_2]] = (p_sphere_Check L a0_0 a0_1 a0_2).map fun r => [.int .i64 r] := specP_run (cCons k165 cNil) (fun x => p_sphere_Check L x.1.1 x.1.2.1 x.1.2.2.1) (fun r => [.int .i64 r]) ((a0_0, a0_1, a0_2, ()), ())
theorem ok_sphere_Check (L : Nat) (hL : L ≤ 4611686018427387904) : SpecOk Try.prog 121 (s_sphere_Check L) := specP_ok mixed (Go_sphere_Check L hL) (To_sphere_Check L) fun x r h => ⟨L, 1, e_sphere_Check L hL x.1.1 x.1.2.1 x.1.2.2.1 r h⟩
end Go.Proofs.Ytnojehmbiceceaa.P
end
section
set_option linter.unusedVariables false
set_option linter.unusedSimpArgs false
set_option maxRecDepth 100000
namespace Go.Proofs.Ytnojehmbiceceaa.P
open Go.Ev Go.IntKind Go.Proofs.Ytnojehmbiceceaa Go.Proofs.Ytnojehmbiceceaa.Ty Go.Proofs.Ytnojehmbiceceaa.E
def p_query_CheckAsk_l0 (L : Nat)  : List ((Int × Int × Int × Unit) × Int × Unit) → Option (Sum Unit Int)
  | [] => some (.inl ())
  | x1 :: tl => bnd (p_sphere_Check L x1.1.1 x1.1.2.1 x1.1.2.2.1) fun r4 => cb (decide (r4 = 0)) (if x1.2.1 < 0 then (some (.inr 4)) else (if x1.2.1 > 1073741824 then (some (.inr 4)) else (p_query_CheckAsk_l0 L  tl))) (some (.inr r4))
def p_query_CheckAsk (L : Nat) (a0_0 : List ((Int × Int × Int × Unit) × Int × Unit)) (a0_1 : Int) (a0_2 : Int) (a0_3 : Int) (a0_4 : Int) : Option Int := if (a0_0.length : Int) > 4 then (some 2) else (rq (a0_0.length < L) <| bnd (p_query_CheckAsk_l0 L a0_0) fun o5 => match o5 with | (.inl o5_0) => (if (minI a0_1 a0_2) < (-17592186044416) then (some 4) else (if (maxI a0_1 a0_2) > 17592186044416 then (some 4) else (if a0_1 > a0_2 then (some 11) else (if a0_3 < 0 then (some 4) else (if a0_3 > 1125899906842624 then (some 4) else (if a0_4 < 0 then (some 4) else (if a0_4 > 3 then (some 4) else (some 0)))))))) | (.inr o5_1) => (some o5_1))
noncomputable def G_query_CheckAsk (L : Nat) : Specs := [(121, s_sphere_Check L)]
noncomputable def T_query_CheckAsk : Table := tableOf [(37, en37)]
theorem Go_query_CheckAsk (L : Nat) (hL : L ≤ 4611686018427387904) : ∀ g s, Ev.look (G_query_CheckAsk L) g = some s → SpecOk Try.prog g s := (specs_cons (ok_sphere_Check L hL) specs_nil)
theorem To_query_CheckAsk (L : Nat) : TableOk Try.prog ((G_query_CheckAsk L).map (·.1)) T_query_CheckAsk := (table_cons Try.func37 (by kernel_rfl) (by kernel_rfl) table_nil)
theorem lk_query_CheckAsk_121 (L : Nat) : Ev.look (G_query_CheckAsk L) 121 = some (s_sphere_Check L) := nr rfl
attribute [local go_sem] Ty.tk2 Ty.ik2 Ty.ek2 Ty.zv2 Ty.by2 Ty.so2 Ty.tk3 Ty.ik3 Ty.ek3 Ty.zv3 Ty.by3 Ty.so3 Ty.tk4 Ty.ub4 Ty.ek4 Ty.zv4 Ty.by4 Ty.so4 Ty.tk24 Ty.ik24 Ty.ek24 Ty.zv24 Ty.by24 Ty.so24 Ty.tk27 Ty.ik27 Ty.ek27 Ty.zv27 Ty.by27 Ty.so27 Ty.tk67 Ty.ik67 Ty.ek67 Ty.zv67 Ty.by67 Ty.so67 Ty.tk71 Ty.zv71 Ty.by71 Ty.so71 Ty.tk72 Ty.ik72 Ty.ek72 Ty.zv72 Ty.by72 Ty.so72 Ty.tk74 Ty.ct74 Ty.zv74 Ty.by74 Ty.so74 Ty.tk165 Ty.ct165 Ty.ek165 Ty.zv165 Ty.by165 Ty.so165 Ty.tk167 Ty.ct167 Ty.ek167 Ty.zv167 Ty.by167 Ty.so167 Ty.k71_e Ty.k74_e Ty.k165_e Ty.k167_e E.mk37_0 E.mk37_1000001 E.mk37_1000002 E.mk37_1000003 E.mk37_1000000 E.fz37_0 E.fi37_0 E.lb37_0 lk_query_CheckAsk_121 s_sphere_Check_run loopN loops Try.f37
def Q0_p_query_CheckAsk_l0 (a0_0 : List ((Int × Int × Int × Unit) × Int × Unit)) (a0_1 : Int) (a0_2 : Int) (a0_3 : Int) (a0_4 : Int) (u : Unit) (z : Out) : Prop := ∃ env st, z = some (.exit 0, env, st) ∧ env = sp 72 0 [(1, .p (0, 1) (st (0, 1)).ver 0 [])] ∧ Bk (st (0, 1)) 74 [.d (.agg 74 [.sl 167 (a0_0.map k167.e), .int .i64 a0_1, .int .i64 a0_2, .int .i64 a0_3, .int .i64 a0_4])]
def Q1_p_query_CheckAsk_l0 (a0_0 : List ((Int × Int × Int × Unit) × Int × Unit)) (a0_1 : Int) (a0_2 : Int) (a0_3 : Int) (a0_4 : Int) (u : Int) (z : Out) : Prop := ∃ env st, z = some (.ret, env, st) ∧ env = sp 72 0 [(2, .d (.int .i64 u))]
def Q_p_query_CheckAsk_l0 (a0_0 : List ((Int × Int × Int × Unit) × Int × Unit)) (a0_1 : Int) (a0_2 : Int) (a0_3 : Int) (a0_4 : Int) (o : Sum Unit Int) (z : Out) : Prop := match o with | (.inl u) => Q0_p_query_CheckAsk_l0 a0_0 a0_1 a0_2 a0_3 a0_4 u z | (.inr u) => Q1_p_query_CheckAsk_l0 a0_0 a0_1 a0_2 a0_3 a0_4 u z
theorem l_p_query_CheckAsk_l0 (L : Nat) (hL : L ≤ 4611686018427387904) (a0_0 : List ((Int × Int × Int × Unit) × Int × Unit)) (a0_1 : Int) (a0_2 : Int) (a0_3 : Int) (a0_4 : Int) : ∀ (tl : List ((Int × Int × Int × Unit) × Int × Unit)) (n : Nat) (s2 : Int) (env : List V) (st : Store) (o : Sum Unit Int), tl.length < n → Rng a0_0 s2 tl → mask (maskOf en37.ms 0) env = sp 72 0 [(1, .p (0, 1) (st (0, 1)).ver 0 []), (11, .d (.sl 167 (a0_0.map k167.e))), (12, .d (.int .i64 (a0_0.length : Int))), (13, .d (.int .i64 s2))] → Bk (st (0, 1)) 74 [.d (.agg 74 [.sl 167 (a0_0.map k167.e), .int .i64 a0_1, .int .i64 a0_2, .int .i64 a0_3, .int .i64 a0_4])] → p_query_CheckAsk_l0 L  tl  = some o →
    Q_p_query_CheckAsk_l0 a0_0 a0_1 a0_2 a0_3 a0_4 o (iter (evC Try.prog (G_query_CheckAsk L) (evF Try.prog (G_query_CheckAsk L) T_query_CheckAsk L 0) L en37.ms 0 0 lb37_0) (maskOf en37.ms 0) n env st) := by
  intro tl
  induction tl with
  | nil =>
    intro n s2  env st o hn hR he hb0 h
    obtain ⟨n, rfl⟩ : ∃ m, n = m + 1 := ⟨n - 1, by omega⟩
    obtain ⟨be0, bv0, bl0⟩ := hb0
    have g0 := rng_nil hR
    rw [iter, he]
    clear he
    generalize hK : iter _ _ n = K
    rw [p_query_CheckAsk_l0] at h
    revert h
    rintro ⟨⟩
    simp only [go_sem, *]
    refine (⟨_, _, rfl, ?_, ?_⟩ : Q0_p_query_CheckAsk_l0 _ _ _ _ _ _ _)
    all_goals simp only [go_sem, *]
  | cons x1 tl ih =>
    intro n s2  env st o hn hR he hb0 h
    obtain ⟨n, rfl⟩ : ∃ m, n = m + 1 := ⟨n - 1, by omega⟩
    obtain ⟨be0, bv0, bl0⟩ := hb0
    replace ih : Hold _ := ih
    replace hR := rng_s hR
    obtain ⟨g0, g1, g2, g3, hR⟩ := hR
    rw [iter, he]
    clear he
    generalize hK : iter _ _ n = K
    rw [p_query_CheckAsk_l0] at h
    revert h
    refine bnd_i fun r4 c1 => ?_
    refine cb_i (fun c2 => ?_) (fun c2 => ?_)
    · refine ite_i (fun c3 => ?_) (fun c3 => ?_)
      · rintro ⟨⟩
        simp only [go_sem, *]
        refine (⟨_, _, rfl, ?_⟩ : Q1_p_query_CheckAsk_l0 _ _ _ _ _ _ _)
        all_goals simp only [go_sem, *]
      · refine ite_i (fun c4 => ?_) (fun c4 => ?_)
        · rintro ⟨⟩
          simp only [go_sem, *]
          refine (⟨_, _, rfl, ?_⟩ : Q1_p_query_CheckAsk_l0 _ _ _ _ _ _ _)
          all_goals simp only [go_sem, *]
        · intro h
          simp only [go_sem, *]
          subst hK
          refine ih n (s2 + 1)  _ _ _ (by simp only [List.length_cons] at hn; omega) hR ?_ ?_ h
          all_goals simp only [go_sem, *]
    · rintro ⟨⟩
      simp only [go_sem, *]
      refine (⟨_, _, rfl, ?_⟩ : Q1_p_query_CheckAsk_l0 _ _ _ _ _ _ _)
      all_goals simp only [go_sem, *]
theorem e_query_CheckAsk (L : Nat) (hL : L ≤ 4611686018427387904) (a0_0 : List ((Int × Int × Int × Unit) × Int × Unit)) (a0_1 : Int) (a0_2 : Int) (a0_3 : Int) (a0_4 : Int) (res : Int) (h : p_query_CheckAsk L a0_0 a0_1 a0_2 a0_3 a0_4 = some res) : evTop Try.prog (G_query_CheckAsk L) T_query_CheckAsk L 1 37 [.agg 74 [.sl 167 (a0_0.map k167.e), .int .i64 a0_1, .int .i64 a0_2, .int .i64 a0_3, .int .i64 a0_4]] = some [.int .i64 res] := by
  revert h
  unfold p_query_CheckAsk evTop
  simp only [List.map]
  rw [evF_s (fn := Try.f37) (msk := en37.ms) (hT := by rfl) (hb := by rfl)]
  refine ite_i (fun c1 => ?_) (fun c1 => ?_)
  · rintro ⟨⟩
    simp only [go_sem, *]
  · refine rq_i fun c2 => ?_
    refine bnd_i fun o5 ho3 => ?_
    intro h
    simp only [go_sem, *]
    generalize hz5 : iter _ _ _ _ _ = z4
    have hq6 : Q_p_query_CheckAsk_l0 a0_0 a0_1 a0_2 a0_3 a0_4 o5 z4 := by
      rw [← hz5]
      refine l_p_query_CheckAsk_l0 L hL a0_0 a0_1 a0_2 a0_3 a0_4 a0_0 L 0  _ _ _ c2 (rng_0 c2 hL) ?_ ?_ ho3
      all_goals simp only [go_sem, *]
    clear hz5 ho3
    rcases o5 with o5_0 | o5_1
    · obtain ⟨_, st6, rfl, rfl, ⟨k71, k72, k73⟩⟩ := hq6
      dsimp only at h
      revert h
      refine ite_i (fun c8 => ?_) (fun c8 => ?_)
      · rintro ⟨⟩
        simp only [go_sem, *]
      · refine ite_i (fun c9 => ?_) (fun c9 => ?_)
        · rintro ⟨⟩
          simp only [go_sem, *]
        · refine ite_i (fun c10 => ?_) (fun c10 => ?_)
          · rintro ⟨⟩
            simp only [go_sem, *]
          · refine ite_i (fun c11 => ?_) (fun c11 => ?_)
            · rintro ⟨⟩
              simp only [go_sem, *]
            · refine ite_i (fun c12 => ?_) (fun c12 => ?_)
              · rintro ⟨⟩
                simp only [go_sem, *]
              · refine ite_i (fun c13 => ?_) (fun c13 => ?_)
                · rintro ⟨⟩
                  simp only [go_sem, *]
                · refine ite_i (fun c14 => ?_) (fun c14 => ?_)
                  · rintro ⟨⟩
                    simp only [go_sem, *]
                  · rintro ⟨⟩
                    simp only [go_sem, *]
    · obtain ⟨_, st7, rfl, rfl⟩ := hq6
      dsimp only at h
      revert h
      rintro ⟨⟩
      simp only [go_sem, *]
noncomputable def s_query_CheckAsk (L : Nat) : Ev.Spec := specP (cCons k74 cNil) (fun x => p_query_CheckAsk L x.1.1 x.1.2.1 x.1.2.2.1 x.1.2.2.2.1 x.1.2.2.2.2.1) (fun r => [.int .i64 r])
theorem s_query_CheckAsk_run (L : Nat) (a0_0 : List ((Int × Int × Int × Unit) × Int × Unit)) (a0_1 : Int) (a0_2 : Int) (a0_3 : Int) (a0_4 : Int) : (s_query_CheckAsk L).run [.agg 74 [.sl 167 (a0_0.map k167.e), .int .i64 a0_1, .int .i64 a0_2, .int .i64 a0_3, .int .i64 a0_4]] = (p_query_CheckAsk L a0_0 a0_1 a0_2 a0_3 a0_4).map fun r => [.int .i64 r] := specP_run (cCons k74 cNil) (fun x => p_query_CheckAsk L x.1.1 x.1.2.1 x.1.2.2.1 x.1.2.2.2.1 x.1.2.2.2.2.1) (fun r => [.int .i64 r]) ((a0_0, a0_1, a0_2, a0_3, a0_4, ()), ())
theorem ok_query_CheckAsk (L : Nat) (hL : L ≤ 4611686018427387904) : SpecOk Try.prog 37 (s_query_CheckAsk L) := specP_ok mixed (Go_query_CheckAsk L hL) (To_query_CheckAsk L) fun x r h => ⟨L, 1, e_query_CheckAsk L hL x.1.1 x.1.2.1 x.1.2.2.1 x.1.2.2.2.1 x.1.2.2.2.2.1 r h⟩
end Go.Proofs.Ytnojehmbiceceaa.P
end
section
set_option linter.unusedVariables false
set_option linter.unusedSimpArgs false
set_option maxRecDepth 100000
namespace Go.Proofs.Ytnojehmbiceceaa.P
open Go.Ev Go.IntKind Go.Proofs.Ytnojehmbiceceaa Go.Proofs.Ytnojehmbiceceaa.Ty Go.Proofs.Ytnojehmbiceceaa.E
def p_bound_Check_Coord (L : Nat) (a0_0 : Int) (a0_1 : Int) (a0_2 : Bool) : Option Int := cb a0_2 (cb (decide (a0_0 = 0)) (cb (decide (a0_1 = 0)) (if (minI a0_0 a0_1) < (-1152921504606846976) then (some 4) else (if (maxI a0_0 a0_1) > 1152921504606846976 then (some 4) else (if a0_0 > a0_1 then (some 11) else (some 0)))) (some 3)) (some 3)) (if (minI a0_0 a0_1) < (-1152921504606846976) then (some 4) else (if (maxI a0_0 a0_1) > 1152921504606846976 then (some 4) else (if a0_0 > a0_1 then (some 11) else (some 0))))
noncomputable def G_bound_Check_Coord (L : Nat) : Specs := []
noncomputable def T_bound_Check_Coord : Table := tableOf [(193, en193)]
theorem Go_bound_Check_Coord (L : Nat) (hL : L ≤ 4611686018427387904) : ∀ g s, Ev.look (G_bound_Check_Coord L) g = some s → SpecOk Try.prog g s := specs_nil
theorem To_bound_Check_Coord (L : Nat) : TableOk Try.prog ((G_bound_Check_Coord L).map (·.1)) T_bound_Check_Coord := (table_cons Try.func193 (by kernel_rfl) (by kernel_rfl) table_nil)
attribute [local go_sem] Ty.tk4 Ty.ub4 Ty.ek4 Ty.zv4 Ty.by4 Ty.so4 Ty.tk27 Ty.ik27 Ty.ek27 Ty.zv27 Ty.by27 Ty.so27 Ty.tk62 Ty.ik62 Ty.ek62 Ty.zv62 Ty.by62 Ty.so62 Ty.tk64 Ty.ct64 Ty.ek64 Ty.zv64 Ty.by64 Ty.so64 Ty.k64_e E.mk193_1000001 E.mk193_1000000 loopN loops Try.f193
theorem e_bound_Check_Coord (L : Nat) (hL : L ≤ 4611686018427387904) (a0_0 : Int) (a0_1 : Int) (a0_2 : Bool) (res : Int) (h : p_bound_Check_Coord L a0_0 a0_1 a0_2 = some res) : evTop Try.prog (G_bound_Check_Coord L) T_bound_Check_Coord L 1 193 [.agg 64 [.int .i64 a0_0, .int .i64 a0_1, .bool a0_2]] = some [.int .i64 res] := by
  revert h
  unfold p_bound_Check_Coord evTop
  simp only [List.map]
  rw [evF_s (fn := Try.f193) (msk := en193.ms) (hT := by rfl) (hb := by rfl)]
  refine cb_i (fun c1 => ?_) (fun c1 => ?_)
  · refine cb_i (fun c2 => ?_) (fun c2 => ?_)
    · refine cb_i (fun c3 => ?_) (fun c3 => ?_)
      · refine ite_i (fun c4 => ?_) (fun c4 => ?_)
        · rintro ⟨⟩
          simp only [go_sem, *]
        · refine ite_i (fun c5 => ?_) (fun c5 => ?_)
          · rintro ⟨⟩
            simp only [go_sem, *]
          · refine ite_i (fun c6 => ?_) (fun c6 => ?_)
            · rintro ⟨⟩
              simp only [go_sem, *]
            · rintro ⟨⟩
              simp only [go_sem, *]
      · rintro ⟨⟩
        simp only [go_sem, *]
    · rintro ⟨⟩
      simp only [go_sem, *]
  · refine ite_i (fun c7 => ?_) (fun c7 => ?_)
    · rintro ⟨⟩
      simp only [go_sem, *]
    · refine ite_i (fun c8 => ?_) (fun c8 => ?_)
      · rintro ⟨⟩
        simp only [go_sem, *]
      · refine ite_i (fun c9 => ?_) (fun c9 => ?_)
        · rintro ⟨⟩
          simp only [go_sem, *]
        · rintro ⟨⟩
          simp only [go_sem, *]
noncomputable def s_bound_Check_Coord (L : Nat) : Ev.Spec := specP (cCons k64 cNil) (fun x => p_bound_Check_Coord L x.1.1 x.1.2.1 x.1.2.2.1) (fun r => [.int .i64 r])
theorem s_bound_Check_Coord_run (L : Nat) (a0_0 : Int) (a0_1 : Int) (a0_2 : Bool) : (s_bound_Check_Coord L).run [.agg 64 [.int .i64 a0_0, .int .i64 a0_1, .bool a0_2]] = (p_bound_Check_Coord L a0_0 a0_1 a0_2).map fun r => [.int .i64 r] := specP_run (cCons k64 cNil) (fun x => p_bound_Check_Coord L x.1.1 x.1.2.1 x.1.2.2.1) (fun r => [.int .i64 r]) ((a0_0, a0_1, a0_2, ()), ())
theorem ok_bound_Check_Coord (L : Nat) (hL : L ≤ 4611686018427387904) : SpecOk Try.prog 193 (s_bound_Check_Coord L) := specP_ok mixed (Go_bound_Check_Coord L hL) (To_bound_Check_Coord L) fun x r h => ⟨L, 1, e_bound_Check_Coord L hL x.1.1 x.1.2.1 x.1.2.2.1 r h⟩
end Go.Proofs.Ytnojehmbiceceaa.P
end
section
set_option linter.unusedVariables false
set_option linter.unusedSimpArgs false
set_option maxRecDepth 100000
namespace Go.Proofs.Ytnojehmbiceceaa.P
open Go.Ev Go.IntKind Go.Proofs.Ytnojehmbiceceaa Go.Proofs.Ytnojehmbiceceaa.Ty Go.Proofs.Ytnojehmbiceceaa.E
def p_catalog_ends_Coord (L : Nat) (a0_0 : Int) (a0_1 : Int) (a0_2 : Bool) (a1 : Int) : Option Int := bnd (p_bound_Check_Coord L a0_0 a0_1 a0_2) fun r1 => cb (decide (r1 = 0)) (if a0_0 < (i64.wrap (0 - a1)) then (some 4) else (if a0_1 > a1 then (some 4) else (some 0))) (some r1)
noncomputable def G_catalog_ends_Coord (L : Nat) : Specs := [(193, s_bound_Check_Coord L)]
noncomputable def T_catalog_ends_Coord : Table := tableOf [(125, en125)]
theorem Go_catalog_ends_Coord (L : Nat) (hL : L ≤ 4611686018427387904) : ∀ g s, Ev.look (G_catalog_ends_Coord L) g = some s → SpecOk Try.prog g s := (specs_cons (ok_bound_Check_Coord L hL) specs_nil)
theorem To_catalog_ends_Coord (L : Nat) : TableOk Try.prog ((G_catalog_ends_Coord L).map (·.1)) T_catalog_ends_Coord := (table_cons Try.func125 (by kernel_rfl) (by kernel_rfl) table_nil)
theorem lk_catalog_ends_Coord_193 (L : Nat) : Ev.look (G_catalog_ends_Coord L) 193 = some (s_bound_Check_Coord L) := nr rfl
attribute [local go_sem] Ty.tk4 Ty.ub4 Ty.ek4 Ty.zv4 Ty.by4 Ty.so4 Ty.tk27 Ty.ik27 Ty.ek27 Ty.zv27 Ty.by27 Ty.so27 Ty.tk62 Ty.ik62 Ty.ek62 Ty.zv62 Ty.by62 Ty.so62 Ty.tk64 Ty.ct64 Ty.ek64 Ty.zv64 Ty.by64 Ty.so64 Ty.k64_e E.mk125_1000000 lk_catalog_ends_Coord_193 s_bound_Check_Coord_run loopN loops Try.f125
theorem e_catalog_ends_Coord (L : Nat) (hL : L ≤ 4611686018427387904) (a0_0 : Int) (a0_1 : Int) (a0_2 : Bool) (a1 : Int) (res : Int) (h : p_catalog_ends_Coord L a0_0 a0_1 a0_2 a1 = some res) : evTop Try.prog (G_catalog_ends_Coord L) T_catalog_ends_Coord L 1 125 [.agg 64 [.int .i64 a0_0, .int .i64 a0_1, .bool a0_2], .int .i64 a1] = some [.int .i64 res] := by
  revert h
  unfold p_catalog_ends_Coord evTop
  simp only [List.map]
  rw [evF_s (fn := Try.f125) (msk := en125.ms) (hT := by rfl) (hb := by rfl)]
  refine bnd_i fun r1 c1 => ?_
  refine cb_i (fun c2 => ?_) (fun c2 => ?_)
  · refine ite_i (fun c3 => ?_) (fun c3 => ?_)
    · rintro ⟨⟩
      simp only [go_sem, *]
    · refine ite_i (fun c4 => ?_) (fun c4 => ?_)
      · rintro ⟨⟩
        simp only [go_sem, *]
      · rintro ⟨⟩
        simp only [go_sem, *]
  · rintro ⟨⟩
    simp only [go_sem, *]
noncomputable def s_catalog_ends_Coord (L : Nat) : Ev.Spec := specP (cCons k64 (cCons (cI .i64) cNil)) (fun x => p_catalog_ends_Coord L x.1.1 x.1.2.1 x.1.2.2.1 x.2.1) (fun r => [.int .i64 r])
theorem s_catalog_ends_Coord_run (L : Nat) (a0_0 : Int) (a0_1 : Int) (a0_2 : Bool) (a1 : Int) : (s_catalog_ends_Coord L).run [.agg 64 [.int .i64 a0_0, .int .i64 a0_1, .bool a0_2], .int .i64 a1] = (p_catalog_ends_Coord L a0_0 a0_1 a0_2 a1).map fun r => [.int .i64 r] := specP_run (cCons k64 (cCons (cI .i64) cNil)) (fun x => p_catalog_ends_Coord L x.1.1 x.1.2.1 x.1.2.2.1 x.2.1) (fun r => [.int .i64 r]) ((a0_0, a0_1, a0_2, ()), a1, ())
theorem ok_catalog_ends_Coord (L : Nat) (hL : L ≤ 4611686018427387904) : SpecOk Try.prog 125 (s_catalog_ends_Coord L) := specP_ok mixed (Go_catalog_ends_Coord L hL) (To_catalog_ends_Coord L) fun x r h => ⟨L, 1, e_catalog_ends_Coord L hL x.1.1 x.1.2.1 x.1.2.2.1 x.2.1 r h⟩
end Go.Proofs.Ytnojehmbiceceaa.P
end
section
set_option linter.unusedVariables false
set_option linter.unusedSimpArgs false
set_option maxRecDepth 100000
namespace Go.Proofs.Ytnojehmbiceceaa.P
open Go.Ev Go.IntKind Go.Proofs.Ytnojehmbiceceaa Go.Proofs.Ytnojehmbiceceaa.Ty Go.Proofs.Ytnojehmbiceceaa.E
def p_catalog_CheckRow_l0 (L : Nat) (a0_1_0_0 : Int) (a0_1_0_1 : Int) (a0_1_0_2 : Bool) (a0_1_1_0 : Int) (a0_1_1_1 : Int) (a0_1_1_2 : Bool) (a0_1_2_0 : Int) (a0_1_2_1 : Int) (a0_1_2_2 : Bool) : Nat → Int → Option (Sum Unit Int)
  | 0, s2 => some (.inl ())
  | tl + 1, s2 => cb (decide (s2 = 0)) (bnd (p_catalog_ends_Coord L a0_1_0_0 a0_1_0_1 a0_1_0_2 1073741824) fun r6 => cb (decide (r6 = 0)) (p_catalog_CheckRow_l0 L a0_1_0_0 a0_1_0_1 a0_1_0_2 a0_1_1_0 a0_1_1_1 a0_1_1_2 a0_1_2_0 a0_1_2_1 a0_1_2_2 tl (s2 + 1)) (some (.inr r6))) (cb (decide (s2 = 1)) (bnd (p_catalog_ends_Coord L a0_1_1_0 a0_1_1_1 a0_1_1_2 1073741824) fun r7 => cb (decide (r7 = 0)) (p_catalog_CheckRow_l0 L a0_1_0_0 a0_1_0_1 a0_1_0_2 a0_1_1_0 a0_1_1_1 a0_1_1_2 a0_1_2_0 a0_1_2_1 a0_1_2_2 tl (s2 + 1)) (some (.inr r7))) (cb (decide (s2 = 2)) (bnd (p_catalog_ends_Coord L a0_1_2_0 a0_1_2_1 a0_1_2_2 1073741824) fun r8 => cb (decide (r8 = 0)) (p_catalog_CheckRow_l0 L a0_1_0_0 a0_1_0_1 a0_1_0_2 a0_1_1_0 a0_1_1_1 a0_1_1_2 a0_1_2_0 a0_1_2_1 a0_1_2_2 tl (s2 + 1)) (some (.inr r8))) (none)))
def p_catalog_CheckRow_l1 (L : Nat) (a0_4 : List Int) : List Int → Int → Option (Sum Unit Int)
  | [], s15 => some (.inl ())
  | x14 :: tl, s15 => if x14 < 1 then (some (.inr 4)) else (if x14 > 1048576 then (some (.inr 4)) else (if s15 > 0 then (bnd (idx a0_4 (i64.wrap (s15 - 1))) fun x17 => if x14 ≤ x17 then (some (.inr 11)) else (p_catalog_CheckRow_l1 L a0_4 tl (s15 + 1))) else (p_catalog_CheckRow_l1 L a0_4 tl (s15 + 1))))
def p_catalog_CheckRow (L : Nat) (a0_0 : Int) (a0_1_0_0 : Int) (a0_1_0_1 : Int) (a0_1_0_2 : Bool) (a0_1_1_0 : Int) (a0_1_1_1 : Int) (a0_1_1_2 : Bool) (a0_1_2_0 : Int) (a0_1_2_1 : Int) (a0_1_2_2 : Bool) (a0_2_0 : Int) (a0_2_1 : Int) (a0_2_2 : Bool) (a0_3_0 : Int) (a0_3_1 : Int) (a0_3_2 : Bool) (a0_4 : List Int) (a0_5 : Int) : Option Int := if a0_0 < 1 then (some 4) else (if a0_0 > 2147483647 then (some 4) else (rq (3 < L) <| bnd (p_catalog_CheckRow_l0 L a0_1_0_0 a0_1_0_1 a0_1_0_2 a0_1_1_0 a0_1_1_1 a0_1_1_2 a0_1_2_0 a0_1_2_1 a0_1_2_2 3 0) fun o9 => match o9 with | (.inl o9_0) => (bnd (p_catalog_ends_Quanta L a0_2_0 a0_2_1 a0_2_2 1125899906842624) fun r11 => bnd (p_catalog_ends_Tick L a0_3_0 a0_3_1 a0_3_2 17592186044416) fun r12 => bnd (p_cmp_Or_Errno L ([r11, r12])) fun r13 => cb (decide (r13 = 0)) (cb (decide ((a0_4.length : Int) = 0)) (some 3) (if (a0_4.length : Int) > 8 then (some 2) else (rq (a0_4.length < L) <| bnd (p_catalog_CheckRow_l1 L a0_4 a0_4 0) fun o18 => match o18 with | (.inl o18_0) => (if a0_5 < 0 then (some 4) else (if a0_5 > 3 then (some 4) else (some 0))) | (.inr o18_1) => (some o18_1)))) (some r13)) | (.inr o9_1) => (some o9_1)))
noncomputable def G_catalog_CheckRow (L : Nat) : Specs := [(100, s_cmp_Or_Errno L), (125, s_catalog_ends_Coord L), (126, s_catalog_ends_Quanta L), (127, s_catalog_ends_Tick L)]
noncomputable def T_catalog_CheckRow : Table := tableOf [(45, en45)]
theorem Go_catalog_CheckRow (L : Nat) (hL : L ≤ 4611686018427387904) : ∀ g s, Ev.look (G_catalog_CheckRow L) g = some s → SpecOk Try.prog g s := (specs_cons (ok_cmp_Or_Errno L hL) (specs_cons (ok_catalog_ends_Coord L hL) (specs_cons (ok_catalog_ends_Quanta L hL) (specs_cons (ok_catalog_ends_Tick L hL) specs_nil))))
theorem To_catalog_CheckRow (L : Nat) : TableOk Try.prog ((G_catalog_CheckRow L).map (·.1)) T_catalog_CheckRow := (table_cons Try.func45 (by kernel_rfl) (by kernel_rfl) table_nil)
theorem lk_catalog_CheckRow_100 (L : Nat) : Ev.look (G_catalog_CheckRow L) 100 = some (s_cmp_Or_Errno L) := nr rfl
theorem lk_catalog_CheckRow_125 (L : Nat) : Ev.look (G_catalog_CheckRow L) 125 = some (s_catalog_ends_Coord L) := nr rfl
theorem lk_catalog_CheckRow_126 (L : Nat) : Ev.look (G_catalog_CheckRow L) 126 = some (s_catalog_ends_Quanta L) := nr rfl
theorem lk_catalog_CheckRow_127 (L : Nat) : Ev.look (G_catalog_CheckRow L) 127 = some (s_catalog_ends_Tick L) := nr rfl
attribute [local go_sem] Ty.tk3 Ty.ik3 Ty.ek3 Ty.zv3 Ty.by3 Ty.so3 Ty.tk4 Ty.ub4 Ty.ek4 Ty.zv4 Ty.by4 Ty.so4 Ty.tk22 Ty.zv22 Ty.by22 Ty.so22 Ty.tk24 Ty.ik24 Ty.ek24 Ty.zv24 Ty.by24 Ty.so24 Ty.tk27 Ty.ik27 Ty.ek27 Ty.zv27 Ty.by27 Ty.so27 Ty.tk35 Ty.ct35 Ty.ek35 Ty.zv35 Ty.by35 Ty.so35 Ty.tk62 Ty.ik62 Ty.ek62 Ty.zv62 Ty.by62 Ty.so62 Ty.tk64 Ty.ct64 Ty.ek64 Ty.zv64 Ty.by64 Ty.so64 Ty.tk66 Ty.ct66 Ty.ek66 Ty.zv66 Ty.by66 Ty.so66 Ty.tk72 Ty.ik72 Ty.ek72 Ty.zv72 Ty.by72 Ty.so72 Ty.tk87 Ty.ct87 Ty.ek87 Ty.zv87 Ty.by87 Ty.so87 Ty.tk89 Ty.ct89 Ty.zv89 Ty.by89 Ty.so89 Ty.tk168 Ty.ct168 Ty.zv168 Ty.by168 Ty.so168 Ty.tk195 Ty.zv195 Ty.by195 Ty.so195 Ty.k22_e Ty.k35_e Ty.k64_e Ty.k66_e Ty.k87_e Ty.k89_e Ty.k168_e Ty.k195_e E.dw45_10 E.kl45_10 E.nc45_10 E.mk45_0 E.mk45_3 E.mk45_1000001 E.mk45_1000002 E.mk45_1000003 E.mk45_1000004 E.mk45_1000005 E.mk45_1000006 E.mk45_1000000 E.fz45_0 E.fi45_0 E.fz45_3 E.fi45_3 E.lb45_0 E.lb45_3 lk_catalog_CheckRow_100 lk_catalog_CheckRow_125 lk_catalog_CheckRow_126 lk_catalog_CheckRow_127 s_cmp_Or_Errno_run s_catalog_ends_Coord_run s_catalog_ends_Quanta_run s_catalog_ends_Tick_run loopN loops Try.f45
def Q0_p_catalog_CheckRow_l0 (a0_1_0_0 : Int) (a0_1_0_1 : Int) (a0_1_0_2 : Bool) (a0_1_1_0 : Int) (a0_1_1_1 : Int) (a0_1_1_2 : Bool) (a0_1_2_0 : Int) (a0_1_2_1 : Int) (a0_1_2_2 : Bool) (a0_0 : Int) (a0_2_0 : Int) (a0_2_1 : Int) (a0_2_2 : Bool) (a0_3_0 : Int) (a0_3_1 : Int) (a0_3_2 : Bool) (a0_4 : List Int) (a0_5 : Int) (u : Unit) (z : Out) : Prop := ∃ env st, z = some (.exit 0, env, st) ∧ env = sp 94 0 [(1, .p (0, 1) (st (0, 1)).ver 0 [])] ∧ Bk (st (0, 1)) 89 [.d (.agg 89 [.int .i64 a0_0, .agg 66 [.agg 64 [.int .i64 a0_1_0_0, .int .i64 a0_1_0_1, .bool a0_1_0_2], .agg 64 [.int .i64 a0_1_1_0, .int .i64 a0_1_1_1, .bool a0_1_1_2], .agg 64 [.int .i64 a0_1_2_0, .int .i64 a0_1_2_1, .bool a0_1_2_2]], .agg 35 [.int .i64 a0_2_0, .int .i64 a0_2_1, .bool a0_2_2], .agg 87 [.int .i64 a0_3_0, .int .i64 a0_3_1, .bool a0_3_2], .sl 3 (a0_4.map (D.int .i64)), .int .i64 a0_5])]
def Q1_p_catalog_CheckRow_l0 (a0_1_0_0 : Int) (a0_1_0_1 : Int) (a0_1_0_2 : Bool) (a0_1_1_0 : Int) (a0_1_1_1 : Int) (a0_1_1_2 : Bool) (a0_1_2_0 : Int) (a0_1_2_1 : Int) (a0_1_2_2 : Bool) (a0_0 : Int) (a0_2_0 : Int) (a0_2_1 : Int) (a0_2_2 : Bool) (a0_3_0 : Int) (a0_3_1 : Int) (a0_3_2 : Bool) (a0_4 : List Int) (a0_5 : Int) (u : Int) (z : Out) : Prop := ∃ env st, z = some (.ret, env, st) ∧ env = sp 94 0 [(2, .d (.int .i64 u))]
def Q_p_catalog_CheckRow_l0 (a0_1_0_0 : Int) (a0_1_0_1 : Int) (a0_1_0_2 : Bool) (a0_1_1_0 : Int) (a0_1_1_1 : Int) (a0_1_1_2 : Bool) (a0_1_2_0 : Int) (a0_1_2_1 : Int) (a0_1_2_2 : Bool) (a0_0 : Int) (a0_2_0 : Int) (a0_2_1 : Int) (a0_2_2 : Bool) (a0_3_0 : Int) (a0_3_1 : Int) (a0_3_2 : Bool) (a0_4 : List Int) (a0_5 : Int) (o : Sum Unit Int) (z : Out) : Prop := match o with | (.inl u) => Q0_p_catalog_CheckRow_l0 a0_1_0_0 a0_1_0_1 a0_1_0_2 a0_1_1_0 a0_1_1_1 a0_1_1_2 a0_1_2_0 a0_1_2_1 a0_1_2_2 a0_0 a0_2_0 a0_2_1 a0_2_2 a0_3_0 a0_3_1 a0_3_2 a0_4 a0_5 u z | (.inr u) => Q1_p_catalog_CheckRow_l0 a0_1_0_0 a0_1_0_1 a0_1_0_2 a0_1_1_0 a0_1_1_1 a0_1_1_2 a0_1_2_0 a0_1_2_1 a0_1_2_2 a0_0 a0_2_0 a0_2_1 a0_2_2 a0_3_0 a0_3_1 a0_3_2 a0_4 a0_5 u z
theorem l_p_catalog_CheckRow_l0 (L : Nat) (hL : L ≤ 4611686018427387904) (a0_1_0_0 : Int) (a0_1_0_1 : Int) (a0_1_0_2 : Bool) (a0_1_1_0 : Int) (a0_1_1_1 : Int) (a0_1_1_2 : Bool) (a0_1_2_0 : Int) (a0_1_2_1 : Int) (a0_1_2_2 : Bool) (a0_0 : Int) (a0_2_0 : Int) (a0_2_1 : Int) (a0_2_2 : Bool) (a0_3_0 : Int) (a0_3_1 : Int) (a0_3_2 : Bool) (a0_4 : List Int) (a0_5 : Int) : ∀ (tl n : Nat) (s2 : Int) (env : List V) (st : Store) (o : Sum Unit Int), tl < n → Cnt 3 s2 tl → mask (maskOf en45.ms 0) env = sp 94 0 [(1, .p (0, 1) (st (0, 1)).ver 0 []), (26, .d (.agg 168 [.agg 64 [.int .i64 a0_1_0_0, .int .i64 a0_1_0_1, .bool a0_1_0_2], .agg 64 [.int .i64 a0_1_1_0, .int .i64 a0_1_1_1, .bool a0_1_1_2], .agg 64 [.int .i64 a0_1_2_0, .int .i64 a0_1_2_1, .bool a0_1_2_2]])), (27, .d (.int .i64 s2))] → Bk (st (0, 1)) 89 [.d (.agg 89 [.int .i64 a0_0, .agg 66 [.agg 64 [.int .i64 a0_1_0_0, .int .i64 a0_1_0_1, .bool a0_1_0_2], .agg 64 [.int .i64 a0_1_1_0, .int .i64 a0_1_1_1, .bool a0_1_1_2], .agg 64 [.int .i64 a0_1_2_0, .int .i64 a0_1_2_1, .bool a0_1_2_2]], .agg 35 [.int .i64 a0_2_0, .int .i64 a0_2_1, .bool a0_2_2], .agg 87 [.int .i64 a0_3_0, .int .i64 a0_3_1, .bool a0_3_2], .sl 3 (a0_4.map (D.int .i64)), .int .i64 a0_5])] → p_catalog_CheckRow_l0 L a0_1_0_0 a0_1_0_1 a0_1_0_2 a0_1_1_0 a0_1_1_1 a0_1_1_2 a0_1_2_0 a0_1_2_1 a0_1_2_2 tl s2  = some o →
    Q_p_catalog_CheckRow_l0 a0_1_0_0 a0_1_0_1 a0_1_0_2 a0_1_1_0 a0_1_1_1 a0_1_1_2 a0_1_2_0 a0_1_2_1 a0_1_2_2 a0_0 a0_2_0 a0_2_1 a0_2_2 a0_3_0 a0_3_1 a0_3_2 a0_4 a0_5 o (iter (evC Try.prog (G_catalog_CheckRow L) (evF Try.prog (G_catalog_CheckRow L) T_catalog_CheckRow L 0) L en45.ms 0 0 lb45_0) (maskOf en45.ms 0) n env st) := by
  intro tl
  induction tl with
  | zero =>
    intro n s2  env st o hn hR he hb0 h
    obtain ⟨n, rfl⟩ : ∃ m, n = m + 1 := ⟨n - 1, by omega⟩
    obtain ⟨be0, bv0, bl0⟩ := hb0
    generalize hQ : Q_p_catalog_CheckRow_l0 a0_1_0_0 a0_1_0_1 a0_1_0_2 a0_1_1_0 a0_1_1_1 a0_1_1_2 a0_1_2_0 a0_1_2_1 a0_1_2_2 a0_0 a0_2_0 a0_2_1 a0_2_2 a0_3_0 a0_3_1 a0_3_2 a0_4 a0_5 = Q
    have g0 := cnt_nil hR
    rw [iter, he]
    clear he
    generalize hK : iter _ _ n = K
    rw [p_catalog_CheckRow_l0] at h
    revert h
    rintro ⟨⟩
    simp only [go_sem, *]
    subst hQ
    refine (⟨_, _, rfl, ?_, ?_⟩ : Q0_p_catalog_CheckRow_l0 _ _ _ _ _ _ _ _ _ _ _ _ _ _ _ _ _ _ _ _)
    all_goals simp only [go_sem, *]
  | succ tl ih =>
    intro n s2  env st o hn hR he hb0 h
    obtain ⟨n, rfl⟩ : ∃ m, n = m + 1 := ⟨n - 1, by omega⟩
    obtain ⟨be0, bv0, bl0⟩ := hb0
    generalize hQ : Q_p_catalog_CheckRow_l0 a0_1_0_0 a0_1_0_1 a0_1_0_2 a0_1_1_0 a0_1_1_1 a0_1_1_2 a0_1_2_0 a0_1_2_1 a0_1_2_2 a0_0 a0_2_0 a0_2_1 a0_2_2 a0_3_0 a0_3_1 a0_3_2 a0_4 a0_5 = Q at ih ⊢
    replace ih : Hold _ := ih
    replace hR := cnt_s hR
    obtain ⟨g0, g1, g3, hR⟩ := hR
    rw [iter, he]
    clear he
    generalize hK : iter _ _ n = K
    rw [p_catalog_CheckRow_l0] at h
    revert h
    refine cb_i (fun c1 => ?_) (fun c1 => ?_)
    · have c2 : 0 ≤ s2 := by have := of_decide_eq_true c1; omega
      have c3 : s2 < 3 := by have := of_decide_eq_true c1; omega
      have c4 : s2.toNat = 0 := by have := of_decide_eq_true c1; omega
      refine bnd_i fun r6 c5 => ?_
      refine cb_i (fun c6 => ?_) (fun c6 => ?_)
      · intro h
        simp only [go_sem, *]
        subst hK
        refine ih n (s2 + 1)  _ _ _ (by omega) hR ?_ ?_ h
        all_goals simp only [go_sem, *]
      · rintro ⟨⟩
        simp only [go_sem, *]
        subst hQ
        refine (⟨_, _, rfl, ?_⟩ : Q1_p_catalog_CheckRow_l0 _ _ _ _ _ _ _ _ _ _ _ _ _ _ _ _ _ _ _ _)
        all_goals simp only [go_sem, *]
    · refine cb_i (fun c7 => ?_) (fun c7 => ?_)
      · have c8 : 0 ≤ s2 := by have := of_decide_eq_true c7; omega
        have c9 : s2 < 3 := by have := of_decide_eq_true c7; omega
        have c10 : s2.toNat = 1 := by have := of_decide_eq_true c7; omega
        refine bnd_i fun r7 c11 => ?_
        refine cb_i (fun c12 => ?_) (fun c12 => ?_)
        · intro h
          simp only [go_sem, *]
          subst hK
          refine ih n (s2 + 1)  _ _ _ (by omega) hR ?_ ?_ h
          all_goals simp only [go_sem, *]
        · rintro ⟨⟩
          simp only [go_sem, *]
          subst hQ
          refine (⟨_, _, rfl, ?_⟩ : Q1_p_catalog_CheckRow_l0 _ _ _ _ _ _ _ _ _ _ _ _ _ _ _ _ _ _ _ _)
          all_goals simp only [go_sem, *]
      · refine cb_i (fun c13 => ?_) (fun c13 => ?_)
        · have c14 : 0 ≤ s2 := by have := of_decide_eq_true c13; omega
          have c15 : s2 < 3 := by have := of_decide_eq_true c13; omega
          have c16 : s2.toNat = 2 := by have := of_decide_eq_true c13; omega
          refine bnd_i fun r8 c17 => ?_
          refine cb_i (fun c18 => ?_) (fun c18 => ?_)
          · intro h
            simp only [go_sem, *]
            subst hK
            refine ih n (s2 + 1)  _ _ _ (by omega) hR ?_ ?_ h
            all_goals simp only [go_sem, *]
          · rintro ⟨⟩
            simp only [go_sem, *]
            subst hQ
            refine (⟨_, _, rfl, ?_⟩ : Q1_p_catalog_CheckRow_l0 _ _ _ _ _ _ _ _ _ _ _ _ _ _ _ _ _ _ _ _)
            all_goals simp only [go_sem, *]
        · intro h; cases h
def Q0_p_catalog_CheckRow_l1 (a0_4 : List Int) (a0_0 : Int) (a0_1_0_0 : Int) (a0_1_0_1 : Int) (a0_1_0_2 : Bool) (a0_1_1_0 : Int) (a0_1_1_1 : Int) (a0_1_1_2 : Bool) (a0_1_2_0 : Int) (a0_1_2_1 : Int) (a0_1_2_2 : Bool) (a0_2_0 : Int) (a0_2_1 : Int) (a0_2_2 : Bool) (a0_3_0 : Int) (a0_3_1 : Int) (a0_3_2 : Bool) (a0_5 : Int) (u : Unit) (z : Out) : Prop := ∃ env st, z = some (.exit 3, env, st) ∧ env = sp 94 0 [(1, .p (0, 1) (st (0, 1)).ver 0 [])] ∧ Bk (st (0, 1)) 89 [.d (.agg 89 [.int .i64 a0_0, .agg 66 [.agg 64 [.int .i64 a0_1_0_0, .int .i64 a0_1_0_1, .bool a0_1_0_2], .agg 64 [.int .i64 a0_1_1_0, .int .i64 a0_1_1_1, .bool a0_1_1_2], .agg 64 [.int .i64 a0_1_2_0, .int .i64 a0_1_2_1, .bool a0_1_2_2]], .agg 35 [.int .i64 a0_2_0, .int .i64 a0_2_1, .bool a0_2_2], .agg 87 [.int .i64 a0_3_0, .int .i64 a0_3_1, .bool a0_3_2], .sl 3 (a0_4.map (D.int .i64)), .int .i64 a0_5])]
def Q1_p_catalog_CheckRow_l1 (a0_4 : List Int) (a0_0 : Int) (a0_1_0_0 : Int) (a0_1_0_1 : Int) (a0_1_0_2 : Bool) (a0_1_1_0 : Int) (a0_1_1_1 : Int) (a0_1_1_2 : Bool) (a0_1_2_0 : Int) (a0_1_2_1 : Int) (a0_1_2_2 : Bool) (a0_2_0 : Int) (a0_2_1 : Int) (a0_2_2 : Bool) (a0_3_0 : Int) (a0_3_1 : Int) (a0_3_2 : Bool) (a0_5 : Int) (u : Int) (z : Out) : Prop := ∃ env st, z = some (.ret, env, st) ∧ env = sp 94 0 [(2, .d (.int .i64 u))]
def Q_p_catalog_CheckRow_l1 (a0_4 : List Int) (a0_0 : Int) (a0_1_0_0 : Int) (a0_1_0_1 : Int) (a0_1_0_2 : Bool) (a0_1_1_0 : Int) (a0_1_1_1 : Int) (a0_1_1_2 : Bool) (a0_1_2_0 : Int) (a0_1_2_1 : Int) (a0_1_2_2 : Bool) (a0_2_0 : Int) (a0_2_1 : Int) (a0_2_2 : Bool) (a0_3_0 : Int) (a0_3_1 : Int) (a0_3_2 : Bool) (a0_5 : Int) (o : Sum Unit Int) (z : Out) : Prop := match o with | (.inl u) => Q0_p_catalog_CheckRow_l1 a0_4 a0_0 a0_1_0_0 a0_1_0_1 a0_1_0_2 a0_1_1_0 a0_1_1_1 a0_1_1_2 a0_1_2_0 a0_1_2_1 a0_1_2_2 a0_2_0 a0_2_1 a0_2_2 a0_3_0 a0_3_1 a0_3_2 a0_5 u z | (.inr u) => Q1_p_catalog_CheckRow_l1 a0_4 a0_0 a0_1_0_0 a0_1_0_1 a0_1_0_2 a0_1_1_0 a0_1_1_1 a0_1_1_2 a0_1_2_0 a0_1_2_1 a0_1_2_2 a0_2_0 a0_2_1 a0_2_2 a0_3_0 a0_3_1 a0_3_2 a0_5 u z
theorem l_p_catalog_CheckRow_l1 (L : Nat) (hL : L ≤ 4611686018427387904) (a0_4 : List Int) (a0_0 : Int) (a0_1_0_0 : Int) (a0_1_0_1 : Int) (a0_1_0_2 : Bool) (a0_1_1_0 : Int) (a0_1_1_1 : Int) (a0_1_1_2 : Bool) (a0_1_2_0 : Int) (a0_1_2_1 : Int) (a0_1_2_2 : Bool) (a0_2_0 : Int) (a0_2_1 : Int) (a0_2_2 : Bool) (a0_3_0 : Int) (a0_3_1 : Int) (a0_3_2 : Bool) (a0_5 : Int) : ∀ (tl : List Int) (n : Nat) (s15 : Int) (env : List V) (st : Store) (o : Sum Unit Int), tl.length < n → Rng a0_4 s15 tl → mask (maskOf en45.ms 3) env = sp 94 0 [(1, .p (0, 1) (st (0, 1)).ver 0 []), (58, .d (.sl 3 (a0_4.map (D.int .i64)))), (59, .d (.int .i64 (a0_4.length : Int))), (60, .d (.int .i64 s15))] → Bk (st (0, 1)) 89 [.d (.agg 89 [.int .i64 a0_0, .agg 66 [.agg 64 [.int .i64 a0_1_0_0, .int .i64 a0_1_0_1, .bool a0_1_0_2], .agg 64 [.int .i64 a0_1_1_0, .int .i64 a0_1_1_1, .bool a0_1_1_2], .agg 64 [.int .i64 a0_1_2_0, .int .i64 a0_1_2_1, .bool a0_1_2_2]], .agg 35 [.int .i64 a0_2_0, .int .i64 a0_2_1, .bool a0_2_2], .agg 87 [.int .i64 a0_3_0, .int .i64 a0_3_1, .bool a0_3_2], .sl 3 (a0_4.map (D.int .i64)), .int .i64 a0_5])] → p_catalog_CheckRow_l1 L a0_4 tl s15  = some o →
    Q_p_catalog_CheckRow_l1 a0_4 a0_0 a0_1_0_0 a0_1_0_1 a0_1_0_2 a0_1_1_0 a0_1_1_1 a0_1_1_2 a0_1_2_0 a0_1_2_1 a0_1_2_2 a0_2_0 a0_2_1 a0_2_2 a0_3_0 a0_3_1 a0_3_2 a0_5 o (iter (evC Try.prog (G_catalog_CheckRow L) (evF Try.prog (G_catalog_CheckRow L) T_catalog_CheckRow L 0) L en45.ms 0 3 lb45_3) (maskOf en45.ms 3) n env st) := by
  intro tl
  induction tl with
  | nil =>
    intro n s15  env st o hn hR he hb0 h
    obtain ⟨n, rfl⟩ : ∃ m, n = m + 1 := ⟨n - 1, by omega⟩
    obtain ⟨be0, bv0, bl0⟩ := hb0
    generalize hQ : Q_p_catalog_CheckRow_l1 a0_4 a0_0 a0_1_0_0 a0_1_0_1 a0_1_0_2 a0_1_1_0 a0_1_1_1 a0_1_1_2 a0_1_2_0 a0_1_2_1 a0_1_2_2 a0_2_0 a0_2_1 a0_2_2 a0_3_0 a0_3_1 a0_3_2 a0_5 = Q
    have g0 := rng_nil hR
    rw [iter, he]
    clear he
    generalize hK : iter _ _ n = K
    rw [p_catalog_CheckRow_l1] at h
    revert h
    rintro ⟨⟩
    simp only [go_sem, *]
    subst hQ
    refine (⟨_, _, rfl, ?_, ?_⟩ : Q0_p_catalog_CheckRow_l1 _ _ _ _ _ _ _ _ _ _ _ _ _ _ _ _ _ _ _ _)
    all_goals simp only [go_sem, *]
  | cons x14 tl ih =>
    intro n s15  env st o hn hR he hb0 h
    obtain ⟨n, rfl⟩ : ∃ m, n = m + 1 := ⟨n - 1, by omega⟩
    obtain ⟨be0, bv0, bl0⟩ := hb0
    generalize hQ : Q_p_catalog_CheckRow_l1 a0_4 a0_0 a0_1_0_0 a0_1_0_1 a0_1_0_2 a0_1_1_0 a0_1_1_1 a0_1_1_2 a0_1_2_0 a0_1_2_1 a0_1_2_2 a0_2_0 a0_2_1 a0_2_2 a0_3_0 a0_3_1 a0_3_2 a0_5 = Q at ih ⊢
    replace ih : Hold _ := ih
    replace hR := rng_s hR
    obtain ⟨g0, g1, g2, g3, hR⟩ := hR
    rw [iter, he]
    clear he
    generalize hK : iter _ _ n = K
    rw [p_catalog_CheckRow_l1] at h
    revert h
    refine ite_i (fun c1 => ?_) (fun c1 => ?_)
    · rintro ⟨⟩
      simp only [go_sem, *]
      subst hQ
      refine (⟨_, _, rfl, ?_⟩ : Q1_p_catalog_CheckRow_l1 _ _ _ _ _ _ _ _ _ _ _ _ _ _ _ _ _ _ _ _)
      all_goals simp only [go_sem, *]
    · refine ite_i (fun c2 => ?_) (fun c2 => ?_)
      · rintro ⟨⟩
        simp only [go_sem, *]
        subst hQ
        refine (⟨_, _, rfl, ?_⟩ : Q1_p_catalog_CheckRow_l1 _ _ _ _ _ _ _ _ _ _ _ _ _ _ _ _ _ _ _ _)
        all_goals simp only [go_sem, *]
      · refine ite_i (fun c3 => ?_) (fun c3 => ?_)
        · refine idx_i fun x17 c4 c5 c6 => ?_
          refine ite_i (fun c7 => ?_) (fun c7 => ?_)
          · rintro ⟨⟩
            simp only [go_sem, *]
            subst hQ
            refine (⟨_, _, rfl, ?_⟩ : Q1_p_catalog_CheckRow_l1 _ _ _ _ _ _ _ _ _ _ _ _ _ _ _ _ _ _ _ _)
            all_goals simp only [go_sem, *]
          · intro h
            simp only [go_sem, *]
            subst hK
            refine ih n (s15 + 1)  _ _ _ (by simp only [List.length_cons] at hn; omega) hR ?_ ?_ h
            all_goals simp only [go_sem, *]
        · intro h
          simp only [go_sem, *]
          subst hK
          refine ih n (s15 + 1)  _ _ _ (by simp only [List.length_cons] at hn; omega) hR ?_ ?_ h
          all_goals simp only [go_sem, *]
theorem e_catalog_CheckRow (L : Nat) (hL : L ≤ 4611686018427387904) (a0_0 : Int) (a0_1_0_0 : Int) (a0_1_0_1 : Int) (a0_1_0_2 : Bool) (a0_1_1_0 : Int) (a0_1_1_1 : Int) (a0_1_1_2 : Bool) (a0_1_2_0 : Int) (a0_1_2_1 : Int) (a0_1_2_2 : Bool) (a0_2_0 : Int) (a0_2_1 : Int) (a0_2_2 : Bool) (a0_3_0 : Int) (a0_3_1 : Int) (a0_3_2 : Bool) (a0_4 : List Int) (a0_5 : Int) (res : Int) (h : p_catalog_CheckRow L a0_0 a0_1_0_0 a0_1_0_1 a0_1_0_2 a0_1_1_0 a0_1_1_1 a0_1_1_2 a0_1_2_0 a0_1_2_1 a0_1_2_2 a0_2_0 a0_2_1 a0_2_2 a0_3_0 a0_3_1 a0_3_2 a0_4 a0_5 = some res) : evTop Try.prog (G_catalog_CheckRow L) T_catalog_CheckRow L 1 45 [.agg 89 [.int .i64 a0_0, .agg 66 [.agg 64 [.int .i64 a0_1_0_0, .int .i64 a0_1_0_1, .bool a0_1_0_2], .agg 64 [.int .i64 a0_1_1_0, .int .i64 a0_1_1_1, .bool a0_1_1_2], .agg 64 [.int .i64 a0_1_2_0, .int .i64 a0_1_2_1, .bool a0_1_2_2]], .agg 35 [.int .i64 a0_2_0, .int .i64 a0_2_1, .bool a0_2_2], .agg 87 [.int .i64 a0_3_0, .int .i64 a0_3_1, .bool a0_3_2], .sl 3 (a0_4.map (D.int .i64)), .int .i64 a0_5]] = some [.int .i64 res] := by
  revert h
  unfold p_catalog_CheckRow evTop
  simp only [List.map]
  rw [evF_s (fn := Try.f45) (msk := en45.ms) (hT := by rfl) (hb := by rfl)]
  refine ite_i (fun c1 => ?_) (fun c1 => ?_)
  · rintro ⟨⟩
    simp only [go_sem, *]
  · refine ite_i (fun c2 => ?_) (fun c2 => ?_)
    · rintro ⟨⟩
      simp only [go_sem, *]
    · refine rq_i fun c3 => ?_
      refine bnd_i fun o9 ho4 => ?_
      intro h
      simp only [go_sem, *]
      generalize hz6 : iter _ _ _ _ _ = z5
      have hq7 : Q_p_catalog_CheckRow_l0 a0_1_0_0 a0_1_0_1 a0_1_0_2 a0_1_1_0 a0_1_1_1 a0_1_1_2 a0_1_2_0 a0_1_2_1 a0_1_2_2 a0_0 a0_2_0 a0_2_1 a0_2_2 a0_3_0 a0_3_1 a0_3_2 a0_4 a0_5 o9 z5 := by
        rw [← hz6]
        refine l_p_catalog_CheckRow_l0 L hL a0_1_0_0 a0_1_0_1 a0_1_0_2 a0_1_1_0 a0_1_1_1 a0_1_1_2 a0_1_2_0 a0_1_2_1 a0_1_2_2 a0_0 a0_2_0 a0_2_1 a0_2_2 a0_3_0 a0_3_1 a0_3_2 a0_4 a0_5 _ L 0  _ _ _ c3 (cnt_0 (by decide) (by decide)) ?_ ?_ ho4
        all_goals simp only [go_sem, *]
      clear hz6 ho4
      rcases o9 with o9_0 | o9_1
      · obtain ⟨_, st10, rfl, rfl, ⟨k81, k82, k83⟩⟩ := hq7
        dsimp only at h
        revert h
        refine bnd_i fun r11 c9 => ?_
        refine bnd_i fun r12 c10 => ?_
        refine bnd_i fun r13 c11 => ?_
        have c12 := s_cmp_Or_Errno_run L [r11, r12]
        simp only [go_sem] at c12
        refine cb_i (fun c13 => ?_) (fun c13 => ?_)
        · refine cb_i (fun c14 => ?_) (fun c14 => ?_)
          · rintro ⟨⟩
            simp only [go_sem, *]
          · refine ite_i (fun c15 => ?_) (fun c15 => ?_)
            · rintro ⟨⟩
              simp only [go_sem, *]
            · refine rq_i fun c16 => ?_
              refine bnd_i fun o18 ho17 => ?_
              intro h
              simp only [go_sem, *]
              generalize hz19 : iter _ _ _ _ _ = z18
              have hq20 : Q_p_catalog_CheckRow_l1 a0_4 a0_0 a0_1_0_0 a0_1_0_1 a0_1_0_2 a0_1_1_0 a0_1_1_1 a0_1_1_2 a0_1_2_0 a0_1_2_1 a0_1_2_2 a0_2_0 a0_2_1 a0_2_2 a0_3_0 a0_3_1 a0_3_2 a0_5 o18 z18 := by
                rw [← hz19]
                refine l_p_catalog_CheckRow_l1 L hL a0_4 a0_0 a0_1_0_0 a0_1_0_1 a0_1_0_2 a0_1_1_0 a0_1_1_1 a0_1_1_2 a0_1_2_0 a0_1_2_1 a0_1_2_2 a0_2_0 a0_2_1 a0_2_2 a0_3_0 a0_3_1 a0_3_2 a0_5 a0_4 L 0  _ _ _ c16 (rng_0 c16 hL) ?_ ?_ ho17
                all_goals simp only [go_sem, *]
              clear hz19 ho17
              rcases o18 with o18_0 | o18_1
              · obtain ⟨_, st19, rfl, rfl, ⟨k211, k212, k213⟩⟩ := hq20
                dsimp only at h
                revert h
                refine ite_i (fun c22 => ?_) (fun c22 => ?_)
                · rintro ⟨⟩
                  simp only [go_sem, *]
                · refine ite_i (fun c23 => ?_) (fun c23 => ?_)
                  · rintro ⟨⟩
                    simp only [go_sem, *]
                  · rintro ⟨⟩
                    simp only [go_sem, *]
              · obtain ⟨_, st20, rfl, rfl⟩ := hq20
                dsimp only at h
                revert h
                rintro ⟨⟩
                simp only [go_sem, *]
        · rintro ⟨⟩
          simp only [go_sem, *]
      · obtain ⟨_, st21, rfl, rfl⟩ := hq7
        dsimp only at h
        revert h
        rintro ⟨⟩
        simp only [go_sem, *]
noncomputable def s_catalog_CheckRow (L : Nat) : Ev.Spec := specP (cCons k89 cNil) (fun x => p_catalog_CheckRow L x.1.1 x.1.2.1.1.1 x.1.2.1.1.2.1 x.1.2.1.1.2.2.1 x.1.2.1.2.1.1 x.1.2.1.2.1.2.1 x.1.2.1.2.1.2.2.1 x.1.2.1.2.2.1.1 x.1.2.1.2.2.1.2.1 x.1.2.1.2.2.1.2.2.1 x.1.2.2.1.1 x.1.2.2.1.2.1 x.1.2.2.1.2.2.1 x.1.2.2.2.1.1 x.1.2.2.2.1.2.1 x.1.2.2.2.1.2.2.1 x.1.2.2.2.2.1 x.1.2.2.2.2.2.1) (fun r => [.int .i64 r])
theorem s_catalog_CheckRow_run (L : Nat) (a0_0 : Int) (a0_1_0_0 : Int) (a0_1_0_1 : Int) (a0_1_0_2 : Bool) (a0_1_1_0 : Int) (a0_1_1_1 : Int) (a0_1_1_2 : Bool) (a0_1_2_0 : Int) (a0_1_2_1 : Int) (a0_1_2_2 : Bool) (a0_2_0 : Int) (a0_2_1 : Int) (a0_2_2 : Bool) (a0_3_0 : Int) (a0_3_1 : Int) (a0_3_2 : Bool) (a0_4 : List Int) (a0_5 : Int) : (s_catalog_CheckRow L).run [.agg 89 [.int .i64 a0_0, .agg 66 [.agg 64 [.int .i64 a0_1_0_0, .int .i64 a0_1_0_1, .bool a0_1_0_2], .agg 64 [.int .i64 a0_1_1_0, .int .i64 a0_1_1_1, .bool a0_1_1_2], .agg 64 [.int .i64 a0_1_2_0, .int .i64 a0_1_2_1, .bool a0_1_2_2]], .agg 35 [.int .i64 a0_2_0, .int .i64 a0_2_1, .bool a0_2_2], .agg 87 [.int .i64 a0_3_0, .int .i64 a0_3_1, .bool a0_3_2], .sl 3 (a0_4.map (D.int .i64)), .int .i64 a0_5]] = (p_catalog_CheckRow L a0_0 a0_1_0_0 a0_1_0_1 a0_1_0_2 a0_1_1_0 a0_1_1_1 a0_1_1_2 a0_1_2_0 a0_1_2_1 a0_1_2_2 a0_2_0 a0_2_1 a0_2_2 a0_3_0 a0_3_1 a0_3_2 a0_4 a0_5).map fun r => [.int .i64 r] := specP_run (cCons k89 cNil) (fun x => p_catalog_CheckRow L x.1.1 x.1.2.1.1.1 x.1.2.1.1.2.1 x.1.2.1.1.2.2.1 x.1.2.1.2.1.1 x.1.2.1.2.1.2.1 x.1.2.1.2.1.2.2.1 x.1.2.1.2.2.1.1 x.1.2.1.2.2.1.2.1 x.1.2.1.2.2.1.2.2.1 x.1.2.2.1.1 x.1.2.2.1.2.1 x.1.2.2.1.2.2.1 x.1.2.2.2.1.1 x.1.2.2.2.1.2.1 x.1.2.2.2.1.2.2.1 x.1.2.2.2.2.1 x.1.2.2.2.2.2.1) (fun r => [.int .i64 r]) ((a0_0, ((a0_1_0_0, a0_1_0_1, a0_1_0_2, ()), (a0_1_1_0, a0_1_1_1, a0_1_1_2, ()), (a0_1_2_0, a0_1_2_1, a0_1_2_2, ()), ()), (a0_2_0, a0_2_1, a0_2_2, ()), (a0_3_0, a0_3_1, a0_3_2, ()), a0_4, a0_5, ()), ())
theorem ok_catalog_CheckRow (L : Nat) (hL : L ≤ 4611686018427387904) : SpecOk Try.prog 45 (s_catalog_CheckRow L) := specP_ok mixed (Go_catalog_CheckRow L hL) (To_catalog_CheckRow L) fun x r h => ⟨L, 1, e_catalog_CheckRow L hL x.1.1 x.1.2.1.1.1 x.1.2.1.1.2.1 x.1.2.1.1.2.2.1 x.1.2.1.2.1.1 x.1.2.1.2.1.2.1 x.1.2.1.2.1.2.2.1 x.1.2.1.2.2.1.1 x.1.2.1.2.2.1.2.1 x.1.2.1.2.2.1.2.2.1 x.1.2.2.1.1 x.1.2.2.1.2.1 x.1.2.2.1.2.2.1 x.1.2.2.2.1.1 x.1.2.2.2.1.2.1 x.1.2.2.2.1.2.2.1 x.1.2.2.2.2.1 x.1.2.2.2.2.2.1 r h⟩
end Go.Proofs.Ytnojehmbiceceaa.P
end
section
set_option linter.unusedVariables false
set_option linter.unusedSimpArgs false
set_option maxRecDepth 100000
namespace Go.Proofs.Ytnojehmbiceceaa.P
open Go.Ev Go.IntKind Go.Proofs.Ytnojehmbiceceaa Go.Proofs.Ytnojehmbiceceaa.Ty Go.Proofs.Ytnojehmbiceceaa.E
def p_catalog_Check_l0 (L : Nat) (a0 : List (Int × ((Int × Int × Bool × Unit) × (Int × Int × Bool × Unit) × (Int × Int × Bool × Unit) × Unit) × (Int × Int × Bool × Unit) × (Int × Int × Bool × Unit) × (List Int) × Int × Unit)) : List (Int × ((Int × Int × Bool × Unit) × (Int × Int × Bool × Unit) × (Int × Int × Bool × Unit) × Unit) × (Int × Int × Bool × Unit) × (Int × Int × Bool × Unit) × (List Int) × Int × Unit) → Int → Option (Sum Unit Int)
  | [], s2 => some (.inl ())
  | x1 :: tl, s2 => bnd (p_catalog_CheckRow L x1.1 x1.2.1.1.1 x1.2.1.1.2.1 x1.2.1.1.2.2.1 x1.2.1.2.1.1 x1.2.1.2.1.2.1 x1.2.1.2.1.2.2.1 x1.2.1.2.2.1.1 x1.2.1.2.2.1.2.1 x1.2.1.2.2.1.2.2.1 x1.2.2.1.1 x1.2.2.1.2.1 x1.2.2.1.2.2.1 x1.2.2.2.1.1 x1.2.2.2.1.2.1 x1.2.2.2.1.2.2.1 x1.2.2.2.2.1 x1.2.2.2.2.2.1) fun r5 => cb (decide (r5 = 0)) (if s2 > 0 then (bnd (idx a0 (i64.wrap (s2 - 1))) fun x6 => if x1.1 ≤ x6.1 then (some (.inr 11)) else (p_catalog_Check_l0 L a0 tl (s2 + 1))) else (p_catalog_Check_l0 L a0 tl (s2 + 1))) (some (.inr r5))
def p_catalog_Check (L : Nat) (a0 : List (Int × ((Int × Int × Bool × Unit) × (Int × Int × Bool × Unit) × (Int × Int × Bool × Unit) × Unit) × (Int × Int × Bool × Unit) × (Int × Int × Bool × Unit) × (List Int) × Int × Unit)) : Option Int := if (a0.length : Int) > 200 then (some 2) else (rq (a0.length < L) <| bnd (p_catalog_Check_l0 L a0 a0 0) fun o7 => match o7 with | (.inl o7_0) => (some 0) | (.inr o7_1) => (some o7_1))
noncomputable def G_catalog_Check (L : Nat) : Specs := [(45, s_catalog_CheckRow L)]
noncomputable def T_catalog_Check : Table := tableOf [(41, en41)]
theorem Go_catalog_Check (L : Nat) (hL : L ≤ 4611686018427387904) : ∀ g s, Ev.look (G_catalog_Check L) g = some s → SpecOk Try.prog g s := (specs_cons (ok_catalog_CheckRow L hL) specs_nil)
theorem To_catalog_Check (L : Nat) : TableOk Try.prog ((G_catalog_Check L).map (·.1)) T_catalog_Check := (table_cons Try.func41 (by kernel_rfl) (by kernel_rfl) table_nil)
theorem lk_catalog_Check_45 (L : Nat) : Ev.look (G_catalog_Check L) 45 = some (s_catalog_CheckRow L) := nr rfl
attribute [local go_sem] Ty.tk3 Ty.ik3 Ty.ek3 Ty.zv3 Ty.by3 Ty.so3 Ty.tk4 Ty.ub4 Ty.ek4 Ty.zv4 Ty.by4 Ty.so4 Ty.tk22 Ty.zv22 Ty.by22 Ty.so22 Ty.tk24 Ty.ik24 Ty.ek24 Ty.zv24 Ty.by24 Ty.so24 Ty.tk27 Ty.ik27 Ty.ek27 Ty.zv27 Ty.by27 Ty.so27 Ty.tk35 Ty.ct35 Ty.ek35 Ty.zv35 Ty.by35 Ty.so35 Ty.tk62 Ty.ik62 Ty.ek62 Ty.zv62 Ty.by62 Ty.so62 Ty.tk64 Ty.ct64 Ty.ek64 Ty.zv64 Ty.by64 Ty.so64 Ty.tk66 Ty.ct66 Ty.ek66 Ty.zv66 Ty.by66 Ty.so66 Ty.tk70 Ty.zv70 Ty.by70 Ty.so70 Ty.tk72 Ty.ik72 Ty.ek72 Ty.zv72 Ty.by72 Ty.so72 Ty.tk87 Ty.ct87 Ty.ek87 Ty.zv87 Ty.by87 Ty.so87 Ty.tk89 Ty.ct89 Ty.zv89 Ty.by89 Ty.so89 Ty.k22_e Ty.k35_e Ty.k64_e Ty.k66_e Ty.k70_e Ty.k87_e Ty.k89_e E.dw41_9 E.kl41_9 E.nc41_9 E.mk41_0 E.mk41_1000001 E.mk41_1000002 E.mk41_1000000 E.fz41_0 E.fi41_0 E.lb41_0 lk_catalog_Check_45 s_catalog_CheckRow_run loopN loops Try.f41
def Q0_p_catalog_Check_l0 (a0 : List (Int × ((Int × Int × Bool × Unit) × (Int × Int × Bool × Unit) × (Int × Int × Bool × Unit) × Unit) × (Int × Int × Bool × Unit) × (Int × Int × Bool × Unit) × (List Int) × Int × Unit)) (u : Unit) (z : Out) : Prop := ∃ env st, z = some (.exit 0, env, st) ∧ env = sp 35 0 []
def Q1_p_catalog_Check_l0 (a0 : List (Int × ((Int × Int × Bool × Unit) × (Int × Int × Bool × Unit) × (Int × Int × Bool × Unit) × Unit) × (Int × Int × Bool × Unit) × (Int × Int × Bool × Unit) × (List Int) × Int × Unit)) (u : Int) (z : Out) : Prop := ∃ env st, z = some (.ret, env, st) ∧ env = sp 35 0 [(2, .d (.int .i64 u))]
def Q_p_catalog_Check_l0 (a0 : List (Int × ((Int × Int × Bool × Unit) × (Int × Int × Bool × Unit) × (Int × Int × Bool × Unit) × Unit) × (Int × Int × Bool × Unit) × (Int × Int × Bool × Unit) × (List Int) × Int × Unit)) (o : Sum Unit Int) (z : Out) : Prop := match o with | (.inl u) => Q0_p_catalog_Check_l0 a0 u z | (.inr u) => Q1_p_catalog_Check_l0 a0 u z
theorem l_p_catalog_Check_l0 (L : Nat) (hL : L ≤ 4611686018427387904) (a0 : List (Int × ((Int × Int × Bool × Unit) × (Int × Int × Bool × Unit) × (Int × Int × Bool × Unit) × Unit) × (Int × Int × Bool × Unit) × (Int × Int × Bool × Unit) × (List Int) × Int × Unit)) : ∀ (tl : List (Int × ((Int × Int × Bool × Unit) × (Int × Int × Bool × Unit) × (Int × Int × Bool × Unit) × Unit) × (Int × Int × Bool × Unit) × (Int × Int × Bool × Unit) × (List Int) × Int × Unit)) (n : Nat) (s2 : Int) (env : List V) (st : Store) (o : Sum Unit Int), tl.length < n → Rng a0 s2 tl → mask (maskOf en41.ms 0) env = sp 35 0 [(0, .d (.sl 89 (a0.map k89.e))), (9, .d (.sl 89 (a0.map k89.e))), (10, .d (.int .i64 (a0.length : Int))), (11, .d (.int .i64 s2))] → p_catalog_Check_l0 L a0 tl s2  = some o →
    Q_p_catalog_Check_l0 a0 o (iter (evC Try.prog (G_catalog_Check L) (evF Try.prog (G_catalog_Check L) T_catalog_Check L 0) L en41.ms 0 0 lb41_0) (maskOf en41.ms 0) n env st) := by
  intro tl
  induction tl with
  | nil =>
    intro n s2  env st o hn hR he  h
    obtain ⟨n, rfl⟩ : ∃ m, n = m + 1 := ⟨n - 1, by omega⟩
    have g0 := rng_nil hR
    rw [iter, he]
    clear he
    generalize hK : iter _ _ n = K
    rw [p_catalog_Check_l0] at h
    revert h
    rintro ⟨⟩
    simp only [go_sem, *]
    refine (⟨_, _, rfl, ?_⟩ : Q0_p_catalog_Check_l0 _ _ _)
    all_goals simp only [go_sem, *]
  | cons x1 tl ih =>
    intro n s2  env st o hn hR he  h
    obtain ⟨n, rfl⟩ : ∃ m, n = m + 1 := ⟨n - 1, by omega⟩
    replace ih : Hold _ := ih
    replace hR := rng_s hR
    obtain ⟨g0, g1, g2, g3, hR⟩ := hR
    rw [iter, he]
    clear he
    generalize hK : iter _ _ n = K
    rw [p_catalog_Check_l0] at h
    revert h
    refine bnd_i fun r5 c1 => ?_
    refine cb_i (fun c2 => ?_) (fun c2 => ?_)
    · refine ite_i (fun c3 => ?_) (fun c3 => ?_)
      · refine idx_i fun x6 c4 c5 c6 => ?_
        refine ite_i (fun c7 => ?_) (fun c7 => ?_)
        · rintro ⟨⟩
          simp only [go_sem, *]
          refine (⟨_, _, rfl, ?_⟩ : Q1_p_catalog_Check_l0 _ _ _)
          all_goals simp only [go_sem, *]
        · intro h
          simp only [go_sem, *]
          subst hK
          refine ih n (s2 + 1)  _ _ _ (by simp only [List.length_cons] at hn; omega) hR ?_ h
          all_goals simp only [go_sem, *]
      · intro h
        simp only [go_sem, *]
        subst hK
        refine ih n (s2 + 1)  _ _ _ (by simp only [List.length_cons] at hn; omega) hR ?_ h
        all_goals simp only [go_sem, *]
    · rintro ⟨⟩
      simp only [go_sem, *]
      refine (⟨_, _, rfl, ?_⟩ : Q1_p_catalog_Check_l0 _ _ _)
      all_goals simp only [go_sem, *]
theorem e_catalog_Check (L : Nat) (hL : L ≤ 4611686018427387904) (a0 : List (Int × ((Int × Int × Bool × Unit) × (Int × Int × Bool × Unit) × (Int × Int × Bool × Unit) × Unit) × (Int × Int × Bool × Unit) × (Int × Int × Bool × Unit) × (List Int) × Int × Unit)) (res : Int) (h : p_catalog_Check L a0 = some res) : evTop Try.prog (G_catalog_Check L) T_catalog_Check L 1 41 [.sl 89 (a0.map k89.e)] = some [.int .i64 res] := by
  revert h
  unfold p_catalog_Check evTop
  simp only [List.map]
  rw [evF_s (fn := Try.f41) (msk := en41.ms) (hT := by rfl) (hb := by rfl)]
  refine ite_i (fun c1 => ?_) (fun c1 => ?_)
  · rintro ⟨⟩
    simp only [go_sem, *]
  · refine rq_i fun c2 => ?_
    refine bnd_i fun o7 ho3 => ?_
    intro h
    simp only [go_sem, *]
    generalize hz5 : iter _ _ _ _ _ = z4
    have hq6 : Q_p_catalog_Check_l0 a0 o7 z4 := by
      rw [← hz5]
      refine l_p_catalog_Check_l0 L hL a0 a0 L 0  _ _ _ c2 (rng_0 c2 hL) ?_ ho3
      all_goals simp only [go_sem, *]
    clear hz5 ho3
    rcases o7 with o7_0 | o7_1
    · obtain ⟨_, st8, rfl, rfl⟩ := hq6
      dsimp only at h
      revert h
      rintro ⟨⟩
      simp only [go_sem, *]
    · obtain ⟨_, st9, rfl, rfl⟩ := hq6
      dsimp only at h
      revert h
      rintro ⟨⟩
      simp only [go_sem, *]
noncomputable def s_catalog_Check (L : Nat) : Ev.Spec := specP (cCons k70 cNil) (fun x => p_catalog_Check L x.1) (fun r => [.int .i64 r])
theorem s_catalog_Check_run (L : Nat) (a0 : List (Int × ((Int × Int × Bool × Unit) × (Int × Int × Bool × Unit) × (Int × Int × Bool × Unit) × Unit) × (Int × Int × Bool × Unit) × (Int × Int × Bool × Unit) × (List Int) × Int × Unit)) : (s_catalog_Check L).run [.sl 89 (a0.map k89.e)] = (p_catalog_Check L a0).map fun r => [.int .i64 r] := specP_run (cCons k70 cNil) (fun x => p_catalog_Check L x.1) (fun r => [.int .i64 r]) (a0, ())
theorem ok_catalog_Check (L : Nat) (hL : L ≤ 4611686018427387904) : SpecOk Try.prog 41 (s_catalog_Check L) := specP_ok mixed (Go_catalog_Check L hL) (To_catalog_Check L) fun x r h => ⟨L, 1, e_catalog_Check L hL x.1 r h⟩
end Go.Proofs.Ytnojehmbiceceaa.P
end
end
