/- Parts of one proof, joined: G35, E36, E120, E191, G191, E192, G192, G120, E38, G38, E42, E46, E128. -/
import Derived.Test.YtnojehmbiceceaaMQueryScans14
import Derived.Test.YtnojehmbiceceaaProg
section
attribute [local go_sem] Go.Ev.putR_s Go.Ev.putR_0 Go.Ev.thenO_s Go.Ev.thenO_0 Go.Ev.seqR_n Go.Ev.seqR_e Go.Ev.seqR_r Go.Ev.seqR_0 Go.Ev.blkR_e Go.Ev.blkR_n Go.Ev.blkR_r Go.Ev.blkR_0 Go.Ev.normR_s Go.Ev.normR_0 Go.Ev.outR_r Go.Ev.outR_n Go.Ev.outR_0 Go.Ev.retS_s Go.Ev.retS_0 Go.Ev.pureO_s Go.Ev.pureO_0 Go.Ev.topR_0 Go.Ev.topR_t Go.Ev.topR_t0 Go.Ev.oneL_0 Go.Ev.oneL_s Go.Ev.topR_d Go.Ev.topR_nils Go.Ev.topR_agg Go.Ev.topR_rs Go.Ev.evOp_move Go.Ev.evOp_assign Go.Ev.evOp_pick Go.Ev.evOp_alloc Go.Ev.evOp_box Go.Ev.evOp_build Go.Ev.evOp_buildSlice Go.Ev.evOp_load Go.Ev.evOp_store Go.Ev.evOp_makeMap Go.Ev.evOp_lookup Go.Ev.evOp_mapUpdate Go.Ev.evOp_insert Go.Ev.evOp_nilCheck Go.Ev.evOp_binOp Go.Ev.evOp_unOp Go.Ev.evOp_convert Go.Ev.evOp_makeFunc Go.Ev.evOp_makeSlice Go.Ev.evOp_slice Go.Ev.evOp_fieldAddr Go.Ev.evOp_field Go.Ev.evOp_indexAddr Go.Ev.evOp_index Go.Ev.evOp_extract Go.Ev.evOp_call Go.Ev.evOp_append Go.Ev.evOp_clear Go.Ev.evOp_len Go.Ev.evOp_min Go.Ev.evOp_max Go.Ev.condR_b Go.Ev.condR_t Go.Ev.evOps_nil Go.Ev.evOps_plain Go.Ev.evOps_guard Go.Ev.runG_eq Go.Ev.skipG_eq Go.Ev.condL_tt Go.Ev.condL_ff Go.Ev.condL_tf Go.Ev.condL_ft Go.Ev.condL_u Go.Ev.condC_t Go.Ev.condC_f Go.Ev.evC_skip Go.Ev.evC_ret Go.Ev.evC_exit Go.Ev.evC_label Go.Ev.evC_region Go.Ev.evC_draw Go.Ev.evC_seq Go.Ev.evC_cond Go.Ev.evC_block Go.Ev.evC_loop Go.Ev.fin_d Go.Ev.fin_nils Go.Ev.fin_agg_ Go.Ev.fin_rs Go.Ev.finS_s Go.Ev.mapO_fin Go.Ev.upd_upd Go.Ev.argv_d Go.Ev.argv_nils Go.Ev.argv_agg Go.Ev.argv_rs Go.Ev.argv_p Go.Ev.fk_low Go.Ev.appendTo_nils Go.Ev.appendTo_rs Go.Ev.consV_d Go.Ev.consV_agg Go.Ev.consV_p Go.Ev.consV_rs Go.Ev.consV_nils Go.Ev.consV_fn Go.Ev.consV_und Go.Ev.consV_jk Go.Ev.consV_grown Go.Ev.topR_grown Go.Ev.len_grown Go.Ev.consV_mp Go.Ev.sameK_i Go.Ev.sameK_s Go.Ev.mget_0 Go.Ev.mget_hit Go.Ev.mget_miss Go.Ev.mput_0 Go.Ev.mput_hit Go.Ev.mput_miss Go.Ev.apartAll Go.Ev.apartL Go.Ev.apartV Go.Ev.freeAll Go.Ev.sel Go.Ev.keyOfV Go.Ev.evLookup Go.Ev.evPut Go.Ev.hintOk Go.Ev.keyOk Go.Ev.consP Go.Ev.lookV Go.Ev.guardV Go.Ev.dstAt Go.Ev.evPure Go.Ev.evStore Go.Ev.evBin Go.Ev.evBinO Go.Ev.evNil Go.Ev.isNilC Go.Ev.evUn Go.Ev.evConv Go.Ev.evSlice Go.Ev.optI Go.Ev.foldI Go.Ev.capsOk Go.Ev.noTup Go.Ev.nth Go.Ev.setN Go.Ev.killAt Go.Ev.pad Go.Ev.V.get Go.Ev.V.put Go.Ev.putD Go.Ev.newBlk Go.Ev.upd Go.Ev.keq Go.Ev.empty Go.Ev.evCall Go.Ev.V.args Go.Ev.argP Go.Ev.callOf Go.Ev.evNilP Go.Ev.isNilP Go.Ev.look Go.Ev.V.view.views Go.Ev.V.view Go.Ev.V.toD Go.Ev.V.toD.V.toDs Go.Ev.V.pure.pures Go.Ev.V.pure Go.Ev.D.flat.flats Go.Ev.D.flat Go.Ev.mkAgg Go.Ev.allD Go.Ev.aggParts Go.Ev.setParts Go.Ev.setElems Go.Ev.getPath Go.Ev.setPath Go.Ev.subL Go.Ev.eqD Go.Ev.eqD.eqDs Go.Ev.and2 Go.Ev.strCut Go.Ev.evalT Go.Ev.constT Go.Ev.evArgs Go.Ev.mask Go.Ev.maskOf Go.Ev.tableOf Go.Ev.compT Go.Ev.resV Go.Ev.retV Go.Ev.mapO Go.Ev.frzO_n Go.Ev.frzO_e Go.Ev.frzO_r Go.Ev.frzO_0 Go.Ev.mb_z Go.Ev.mb_0 Go.Ev.mb_s Go.Ev.frzL_t Go.Ev.frzL_f Go.Ev.frzL_0 Go.Ev.frzT_nils Go.Ev.frzT_rs Go.Ev.frzT_p Go.Ev.frzK_i Go.Ev.keyIn_i Go.Ev.rI_nil Go.Ev.rI_cons Go.Ev.rI_row Go.Ev.rI_app Go.Ev.r_d Go.Ev.r_nils Go.Ev.r_agg Go.Ev.r_rs Go.Ev.r_gl Go.Ev.vw_row Go.Ev.vw_app Go.Ev.appO_s Go.Ev.frzT_gl Go.Ev.allD_gl Go.Ev.killAt_i Go.Ev.tkOne_i Go.Ev.hT_agg Go.Ev.hT_vagg Go.Ev.hT_int Go.Ev.hT_bool Go.Ev.hT_str Go.Ev.hT_sl Go.Ev.hT_ptr Go.Ev.hT_np Go.Ev.hT_p Go.Ev.hT_rs Go.Ev.hT_mp Go.Ev.hT_nils Go.Ev.hT_fn Go.Ev.hT_jk Go.Ev.hT_gl Go.Ev.eO_sl Go.Ev.eO_nils Go.Ev.eO_rs Go.Ev.eT_sl Go.Ev.eT_rs Go.Ev.pL_str Go.Ev.pL_sl Go.Ev.pL_rs Go.Ev.pL_nils Go.Ev.pL_min Go.Ev.pL_max Go.Ev.len_glB Go.Ev.noTup_gl Go.Ev.rowV_len Go.Ev.rowV_nil Go.Ev.rowV_cons Go.Ev.rowV_append Go.Ev.rowV_set Go.Ev.rowV_replicate Go.Ev.nth_row Go.Ev.row_take Go.Ev.row_drop Go.Ev.toDs_row Go.Ev.fin_row Go.Ev.map_row Go.Ev.map_take_ Go.Ev.map_drop_ Go.Ev.Bk_i Go.Ev.GlB_0 Go.Ev.GlB_mk Go.Ev.gl_nil Go.Ev.gl_cons Go.Ev.gl_snoc Go.Ev.gl_setN Go.Ev.appendTo_gl Go.Ev.consV_gl Go.Ev.elems_gl Go.Ev.fin_gl Go.Ev.view_gl Go.Ev.argv_gl Go.Ev.topR_gl Go.Ev.sp_z Go.Ev.sp_0 Go.Ev.sp_s Go.Ev.km_z Go.Ev.km_0 Go.Ev.km_s Go.Ev.beq_toList Go.Ev.nc0 Go.Ev.bq_t Go.Ev.bq_f Go.Ev.bodyN Go.Ev.le_maxRow Int.cast_ofNat_Int Go.IntWalk.i64_in Go.IntWalk.u64_in Go.IntWalk.u8_in beq_self_eq_true Bool.true_beq Bool.false_beq Bool.and_true Bool.true_and Bool.false_and Bool.and_false Bool.and_self Bool.not_true Bool.not_false Bool.not_eq_true cond_true cond_false if_true if_false and_true true_and and_self decide_true decide_false Bool.or_true Bool.true_or Bool.or_false Bool.false_or List.isEmpty List.isEmpty_nil List.size_toArray List.map List.length_map List.length_cons List.length_nil Option.map Option.bind Option.getD Option.isSome List.replicate Bool.false_eq_true implies_true false_implies forall_const Array.toList Array.isEmpty List.append List.nil_append List.cons_append List.drop_zero List.take_length List.take_succ_cons List.take_zero List.take_nil List.getElem?_map List.getElem?_cons_zero List.getElem?_cons_succ List.getElem?_nil List.append_nil eq_self Int.toNat_natCast List.length_append Nat.zero_add Nat.add_zero List.length_replicate Nat.sub_zero Option.map_some Option.map_none Int.le_refl Nat.le_refl Int.natCast_nonneg List.map_append
attribute [local go_sem_proc] Nat.reduceAdd Nat.reduceSub Nat.reduceMul Nat.reduceEqDiff Nat.reduceBEq Nat.reduceLT Nat.reduceLeDiff Nat.reducePow Int.reduceToNat Int.reduceLT Int.reduceLE Int.reduceGT Int.reduceGE Int.reduceEq Int.reduceNeg Int.reduceAdd Int.reduceSub Int.reduceMul reduceCtorEq
attribute [local go_sem_proc ↓] reduceIte
section
set_option linter.unusedVariables false
set_option linter.unusedSimpArgs false
set_option maxRecDepth 100000
namespace Go.Proofs.Ytnojehmbiceceaa.P
open Go.Ev Go.IntKind Go.Proofs.Ytnojehmbiceceaa Go.Proofs.Ytnojehmbiceceaa.Ty Go.Proofs.Ytnojehmbiceceaa.E
def p_query_Scan_l0 (L : Nat) (a1_0 : List ((Int × Int × Int × Unit) × Int × Unit)) (a1_1 : Int) (a1_2 : Int) (a1_3 : Int) (a1_4 : Int) : List (Int × ((Int × Int × Bool × Unit) × (Int × Int × Bool × Unit) × (Int × Int × Bool × Unit) × Unit) × (Int × Int × Bool × Unit) × (Int × Int × Bool × Unit) × (List Int) × Int × Unit) → (List (Int × Int × Unit)) → Option (List (Int × Int × Unit))
  | [], s6 => some s6
  | x3 :: tl, s6 => bnd (p_query_grade L x3.1 x3.2.1.1.1 x3.2.1.1.2.1 x3.2.1.1.2.2.1 x3.2.1.2.1.1 x3.2.1.2.1.2.1 x3.2.1.2.1.2.2.1 x3.2.1.2.2.1.1 x3.2.1.2.2.1.2.1 x3.2.1.2.2.1.2.2.1 x3.2.2.1.1 x3.2.2.1.2.1 x3.2.2.1.2.2.1 x3.2.2.2.1.1 x3.2.2.2.1.2.1 x3.2.2.2.1.2.2.1 x3.2.2.2.2.1 x3.2.2.2.2.2.1 a1_0 a1_1 a1_2 a1_3 a1_4) fun r8 => cb (decide (r8 = 0)) (p_query_Scan_l0 L a1_0 a1_1 a1_2 a1_3 a1_4 tl s6) (rq (s6.length + 1 ≤ maxRow) <| rq ((s6.length + 1) * 16 ≤ maxRow) <| p_query_Scan_l0 L a1_0 a1_1 a1_2 a1_3 a1_4 tl (s6 ++ [(x3.1, r8, ())]))
def p_query_Scan (L : Nat) (a0 : List (Int × ((Int × Int × Bool × Unit) × (Int × Int × Bool × Unit) × (Int × Int × Bool × Unit) × Unit) × (Int × Int × Bool × Unit) × (Int × Int × Bool × Unit) × (List Int) × Int × Unit)) (a1_0 : List ((Int × Int × Int × Unit) × Int × Unit)) (a1_1 : Int) (a1_2 : Int) (a1_3 : Int) (a1_4 : Int) : Option ((List (Int × Int × Unit)) × Int) := bnd (p_catalog_Check L a0) fun r1 => cb (decide (r1 = 0)) (bnd (p_query_CheckAsk L a1_0 a1_1 a1_2 a1_3 a1_4) fun r2 => cb (decide (r2 = 0)) (rq (a0.length < L) <| bnd (p_query_Scan_l0 L a1_0 a1_1 a1_2 a1_3 a1_4 a0 ([])) fun o9 => some (o9, 0)) (some (([] : List (Int × Int × Unit)), r2))) (some (([] : List (Int × Int × Unit)), r1))
noncomputable def G_query_Scan (L : Nat) : Specs := [(37, s_query_CheckAsk L), (41, s_catalog_Check L), (119, s_query_grade L)]
noncomputable def T_query_Scan : Table := tableOf [(35, en35)]
theorem Go_query_Scan (L : Nat) (hL : L ≤ 4611686018427387904) : ∀ g s, Ev.look (G_query_Scan L) g = some s → SpecOk Try.prog g s := (specs_cons (ok_query_CheckAsk L hL) (specs_cons (ok_catalog_Check L hL) (specs_cons (ok_query_grade L hL) specs_nil)))
theorem To_query_Scan (L : Nat) : TableOk Try.prog ((G_query_Scan L).map (·.1)) T_query_Scan := (table_cons Try.func35 (by kernel_rfl) (by kernel_rfl) table_nil)
theorem lk_query_Scan_37 (L : Nat) : Ev.look (G_query_Scan L) 37 = some (s_query_CheckAsk L) := nr rfl
theorem lk_query_Scan_41 (L : Nat) : Ev.look (G_query_Scan L) 41 = some (s_catalog_Check L) := nr rfl
theorem lk_query_Scan_119 (L : Nat) : Ev.look (G_query_Scan L) 119 = some (s_query_grade L) := nr rfl
attribute [local go_sem] Ty.tk2 Ty.ik2 Ty.ek2 Ty.zv2 Ty.by2 Ty.so2 Ty.tk3 Ty.ik3 Ty.ek3 Ty.zv3 Ty.by3 Ty.so3 Ty.tk4 Ty.ub4 Ty.ek4 Ty.zv4 Ty.by4 Ty.so4 Ty.tk22 Ty.zv22 Ty.by22 Ty.so22 Ty.tk24 Ty.ik24 Ty.ek24 Ty.zv24 Ty.by24 Ty.so24 Ty.tk27 Ty.ik27 Ty.ek27 Ty.zv27 Ty.by27 Ty.so27 Ty.tk35 Ty.ct35 Ty.ek35 Ty.zv35 Ty.by35 Ty.so35 Ty.tk62 Ty.ik62 Ty.ek62 Ty.zv62 Ty.by62 Ty.so62 Ty.tk64 Ty.ct64 Ty.ek64 Ty.zv64 Ty.by64 Ty.so64 Ty.tk66 Ty.ct66 Ty.ek66 Ty.zv66 Ty.by66 Ty.so66 Ty.tk67 Ty.ik67 Ty.ek67 Ty.zv67 Ty.by67 Ty.so67 Ty.tk70 Ty.zv70 Ty.by70 Ty.so70 Ty.tk71 Ty.zv71 Ty.by71 Ty.so71 Ty.tk72 Ty.ik72 Ty.ek72 Ty.zv72 Ty.by72 Ty.so72 Ty.tk74 Ty.ct74 Ty.zv74 Ty.by74 Ty.so74 Ty.tk75 Ty.zv75 Ty.by75 Ty.so75 Ty.tk81 Ty.ct81 Ty.ek81 Ty.zv81 Ty.by81 Ty.so81 Ty.tk87 Ty.ct87 Ty.ek87 Ty.zv87 Ty.by87 Ty.so87 Ty.tk89 Ty.ct89 Ty.zv89 Ty.by89 Ty.so89 Ty.tk165 Ty.ct165 Ty.ek165 Ty.zv165 Ty.by165 Ty.so165 Ty.tk167 Ty.ct167 Ty.ek167 Ty.zv167 Ty.by167 Ty.so167 Ty.k22_e Ty.k35_e Ty.k64_e Ty.k66_e Ty.k70_e Ty.k71_e Ty.k74_e Ty.k75_e Ty.k81_e Ty.k87_e Ty.k89_e Ty.k165_e Ty.k167_e E.mk35_0 E.mk35_1000001 E.mk35_1000002 E.mk35_1000000 E.fz35_0 E.fi35_0 E.lb35_0 lk_query_Scan_37 lk_query_Scan_41 lk_query_Scan_119 s_query_CheckAsk_run s_catalog_Check_run s_query_grade_run loopN loops Try.f35
def Q0_p_query_Scan_l0 (a0 : List (Int × ((Int × Int × Bool × Unit) × (Int × Int × Bool × Unit) × (Int × Int × Bool × Unit) × Unit) × (Int × Int × Bool × Unit) × (Int × Int × Bool × Unit) × (List Int) × Int × Unit)) (a1_0 : List ((Int × Int × Int × Unit) × Int × Unit)) (a1_1 : Int) (a1_2 : Int) (a1_3 : Int) (a1_4 : Int) (u : List (Int × Int × Unit)) (z : Out) : Prop := ∃ env st, z = some (.exit 0, env, st) ∧ env = sp 42 0 [(8, gl 81 (0, 39) (st (0, 39)).ver (rowV k81.e u))] ∧ GlB (st (0, 39)) 81 (rowV k81.e u)
abbrev Q_p_query_Scan_l0 (a0 : List (Int × ((Int × Int × Bool × Unit) × (Int × Int × Bool × Unit) × (Int × Int × Bool × Unit) × Unit) × (Int × Int × Bool × Unit) × (Int × Int × Bool × Unit) × (List Int) × Int × Unit)) (a1_0 : List ((Int × Int × Int × Unit) × Int × Unit)) (a1_1 : Int) (a1_2 : Int) (a1_3 : Int) (a1_4 : Int) (o : List (Int × Int × Unit)) (z : Out) : Prop := Q0_p_query_Scan_l0 a0 a1_0 a1_1 a1_2 a1_3 a1_4 o z
theorem l_p_query_Scan_l0 (L : Nat) (hL : L ≤ 4611686018427387904) (a0 : List (Int × ((Int × Int × Bool × Unit) × (Int × Int × Bool × Unit) × (Int × Int × Bool × Unit) × Unit) × (Int × Int × Bool × Unit) × (Int × Int × Bool × Unit) × (List Int) × Int × Unit)) (a1_0 : List ((Int × Int × Int × Unit) × Int × Unit)) (a1_1 : Int) (a1_2 : Int) (a1_3 : Int) (a1_4 : Int) : ∀ (tl : List (Int × ((Int × Int × Bool × Unit) × (Int × Int × Bool × Unit) × (Int × Int × Bool × Unit) × Unit) × (Int × Int × Bool × Unit) × (Int × Int × Bool × Unit) × (List Int) × Int × Unit)) (n : Nat) (s4 : Int) (s6 : List (Int × Int × Unit)) (env : List V) (st : Store) (o : List (Int × Int × Unit)), tl.length < n → Rng a0 s4 tl → mask (maskOf en35.ms 0) env = sp 42 0 [(3, .p (0, 3) (st (0, 3)).ver 0 []), (8, gl 81 (0, 39) (st (0, 39)).ver (rowV k81.e s6)), (22, .d (.sl 89 (a0.map k89.e))), (23, .d (.int .i64 (a0.length : Int))), (24, .d (.int .i64 s4))] → Bk (st (0, 3)) 74 [.d (.agg 74 [.sl 167 (a1_0.map k167.e), .int .i64 a1_1, .int .i64 a1_2, .int .i64 a1_3, .int .i64 a1_4])] → GlB (st (0, 39)) 81 (rowV k81.e s6) → p_query_Scan_l0 L a1_0 a1_1 a1_2 a1_3 a1_4 tl s6 = some o →
    Q_p_query_Scan_l0 a0 a1_0 a1_1 a1_2 a1_3 a1_4 o (iter (evC Try.prog (G_query_Scan L) (evF Try.prog (G_query_Scan L) T_query_Scan L 0) L en35.ms 0 0 lb35_0) (maskOf en35.ms 0) n env st) := by
  intro tl
  induction tl with
  | nil =>
    intro n s4 s6 env st o hn hR he hb0 hb1 h
    obtain ⟨n, rfl⟩ : ∃ m, n = m + 1 := ⟨n - 1, by omega⟩
    obtain ⟨be0, bv0, bl0⟩ := hb0
    have g0 := rng_nil hR
    rw [iter, he]
    clear he
    generalize hK : iter _ _ n = K
    rw [p_query_Scan_l0] at h
    revert h
    rintro ⟨⟩
    simp only [go_sem, *]
    refine (⟨_, _, rfl, ?_, ?_⟩ : Q0_p_query_Scan_l0 _ _ _ _ _ _ _ _)
    all_goals simp only [go_sem, *]
  | cons x3 tl ih =>
    intro n s4 s6 env st o hn hR he hb0 hb1 h
    obtain ⟨n, rfl⟩ : ∃ m, n = m + 1 := ⟨n - 1, by omega⟩
    obtain ⟨be0, bv0, bl0⟩ := hb0
    replace ih : Hold _ := ih
    replace hR := rng_s hR
    obtain ⟨g0, g1, g2, g3, hR⟩ := hR
    rw [iter, he]
    clear he
    generalize hK : iter _ _ n = K
    rw [p_query_Scan_l0] at h
    revert h
    refine bnd_i fun r8 c1 => ?_
    refine cb_i (fun c2 => ?_) (fun c2 => ?_)
    · intro h
      simp only [go_sem, *]
      subst hK
      refine ih n (s4 + 1) s6 _ _ _ (by simp only [List.length_cons] at hn; omega) hR ?_ ?_ ?_ h
      all_goals simp only [go_sem, *]
    · refine rq_i fun c3 => ?_
      refine rq_i fun c4 => ?_
      intro h
      simp only [go_sem, *]
      subst hK
      refine ih n (s4 + 1) (s6 ++ [(x3.1, r8, ())]) _ _ _ (by simp only [List.length_cons] at hn; omega) hR ?_ ?_ ?_ h
      all_goals simp only [go_sem, *]
theorem e_query_Scan (L : Nat) (hL : L ≤ 4611686018427387904) (a0 : List (Int × ((Int × Int × Bool × Unit) × (Int × Int × Bool × Unit) × (Int × Int × Bool × Unit) × Unit) × (Int × Int × Bool × Unit) × (Int × Int × Bool × Unit) × (List Int) × Int × Unit)) (a1_0 : List ((Int × Int × Int × Unit) × Int × Unit)) (a1_1 : Int) (a1_2 : Int) (a1_3 : Int) (a1_4 : Int) (res : (List (Int × Int × Unit)) × Int) (h : p_query_Scan L a0 a1_0 a1_1 a1_2 a1_3 a1_4 = some res) : evTop Try.prog (G_query_Scan L) T_query_Scan L 1 35 [.sl 89 (a0.map k89.e), .agg 74 [.sl 167 (a1_0.map k167.e), .int .i64 a1_1, .int .i64 a1_2, .int .i64 a1_3, .int .i64 a1_4]] = some [.sl 81 (res.1.map k81.e), .int .i64 res.2] := by
  revert h
  unfold p_query_Scan evTop
  simp only [List.map]
  rw [evF_s (fn := Try.f35) (msk := en35.ms) (hT := by rfl) (hb := by rfl)]
  refine bnd_i fun r1 c1 => ?_
  refine cb_i (fun c2 => ?_) (fun c2 => ?_)
  · refine bnd_i fun r2 c3 => ?_
    refine cb_i (fun c4 => ?_) (fun c4 => ?_)
    · refine rq_i fun c5 => ?_
      refine bnd_i fun o9 ho6 => ?_
      intro h
      simp only [go_sem, *]
      generalize hz8 : iter _ _ _ _ _ = z7
      have hq9 : Q_p_query_Scan_l0 a0 a1_0 a1_1 a1_2 a1_3 a1_4 o9 z7 := by
        rw [← hz8]
        refine l_p_query_Scan_l0 L hL a0 a1_0 a1_1 a1_2 a1_3 a1_4 a0 L 0 ([]) _ _ _ c5 (rng_0 c5 hL) ?_ ?_ ?_ ho6
        all_goals simp only [go_sem, *]
      clear hz8 ho6
      obtain ⟨_, st10, rfl, rfl, k10⟩ := hq9
      revert h
      rintro ⟨⟩
      simp only [go_sem, *]
    · rintro ⟨⟩
      simp only [go_sem, *]
  · rintro ⟨⟩
    simp only [go_sem, *]
noncomputable def s_query_Scan (L : Nat) : Ev.Spec := specP (cCons k70 (cCons k74 cNil)) (fun x => p_query_Scan L x.1 x.2.1.1 x.2.1.2.1 x.2.1.2.2.1 x.2.1.2.2.2.1 x.2.1.2.2.2.2.1) (fun r => [.sl 81 (r.1.map k81.e), .int .i64 r.2])
theorem s_query_Scan_run (L : Nat) (a0 : List (Int × ((Int × Int × Bool × Unit) × (Int × Int × Bool × Unit) × (Int × Int × Bool × Unit) × Unit) × (Int × Int × Bool × Unit) × (Int × Int × Bool × Unit) × (List Int) × Int × Unit)) (a1_0 : List ((Int × Int × Int × Unit) × Int × Unit)) (a1_1 : Int) (a1_2 : Int) (a1_3 : Int) (a1_4 : Int) : (s_query_Scan L).run [.sl 89 (a0.map k89.e), .agg 74 [.sl 167 (a1_0.map k167.e), .int .i64 a1_1, .int .i64 a1_2, .int .i64 a1_3, .int .i64 a1_4]] = (p_query_Scan L a0 a1_0 a1_1 a1_2 a1_3 a1_4).map fun r => [.sl 81 (r.1.map k81.e), .int .i64 r.2] := specP_run (cCons k70 (cCons k74 cNil)) (fun x => p_query_Scan L x.1 x.2.1.1 x.2.1.2.1 x.2.1.2.2.1 x.2.1.2.2.2.1 x.2.1.2.2.2.2.1) (fun r => [.sl 81 (r.1.map k81.e), .int .i64 r.2]) (a0, (a1_0, a1_1, a1_2, a1_3, a1_4, ()), ())
theorem ok_query_Scan (L : Nat) (hL : L ≤ 4611686018427387904) : SpecOk Try.prog 35 (s_query_Scan L) := specP_ok mixed (Go_query_Scan L hL) (To_query_Scan L) fun x r h => ⟨L, 1, e_query_Scan L hL x.1 x.2.1.1 x.2.1.2.1 x.2.1.2.2.1 x.2.1.2.2.2.1 x.2.1.2.2.2.2.1 r h⟩
end Go.Proofs.Ytnojehmbiceceaa.P
end
section
set_option linter.unusedVariables false
set_option linter.unusedSimpArgs false
set_option maxRecDepth 100000
namespace Go.Proofs.Ytnojehmbiceceaa.E
open Go.Ev
noncomputable def en36 : Entry := ⟨Try.f36, [(0, mb 42 0 [3, 8, 22, 23, 24]), (1000001, mb 42 0 [8]), (1000002, mb 42 0 [3, 8, 22, 23, 24]), (1000000, mb 42 0 [4, 5])]⟩
theorem mk36_0 (vs : List V) : mask (maskOf en36.ms 0) vs = km 42 0 [3, 8, 22, 23, 24] vs := mask_mb _ _ _ _
theorem mk36_1000001 (vs : List V) : mask (maskOf en36.ms 1000001) vs = km 42 0 [8] vs := mask_mb _ _ _ _
theorem mk36_1000002 (vs : List V) : mask (maskOf en36.ms 1000002) vs = km 42 0 [3, 8, 22, 23, 24] vs := mask_mb _ _ _ _
theorem mk36_1000000 (vs : List V) : mask (maskOf en36.ms 1000000) vs = km 42 0 [4, 5] vs := mask_mb _ _ _ _
theorem fz36_0 (lv : Nat) (f : Run) : frzF en36.ms lv 0 f = f := nr rfl
theorem fi36_0 (lv : Nat) (env : List V) (st : Store) (q : Store → Out) : frzI en36.ms lv 0 env st q = q st := nr rfl
noncomputable def lb36_0 : Code := loopN Try.f36 0
end Go.Proofs.Ytnojehmbiceceaa.E
end
section
set_option linter.unusedVariables false
set_option linter.unusedSimpArgs false
set_option maxRecDepth 100000
namespace Go.Proofs.Ytnojehmbiceceaa.E
open Go.Ev
noncomputable def en120 : Entry := ⟨Try.f120, [(0, mb 100 0 [2, 5, 80, 81, 82]), (1000001, mb 100 0 [5]), (1000002, mb 100 0 [2, 5, 80, 81, 82]), (1000000, mb 100 0 [4])]⟩
theorem dw120_19 (lv : Nat) (env : List V) (st : Store) (o : Option (List V × Store)) : drawR en120.ms 19 lv env st o = if lv < 1000000000000000000000000000000 then (o) else none := nr rfl
theorem kl120_19 (lv : Nat) (st : Store) : killR en120.ms 19 lv st = st := nr rfl
theorem nc120_19 : ncOf en120.ms 19 = false := nr rfl
theorem mk120_0 (vs : List V) : mask (maskOf en120.ms 0) vs = km 100 0 [2, 5, 80, 81, 82] vs := mask_mb _ _ _ _
theorem mk120_1000001 (vs : List V) : mask (maskOf en120.ms 1000001) vs = km 100 0 [5] vs := mask_mb _ _ _ _
theorem mk120_1000002 (vs : List V) : mask (maskOf en120.ms 1000002) vs = km 100 0 [2, 5, 80, 81, 82] vs := mask_mb _ _ _ _
theorem mk120_1000000 (vs : List V) : mask (maskOf en120.ms 1000000) vs = km 100 0 [4] vs := mask_mb _ _ _ _
theorem fz120_0 (lv : Nat) (f : Run) : frzF en120.ms lv 0 f = f := nr rfl
theorem fi120_0 (lv : Nat) (env : List V) (st : Store) (q : Store → Out) : frzI en120.ms lv 0 env st q = q st := nr rfl
noncomputable def lb120_0 : Code := loopN Try.f120 0
end Go.Proofs.Ytnojehmbiceceaa.E
end
section
set_option linter.unusedVariables false
set_option linter.unusedSimpArgs false
set_option maxRecDepth 100000
namespace Go.Proofs.Ytnojehmbiceceaa.E
open Go.Ev
noncomputable def en191 : Entry := ⟨Try.f191, [(1000000, mb 32 0 [2]), (3000002, mb 32 0 [1, 3]), (4000002, mb 32 0 [4, 6, 8, 10, 11, 12, 13, 14, 15])]⟩
theorem dw191_2 (lv : Nat) (env : List V) (st : Store) (o : Option (List V × Store)) : drawR en191.ms 2 lv env st o = if lv < 1000000000000000000000000000000 then (if apartAll (sel (mb 32 0 [1, 3]) env) = true ∧ freeAll (sel (mb 32 0 [4, 6, 8, 10, 11, 12, 13, 14, 15]) env) = true then o else none) else none := nr rfl
theorem kl191_2 (lv : Nat) (st : Store) : killR en191.ms 2 lv st = st := nr rfl
theorem nc191_2 : ncOf en191.ms 2 = false := nr rfl
theorem mk191_1000000 (vs : List V) : mask (maskOf en191.ms 1000000) vs = km 32 0 [2] vs := mask_mb _ _ _ _
end Go.Proofs.Ytnojehmbiceceaa.E
end
section
set_option linter.unusedVariables false
set_option linter.unusedSimpArgs false
set_option maxRecDepth 100000
namespace Go.Proofs.Ytnojehmbiceceaa.P
open Go.Ev Go.IntKind Go.Proofs.Ytnojehmbiceceaa Go.Proofs.Ytnojehmbiceceaa.Ty Go.Proofs.Ytnojehmbiceceaa.E
def p_spyref3_exact (L : Nat) (a0_0 : Int) (a0_1 : Int) (a0_2 : Int) : Option (Int × Int × Bool × Int × Int × Bool × Int × Int × Bool) := some (a0_0, a0_0, false, a0_1, a0_1, false, a0_2, a0_2, false)
noncomputable def G_spyref3_exact (L : Nat) : Specs := []
noncomputable def T_spyref3_exact : Table := tableOf [(191, en191)]
theorem Go_spyref3_exact (L : Nat) (hL : L ≤ 4611686018427387904) : ∀ g s, Ev.look (G_spyref3_exact L) g = some s → SpecOk Try.prog g s := specs_nil
theorem To_spyref3_exact (L : Nat) : TableOk Try.prog ((G_spyref3_exact L).map (·.1)) T_spyref3_exact := (table_cons Try.func191 (by kernel_rfl) (by kernel_rfl) table_nil)
attribute [local go_sem] Ty.tk2 Ty.ik2 Ty.ek2 Ty.zv2 Ty.by2 Ty.so2 Ty.tk4 Ty.ub4 Ty.ek4 Ty.zv4 Ty.by4 Ty.so4 Ty.tk62 Ty.ik62 Ty.ek62 Ty.zv62 Ty.by62 Ty.so62 Ty.tk64 Ty.ct64 Ty.ek64 Ty.zv64 Ty.by64 Ty.so64 Ty.tk66 Ty.ct66 Ty.ek66 Ty.zv66 Ty.by66 Ty.so66 Ty.tk165 Ty.ct165 Ty.ek165 Ty.zv165 Ty.by165 Ty.so165 Ty.k64_e Ty.k66_e Ty.k165_e E.dw191_2 E.kl191_2 E.nc191_2 E.mk191_1000000 loopN loops Try.f191
theorem e_spyref3_exact (L : Nat) (hL : L ≤ 4611686018427387904) (a0_0 : Int) (a0_1 : Int) (a0_2 : Int) (res : Int × Int × Bool × Int × Int × Bool × Int × Int × Bool) (h : p_spyref3_exact L a0_0 a0_1 a0_2 = some res) : evTop Try.prog (G_spyref3_exact L) T_spyref3_exact L 1 191 [.agg 165 [.int .i64 a0_0, .int .i64 a0_1, .int .i64 a0_2]] = some [.agg 66 [.agg 64 [.int .i64 res.1, .int .i64 res.2.1, .bool res.2.2.1], .agg 64 [.int .i64 res.2.2.2.1, .int .i64 res.2.2.2.2.1, .bool res.2.2.2.2.2.1], .agg 64 [.int .i64 res.2.2.2.2.2.2.1, .int .i64 res.2.2.2.2.2.2.2.1, .bool res.2.2.2.2.2.2.2.2]]] := by
  revert h
  unfold p_spyref3_exact evTop
  simp only [List.map]
  rw [evF_s (fn := Try.f191) (msk := en191.ms) (hT := by rfl) (hb := by rfl)]
  rintro ⟨⟩
  simp only [go_sem, *]
noncomputable def s_spyref3_exact (L : Nat) : Ev.Spec := specP (cCons k165 cNil) (fun x => p_spyref3_exact L x.1.1 x.1.2.1 x.1.2.2.1) (fun r => [.agg 66 [.agg 64 [.int .i64 r.1, .int .i64 r.2.1, .bool r.2.2.1], .agg 64 [.int .i64 r.2.2.2.1, .int .i64 r.2.2.2.2.1, .bool r.2.2.2.2.2.1], .agg 64 [.int .i64 r.2.2.2.2.2.2.1, .int .i64 r.2.2.2.2.2.2.2.1, .bool r.2.2.2.2.2.2.2.2]]])
theorem s_spyref3_exact_run (L : Nat) (a0_0 : Int) (a0_1 : Int) (a0_2 : Int) : (s_spyref3_exact L).run [.agg 165 [.int .i64 a0_0, .int .i64 a0_1, .int .i64 a0_2]] = (p_spyref3_exact L a0_0 a0_1 a0_2).map fun r => [.agg 66 [.agg 64 [.int .i64 r.1, .int .i64 r.2.1, .bool r.2.2.1], .agg 64 [.int .i64 r.2.2.2.1, .int .i64 r.2.2.2.2.1, .bool r.2.2.2.2.2.1], .agg 64 [.int .i64 r.2.2.2.2.2.2.1, .int .i64 r.2.2.2.2.2.2.2.1, .bool r.2.2.2.2.2.2.2.2]]] := specP_run (cCons k165 cNil) (fun x => p_spyref3_exact L x.1.1 x.1.2.1 x.1.2.2.1) (fun r => [.agg 66 [.agg 64 [.int .i64 r.1, .int .i64 r.2.1, .bool r.2.2.1], .agg 64 [.int .i64 r.2.2.2.1, .int .i64 r.2.2.2.2.1, .bool r.2.2.2.2.2.1], .agg 64 [.int .i64 r.2.2.2.2.2.2.1, .int .i64 r.2.2.2.2.2.2.2.1, .bool r.2.2.2.2.2.2.2.2]]]) ((a0_0, a0_1, a0_2, ()), ())
theorem ok_spyref3_exact (L : Nat) (hL : L ≤ 4611686018427387904) : SpecOk Try.prog 191 (s_spyref3_exact L) := specP_ok mixed (Go_spyref3_exact L hL) (To_spyref3_exact L) fun x r h => ⟨L, 1, e_spyref3_exact L hL x.1.1 x.1.2.1 x.1.2.2.1 r h⟩
end Go.Proofs.Ytnojehmbiceceaa.P
end
section
set_option linter.unusedVariables false
set_option linter.unusedSimpArgs false
set_option maxRecDepth 100000
namespace Go.Proofs.Ytnojehmbiceceaa.E
open Go.Ev
noncomputable def en192 : Entry := ⟨Try.f192, [(0, mb 25 0 [0, 3, 4]), (1000001, mb 25 0 [3]), (1000002, mb 25 0 [0, 3, 4]), (1000000, mb 25 0 [2])]⟩
theorem mk192_0 (vs : List V) : mask (maskOf en192.ms 0) vs = km 25 0 [0, 3, 4] vs := mask_mb _ _ _ _
theorem mk192_1000001 (vs : List V) : mask (maskOf en192.ms 1000001) vs = km 25 0 [3] vs := mask_mb _ _ _ _
theorem mk192_1000002 (vs : List V) : mask (maskOf en192.ms 1000002) vs = km 25 0 [0, 3, 4] vs := mask_mb _ _ _ _
theorem mk192_1000000 (vs : List V) : mask (maskOf en192.ms 1000000) vs = km 25 0 [2] vs := mask_mb _ _ _ _
theorem fz192_0 (lv : Nat) (f : Run) : frzF en192.ms lv 0 f = f := nr rfl
theorem fi192_0 (lv : Nat) (env : List V) (st : Store) (q : Store → Out) : frzI en192.ms lv 0 env st q = q st := nr rfl
noncomputable def lb192_0 : Code := loopN Try.f192 0
end Go.Proofs.Ytnojehmbiceceaa.E
end
section
set_option linter.unusedVariables false
set_option linter.unusedSimpArgs false
set_option maxRecDepth 100000
namespace Go.Proofs.Ytnojehmbiceceaa.P
open Go.Ev Go.IntKind Go.Proofs.Ytnojehmbiceceaa Go.Proofs.Ytnojehmbiceceaa.Ty Go.Proofs.Ytnojehmbiceceaa.E
def p_slices_Min_int_l0 (L : Nat) (a0 : List Int) : Nat → Int → Int → Option Int
  | 0, _, _ => none
  | tl + 1, s4, s5 => if s5 < (a0.length : Int) then (bnd (idx a0 s5) fun x7 => p_slices_Min_int_l0 L a0 tl (minI s4 x7) (i64.wrap (s5 + 1))) else (some s4)
def p_slices_Min_int (L : Nat) (a0 : List Int) : Option Int := if (a0.length : Int) < 1 then (none) else (bnd (idx a0 0) fun x1 => bnd (p_slices_Min_int_l0 L a0 L x1 1) fun o8 => some o8)
noncomputable def G_slices_Min_int (L : Nat) : Specs := []
noncomputable def T_slices_Min_int : Table := tableOf [(192, en192)]
theorem Go_slices_Min_int (L : Nat) (hL : L ≤ 4611686018427387904) : ∀ g s, Ev.look (G_slices_Min_int L) g = some s → SpecOk Try.prog g s := specs_nil
theorem To_slices_Min_int (L : Nat) : TableOk Try.prog ((G_slices_Min_int L).map (·.1)) T_slices_Min_int := (table_cons Try.func192 (by kernel_rfl) (by kernel_rfl) table_nil)
attribute [local go_sem] Ty.tk3 Ty.ik3 Ty.ek3 Ty.zv3 Ty.by3 Ty.so3 Ty.tk4 Ty.ub4 Ty.ek4 Ty.zv4 Ty.by4 Ty.so4 Ty.tk20 Ty.by20 Ty.so20 Ty.tk22 Ty.zv22 Ty.by22 Ty.so22 Ty.k22_e E.mk192_0 E.mk192_1000001 E.mk192_1000002 E.mk192_1000000 E.fz192_0 E.fi192_0 E.lb192_0 loopN loops Try.f192
def Q0_p_slices_Min_int_l0 (a0 : List Int) (u : Int) (z : Out) : Prop := ∃ env st, z = some (.exit 0, env, st) ∧ env = sp 25 0 [(3, .d (.int .i64 u))]
abbrev Q_p_slices_Min_int_l0 (a0 : List Int) (o : Int) (z : Out) : Prop := Q0_p_slices_Min_int_l0 a0 o z
theorem l_p_slices_Min_int_l0 (L : Nat) (hL : L ≤ 4611686018427387904) (a0 : List Int) : ∀ (n : Nat) (s4 : Int) (s5 : Int) (env : List V) (st : Store) (o : Int), mask (maskOf en192.ms 0) env = sp 25 0 [(0, .d (.sl 3 (a0.map (D.int .i64)))), (3, .d (.int .i64 s4)), (4, .d (.int .i64 s5))] → p_slices_Min_int_l0 L a0 n s4 s5 = some o →
    Q_p_slices_Min_int_l0 a0 o (iter (evC Try.prog (G_slices_Min_int L) (evF Try.prog (G_slices_Min_int L) T_slices_Min_int L 0) L en192.ms 0 0 lb192_0) (maskOf en192.ms 0) n env st) := by
  intro n
  induction n with
  | zero => intro s4 s5 env st o he  h; cases h
  | succ n ih =>
    intro s4 s5 env st o he  h
    replace ih : Hold _ := ih
    rw [iter, he]
    clear he
    generalize hK : iter _ _ n = K
    rw [p_slices_Min_int_l0] at h
    revert h
    refine ite_i (fun c1 => ?_) (fun c1 => ?_)
    · refine idx_i fun x7 c2 c3 c4 => ?_
      intro h
      simp only [go_sem, *]
      subst hK
      refine ih  (minI s4 x7) (i64.wrap (s5 + 1)) _ _ _ ?_ h
      all_goals simp only [go_sem, *]
    · rintro ⟨⟩
      simp only [go_sem, *]
      refine (⟨_, _, rfl, ?_⟩ : Q0_p_slices_Min_int_l0 _ _ _)
      all_goals simp only [go_sem, *]
theorem e_slices_Min_int (L : Nat) (hL : L ≤ 4611686018427387904) (a0 : List Int) (res : Int) (h : p_slices_Min_int L a0 = some res) : evTop Try.prog (G_slices_Min_int L) T_slices_Min_int L 1 192 [.sl 3 (a0.map (D.int .i64))] = some [.int .i64 res] := by
  revert h
  unfold p_slices_Min_int evTop
  simp only [List.map]
  rw [evF_s (fn := Try.f192) (msk := en192.ms) (hT := by rfl) (hb := by rfl)]
  refine ite_i (fun c1 => ?_) (fun c1 => ?_)
  · intro h; cases h
  · refine idx_i fun x1 c2 c3 c4 => ?_
    have c4 : a0[0]? = some x1 := c4
    refine bnd_i fun o8 ho5 => ?_
    intro h
    simp only [go_sem, *]
    generalize hz7 : iter _ _ _ _ _ = z6
    have hq8 : Q_p_slices_Min_int_l0 a0 o8 z6 := by
      rw [← hz7]
      refine l_p_slices_Min_int_l0 L hL a0 L x1 1 _ _ _  ?_ ho5
      all_goals simp only [go_sem, *]
    clear hz7 ho5
    obtain ⟨_, st9, rfl, rfl⟩ := hq8
    revert h
    rintro ⟨⟩
    simp only [go_sem, *]
noncomputable def s_slices_Min_int (L : Nat) : Ev.Spec := specP (cCons k22 cNil) (fun x => p_slices_Min_int L x.1) (fun r => [.int .i64 r])
theorem s_slices_Min_int_run (L : Nat) (a0 : List Int) : (s_slices_Min_int L).run [.sl 3 (a0.map (D.int .i64))] = (p_slices_Min_int L a0).map fun r => [.int .i64 r] := specP_run (cCons k22 cNil) (fun x => p_slices_Min_int L x.1) (fun r => [.int .i64 r]) (a0, ())
theorem ok_slices_Min_int (L : Nat) (hL : L ≤ 4611686018427387904) : SpecOk Try.prog 192 (s_slices_Min_int L) := specP_ok mixed (Go_slices_Min_int L hL) (To_slices_Min_int L) fun x r h => ⟨L, 1, e_slices_Min_int L hL x.1 r h⟩
end Go.Proofs.Ytnojehmbiceceaa.P
end
section
set_option linter.unusedVariables false
set_option linter.unusedSimpArgs false
set_option maxRecDepth 100000
set_option maxHeartbeats 4000000
namespace Go.Proofs.Ytnojehmbiceceaa.P
open Go.Ev Go.IntKind Go.Proofs.Ytnojehmbiceceaa Go.Proofs.Ytnojehmbiceceaa.Ty Go.Proofs.Ytnojehmbiceceaa.E
def p_spyref3_Grade_l0 (L : Nat) (a0_1_0_0 : Int) (a0_1_0_1 : Int) (a0_1_0_2 : Bool) (a0_1_1_0 : Int) (a0_1_1_1 : Int) (a0_1_1_2 : Bool) (a0_1_2_0 : Int) (a0_1_2_1 : Int) (a0_1_2_2 : Bool) : List ((Int × Int × Int × Unit) × Int × Unit) → (List Int) → Option (List Int)
  | [], s8 => some s8
  | x1 :: tl, s8 => bnd (p_spyref3_exact L x1.1.1 x1.1.2.1 x1.1.2.2.1) fun r11 => bnd (p_spyref3_Close L a0_1_0_0 a0_1_0_1 a0_1_0_2 a0_1_1_0 a0_1_1_1 a0_1_1_2 a0_1_2_0 a0_1_2_1 a0_1_2_2 r11.1 r11.2.1 r11.2.2.1 r11.2.2.2.1 r11.2.2.2.2.1 r11.2.2.2.2.2.1 r11.2.2.2.2.2.2.1 r11.2.2.2.2.2.2.2.1 r11.2.2.2.2.2.2.2.2 x1.2.1) fun r12 => rq (s8.length + 1 ≤ maxRow) <| rq ((s8.length + 1) * 8 ≤ maxRow) <| p_spyref3_Grade_l0 L a0_1_0_0 a0_1_0_1 a0_1_0_2 a0_1_1_0 a0_1_1_1 a0_1_1_2 a0_1_2_0 a0_1_2_1 a0_1_2_2 tl (s8 ++ [r12])
def p_spyref3_Grade (L : Nat) (a0_0 : Int) (a0_1_0_0 : Int) (a0_1_0_1 : Int) (a0_1_0_2 : Bool) (a0_1_1_0 : Int) (a0_1_1_1 : Int) (a0_1_1_2 : Bool) (a0_1_2_0 : Int) (a0_1_2_1 : Int) (a0_1_2_2 : Bool) (a0_2_0 : Int) (a0_2_1 : Int) (a0_2_2 : Bool) (a0_3_0 : Int) (a0_3_1 : Int) (a0_3_2 : Bool) (a0_4 : List Int) (a0_5 : Int) (a1_0 : List ((Int × Int × Int × Unit) × Int × Unit)) (a1_1 : Int) (a1_2 : Int) (a1_3 : Int) (a1_4 : Int) : Option Int := if (bitsI .and .i64 a0_5 a1_4) > 0 then (some 0) else (cb a0_3_2 (cb a0_2_2 (rq (a1_0.length < L) <| bnd (p_spyref3_Grade_l0 L a0_1_0_0 a0_1_0_1 a0_1_0_2 a0_1_1_0 a0_1_1_1 a0_1_1_2 a0_1_2_0 a0_1_2_1 a0_1_2_2 a1_0 ([2, 1, 1])) fun o13 => bnd (p_slices_Min_int L o13) fun r15 => some r15) (if a0_2_1 < a1_3 then (rq (a1_0.length < L) <| bnd (p_spyref3_Grade_l0 L a0_1_0_0 a0_1_0_1 a0_1_0_2 a0_1_1_0 a0_1_1_1 a0_1_1_2 a0_1_2_0 a0_1_2_1 a0_1_2_2 a1_0 ([2, 1, 0])) fun o28 => bnd (p_slices_Min_int L o28) fun r30 => some r30) else (if a0_2_0 < a1_3 then (rq (a1_0.length < L) <| bnd (p_spyref3_Grade_l0 L a0_1_0_0 a0_1_0_1 a0_1_0_2 a0_1_1_0 a0_1_1_1 a0_1_1_2 a0_1_2_0 a0_1_2_1 a0_1_2_2 a1_0 ([2, 1, 1])) fun o43 => bnd (p_slices_Min_int L o43) fun r45 => some r45) else (rq (a1_0.length < L) <| bnd (p_spyref3_Grade_l0 L a0_1_0_0 a0_1_0_1 a0_1_0_2 a0_1_1_0 a0_1_1_1 a0_1_1_2 a0_1_2_0 a0_1_2_1 a0_1_2_2 a1_0 ([2, 1])) fun o58 => bnd (p_slices_Min_int L o58) fun r60 => some r60)))) (if a0_3_1 < a1_1 then (cb a0_2_2 (rq (a1_0.length < L) <| bnd (p_spyref3_Grade_l0 L a0_1_0_0 a0_1_0_1 a0_1_0_2 a0_1_1_0 a0_1_1_1 a0_1_1_2 a0_1_2_0 a0_1_2_1 a0_1_2_2 a1_0 ([2, 0, 1])) fun o73 => bnd (p_slices_Min_int L o73) fun r75 => some r75) (if a0_2_1 < a1_3 then (rq (a1_0.length < L) <| bnd (p_spyref3_Grade_l0 L a0_1_0_0 a0_1_0_1 a0_1_0_2 a0_1_1_0 a0_1_1_1 a0_1_1_2 a0_1_2_0 a0_1_2_1 a0_1_2_2 a1_0 ([2, 0, 0])) fun o88 => bnd (p_slices_Min_int L o88) fun r90 => some r90) else (if a0_2_0 < a1_3 then (rq (a1_0.length < L) <| bnd (p_spyref3_Grade_l0 L a0_1_0_0 a0_1_0_1 a0_1_0_2 a0_1_1_0 a0_1_1_1 a0_1_1_2 a0_1_2_0 a0_1_2_1 a0_1_2_2 a1_0 ([2, 0, 1])) fun o103 => bnd (p_slices_Min_int L o103) fun r105 => some r105) else (rq (a1_0.length < L) <| bnd (p_spyref3_Grade_l0 L a0_1_0_0 a0_1_0_1 a0_1_0_2 a0_1_1_0 a0_1_1_1 a0_1_1_2 a0_1_2_0 a0_1_2_1 a0_1_2_2 a1_0 ([2, 0])) fun o118 => bnd (p_slices_Min_int L o118) fun r120 => some r120)))) else (if a0_3_0 > a1_2 then (cb a0_2_2 (rq (a1_0.length < L) <| bnd (p_spyref3_Grade_l0 L a0_1_0_0 a0_1_0_1 a0_1_0_2 a0_1_1_0 a0_1_1_1 a0_1_1_2 a0_1_2_0 a0_1_2_1 a0_1_2_2 a1_0 ([2, 0, 1])) fun o133 => bnd (p_slices_Min_int L o133) fun r135 => some r135) (if a0_2_1 < a1_3 then (rq (a1_0.length < L) <| bnd (p_spyref3_Grade_l0 L a0_1_0_0 a0_1_0_1 a0_1_0_2 a0_1_1_0 a0_1_1_1 a0_1_1_2 a0_1_2_0 a0_1_2_1 a0_1_2_2 a1_0 ([2, 0, 0])) fun o148 => bnd (p_slices_Min_int L o148) fun r150 => some r150) else (if a0_2_0 < a1_3 then (rq (a1_0.length < L) <| bnd (p_spyref3_Grade_l0 L a0_1_0_0 a0_1_0_1 a0_1_0_2 a0_1_1_0 a0_1_1_1 a0_1_1_2 a0_1_2_0 a0_1_2_1 a0_1_2_2 a1_0 ([2, 0, 1])) fun o163 => bnd (p_slices_Min_int L o163) fun r165 => some r165) else (rq (a1_0.length < L) <| bnd (p_spyref3_Grade_l0 L a0_1_0_0 a0_1_0_1 a0_1_0_2 a0_1_1_0 a0_1_1_1 a0_1_1_2 a0_1_2_0 a0_1_2_1 a0_1_2_2 a1_0 ([2, 0])) fun o178 => bnd (p_slices_Min_int L o178) fun r180 => some r180)))) else (if a0_3_0 < a1_1 then (cb a0_2_2 (rq (a1_0.length < L) <| bnd (p_spyref3_Grade_l0 L a0_1_0_0 a0_1_0_1 a0_1_0_2 a0_1_1_0 a0_1_1_1 a0_1_1_2 a0_1_2_0 a0_1_2_1 a0_1_2_2 a1_0 ([2, 1, 1])) fun o193 => bnd (p_slices_Min_int L o193) fun r195 => some r195) (if a0_2_1 < a1_3 then (rq (a1_0.length < L) <| bnd (p_spyref3_Grade_l0 L a0_1_0_0 a0_1_0_1 a0_1_0_2 a0_1_1_0 a0_1_1_1 a0_1_1_2 a0_1_2_0 a0_1_2_1 a0_1_2_2 a1_0 ([2, 1, 0])) fun o208 => bnd (p_slices_Min_int L o208) fun r210 => some r210) else (if a0_2_0 < a1_3 then (rq (a1_0.length < L) <| bnd (p_spyref3_Grade_l0 L a0_1_0_0 a0_1_0_1 a0_1_0_2 a0_1_1_0 a0_1_1_1 a0_1_1_2 a0_1_2_0 a0_1_2_1 a0_1_2_2 a1_0 ([2, 1, 1])) fun o223 => bnd (p_slices_Min_int L o223) fun r225 => some r225) else (rq (a1_0.length < L) <| bnd (p_spyref3_Grade_l0 L a0_1_0_0 a0_1_0_1 a0_1_0_2 a0_1_1_0 a0_1_1_1 a0_1_1_2 a0_1_2_0 a0_1_2_1 a0_1_2_2 a1_0 ([2, 1])) fun o238 => bnd (p_slices_Min_int L o238) fun r240 => some r240)))) else (if a0_3_1 > a1_2 then (cb a0_2_2 (rq (a1_0.length < L) <| bnd (p_spyref3_Grade_l0 L a0_1_0_0 a0_1_0_1 a0_1_0_2 a0_1_1_0 a0_1_1_1 a0_1_1_2 a0_1_2_0 a0_1_2_1 a0_1_2_2 a1_0 ([2, 1, 1])) fun o253 => bnd (p_slices_Min_int L o253) fun r255 => some r255) (if a0_2_1 < a1_3 then (rq (a1_0.length < L) <| bnd (p_spyref3_Grade_l0 L a0_1_0_0 a0_1_0_1 a0_1_0_2 a0_1_1_0 a0_1_1_1 a0_1_1_2 a0_1_2_0 a0_1_2_1 a0_1_2_2 a1_0 ([2, 1, 0])) fun o268 => bnd (p_slices_Min_int L o268) fun r270 => some r270) else (if a0_2_0 < a1_3 then (rq (a1_0.length < L) <| bnd (p_spyref3_Grade_l0 L a0_1_0_0 a0_1_0_1 a0_1_0_2 a0_1_1_0 a0_1_1_1 a0_1_1_2 a0_1_2_0 a0_1_2_1 a0_1_2_2 a1_0 ([2, 1, 1])) fun o283 => bnd (p_slices_Min_int L o283) fun r285 => some r285) else (rq (a1_0.length < L) <| bnd (p_spyref3_Grade_l0 L a0_1_0_0 a0_1_0_1 a0_1_0_2 a0_1_1_0 a0_1_1_1 a0_1_1_2 a0_1_2_0 a0_1_2_1 a0_1_2_2 a1_0 ([2, 1])) fun o298 => bnd (p_slices_Min_int L o298) fun r300 => some r300)))) else (cb a0_2_2 (rq (a1_0.length < L) <| bnd (p_spyref3_Grade_l0 L a0_1_0_0 a0_1_0_1 a0_1_0_2 a0_1_1_0 a0_1_1_1 a0_1_1_2 a0_1_2_0 a0_1_2_1 a0_1_2_2 a1_0 ([2, 1])) fun o313 => bnd (p_slices_Min_int L o313) fun r315 => some r315) (if a0_2_1 < a1_3 then (rq (a1_0.length < L) <| bnd (p_spyref3_Grade_l0 L a0_1_0_0 a0_1_0_1 a0_1_0_2 a0_1_1_0 a0_1_1_1 a0_1_1_2 a0_1_2_0 a0_1_2_1 a0_1_2_2 a1_0 ([2, 0])) fun o328 => bnd (p_slices_Min_int L o328) fun r330 => some r330) else (if a0_2_0 < a1_3 then (rq (a1_0.length < L) <| bnd (p_spyref3_Grade_l0 L a0_1_0_0 a0_1_0_1 a0_1_0_2 a0_1_1_0 a0_1_1_1 a0_1_1_2 a0_1_2_0 a0_1_2_1 a0_1_2_2 a1_0 ([2, 1])) fun o343 => bnd (p_slices_Min_int L o343) fun r345 => some r345) else (rq (a1_0.length < L) <| bnd (p_spyref3_Grade_l0 L a0_1_0_0 a0_1_0_1 a0_1_0_2 a0_1_1_0 a0_1_1_1 a0_1_1_2 a0_1_2_0 a0_1_2_1 a0_1_2_2 a1_0 ([2])) fun o358 => bnd (p_slices_Min_int L o358) fun r360 => some r360)))))))))
noncomputable def G_spyref3_Grade (L : Nat) : Specs := [(34, s_spyref3_Close L), (191, s_spyref3_exact L), (192, s_slices_Min_int L)]
noncomputable def T_spyref3_Grade : Table := tableOf [(120, en120)]
theorem Go_spyref3_Grade (L : Nat) (hL : L ≤ 4611686018427387904) : ∀ g s, Ev.look (G_spyref3_Grade L) g = some s → SpecOk Try.prog g s := (specs_cons (ok_spyref3_Close L hL) (specs_cons (ok_spyref3_exact L hL) (specs_cons (ok_slices_Min_int L hL) specs_nil)))
theorem To_spyref3_Grade (L : Nat) : TableOk Try.prog ((G_spyref3_Grade L).map (·.1)) T_spyref3_Grade := (table_cons Try.func120 (by kernel_rfl) (by kernel_rfl) table_nil)
theorem lk_spyref3_Grade_34 (L : Nat) : Ev.look (G_spyref3_Grade L) 34 = some (s_spyref3_Close L) := nr rfl
theorem lk_spyref3_Grade_191 (L : Nat) : Ev.look (G_spyref3_Grade L) 191 = some (s_spyref3_exact L) := nr rfl
theorem lk_spyref3_Grade_192 (L : Nat) : Ev.look (G_spyref3_Grade L) 192 = some (s_slices_Min_int L) := nr rfl
attribute [local go_sem] Ty.tk2 Ty.ik2 Ty.ek2 Ty.zv2 Ty.by2 Ty.so2 Ty.tk3 Ty.ik3 Ty.ek3 Ty.zv3 Ty.by3 Ty.so3 Ty.tk4 Ty.ub4 Ty.ek4 Ty.zv4 Ty.by4 Ty.so4 Ty.tk22 Ty.zv22 Ty.by22 Ty.so22 Ty.tk24 Ty.ik24 Ty.ek24 Ty.zv24 Ty.by24 Ty.so24 Ty.tk35 Ty.ct35 Ty.ek35 Ty.zv35 Ty.by35 Ty.so35 Ty.tk62 Ty.ik62 Ty.ek62 Ty.zv62 Ty.by62 Ty.so62 Ty.tk64 Ty.ct64 Ty.ek64 Ty.zv64 Ty.by64 Ty.so64 Ty.tk66 Ty.ct66 Ty.ek66 Ty.zv66 Ty.by66 Ty.so66 Ty.tk67 Ty.ik67 Ty.ek67 Ty.zv67 Ty.by67 Ty.so67 Ty.tk71 Ty.zv71 Ty.by71 Ty.so71 Ty.tk72 Ty.ik72 Ty.ek72 Ty.zv72 Ty.by72 Ty.so72 Ty.tk74 Ty.ct74 Ty.zv74 Ty.by74 Ty.so74 Ty.tk87 Ty.ct87 Ty.ek87 Ty.zv87 Ty.by87 Ty.so87 Ty.tk89 Ty.ct89 Ty.zv89 Ty.by89 Ty.so89 Ty.tk165 Ty.ct165 Ty.ek165 Ty.zv165 Ty.by165 Ty.so165 Ty.tk167 Ty.ct167 Ty.ek167 Ty.zv167 Ty.by167 Ty.so167 Ty.k22_e Ty.k35_e Ty.k64_e Ty.k66_e Ty.k71_e Ty.k74_e Ty.k87_e Ty.k89_e Ty.k165_e Ty.k167_e E.dw120_19 E.kl120_19 E.nc120_19 E.mk120_0 E.mk120_1000001 E.mk120_1000002 E.mk120_1000000 E.fz120_0 E.fi120_0 E.lb120_0 lk_spyref3_Grade_34 lk_spyref3_Grade_191 lk_spyref3_Grade_192 s_spyref3_Close_run s_spyref3_exact_run s_slices_Min_int_run loopN loops Try.f120
def Q0_p_spyref3_Grade_l0 (a1_0 : List ((Int × Int × Int × Unit) × Int × Unit)) (a0_0 : Int) (a0_1_0_0 : Int) (a0_1_0_1 : Int) (a0_1_0_2 : Bool) (a0_1_1_0 : Int) (a0_1_1_1 : Int) (a0_1_1_2 : Bool) (a0_1_2_0 : Int) (a0_1_2_1 : Int) (a0_1_2_2 : Bool) (a0_2_0 : Int) (a0_2_1 : Int) (a0_2_2 : Bool) (a0_3_0 : Int) (a0_3_1 : Int) (a0_3_2 : Bool) (a0_4 : List Int) (a0_5 : Int) (u : List Int) (z : Out) : Prop := ∃ env st, z = some (.exit 0, env, st) ∧ env = sp 100 0 [(5, .rs 3 (0, 14) (st (0, 14)).ver 0 u.length true)] ∧ Bk (st (0, 14)) 3 (rowV (D.int .i64) u)
abbrev Q_p_spyref3_Grade_l0 (a1_0 : List ((Int × Int × Int × Unit) × Int × Unit)) (a0_0 : Int) (a0_1_0_0 : Int) (a0_1_0_1 : Int) (a0_1_0_2 : Bool) (a0_1_1_0 : Int) (a0_1_1_1 : Int) (a0_1_1_2 : Bool) (a0_1_2_0 : Int) (a0_1_2_1 : Int) (a0_1_2_2 : Bool) (a0_2_0 : Int) (a0_2_1 : Int) (a0_2_2 : Bool) (a0_3_0 : Int) (a0_3_1 : Int) (a0_3_2 : Bool) (a0_4 : List Int) (a0_5 : Int) (o : List Int) (z : Out) : Prop := Q0_p_spyref3_Grade_l0 a1_0 a0_0 a0_1_0_0 a0_1_0_1 a0_1_0_2 a0_1_1_0 a0_1_1_1 a0_1_1_2 a0_1_2_0 a0_1_2_1 a0_1_2_2 a0_2_0 a0_2_1 a0_2_2 a0_3_0 a0_3_1 a0_3_2 a0_4 a0_5 o z
theorem l_p_spyref3_Grade_l0 (L : Nat) (hL : L ≤ 4611686018427387904) (a1_0 : List ((Int × Int × Int × Unit) × Int × Unit)) (a0_0 : Int) (a0_1_0_0 : Int) (a0_1_0_1 : Int) (a0_1_0_2 : Bool) (a0_1_1_0 : Int) (a0_1_1_1 : Int) (a0_1_1_2 : Bool) (a0_1_2_0 : Int) (a0_1_2_1 : Int) (a0_1_2_2 : Bool) (a0_2_0 : Int) (a0_2_1 : Int) (a0_2_2 : Bool) (a0_3_0 : Int) (a0_3_1 : Int) (a0_3_2 : Bool) (a0_4 : List Int) (a0_5 : Int) : ∀ (tl : List ((Int × Int × Int × Unit) × Int × Unit)) (n : Nat) (s2 : Int) (s8 : List Int) (env : List V) (st : Store) (o : List Int), tl.length < n → Rng a1_0 s2 tl → mask (maskOf en120.ms 0) env = sp 100 0 [(2, .p (0, 2) (st (0, 2)).ver 0 []), (5, .rs 3 (0, 14) (st (0, 14)).ver 0 s8.length true), (80, .d (.sl 167 (a1_0.map k167.e))), (81, .d (.int .i64 (a1_0.length : Int))), (82, .d (.int .i64 s2))] → Bk (st (0, 2)) 89 [.d (.agg 89 [.int .i64 a0_0, .agg 66 [.agg 64 [.int .i64 a0_1_0_0, .int .i64 a0_1_0_1, .bool a0_1_0_2], .agg 64 [.int .i64 a0_1_1_0, .int .i64 a0_1_1_1, .bool a0_1_1_2], .agg 64 [.int .i64 a0_1_2_0, .int .i64 a0_1_2_1, .bool a0_1_2_2]], .agg 35 [.int .i64 a0_2_0, .int .i64 a0_2_1, .bool a0_2_2], .agg 87 [.int .i64 a0_3_0, .int .i64 a0_3_1, .bool a0_3_2], .sl 3 (a0_4.map (D.int .i64)), .int .i64 a0_5])] → Bk (st (0, 14)) 3 (rowV (D.int .i64) s8) → p_spyref3_Grade_l0 L a0_1_0_0 a0_1_0_1 a0_1_0_2 a0_1_1_0 a0_1_1_1 a0_1_1_2 a0_1_2_0 a0_1_2_1 a0_1_2_2 tl s8 = some o →
    Q_p_spyref3_Grade_l0 a1_0 a0_0 a0_1_0_0 a0_1_0_1 a0_1_0_2 a0_1_1_0 a0_1_1_1 a0_1_1_2 a0_1_2_0 a0_1_2_1 a0_1_2_2 a0_2_0 a0_2_1 a0_2_2 a0_3_0 a0_3_1 a0_3_2 a0_4 a0_5 o (iter (evC Try.prog (G_spyref3_Grade L) (evF Try.prog (G_spyref3_Grade L) T_spyref3_Grade L 0) L en120.ms 0 0 lb120_0) (maskOf en120.ms 0) n env st) := by
  intro tl
  induction tl with
  | nil =>
    intro n s2 s8 env st o hn hR he hb0 hb1 h
    obtain ⟨n, rfl⟩ : ∃ m, n = m + 1 := ⟨n - 1, by omega⟩
    obtain ⟨be0, bv0, bl0⟩ := hb0
    obtain ⟨be1, bv1, bl1⟩ := hb1
    generalize hQ : Q_p_spyref3_Grade_l0 a1_0 a0_0 a0_1_0_0 a0_1_0_1 a0_1_0_2 a0_1_1_0 a0_1_1_1 a0_1_1_2 a0_1_2_0 a0_1_2_1 a0_1_2_2 a0_2_0 a0_2_1 a0_2_2 a0_3_0 a0_3_1 a0_3_2 a0_4 a0_5 = Q
    have g0 := rng_nil hR
    rw [iter, he]
    clear he
    generalize hK : iter _ _ n = K
    rw [p_spyref3_Grade_l0] at h
    revert h
    rintro ⟨⟩
    simp only [go_sem, *]
    subst hQ
    refine (⟨_, _, rfl, ?_, ?_⟩ : Q0_p_spyref3_Grade_l0 _ _ _ _ _ _ _ _ _ _ _ _ _ _ _ _ _ _ _ _ _)
    all_goals simp only [go_sem, *]
  | cons x1 tl ih =>
    intro n s2 s8 env st o hn hR he hb0 hb1 h
    obtain ⟨n, rfl⟩ : ∃ m, n = m + 1 := ⟨n - 1, by omega⟩
    obtain ⟨be0, bv0, bl0⟩ := hb0
    obtain ⟨be1, bv1, bl1⟩ := hb1
    generalize hQ : Q_p_spyref3_Grade_l0 a1_0 a0_0 a0_1_0_0 a0_1_0_1 a0_1_0_2 a0_1_1_0 a0_1_1_1 a0_1_1_2 a0_1_2_0 a0_1_2_1 a0_1_2_2 a0_2_0 a0_2_1 a0_2_2 a0_3_0 a0_3_1 a0_3_2 a0_4 a0_5 = Q at ih ⊢
    replace ih : Hold _ := ih
    replace hR := rng_s hR
    obtain ⟨g0, g1, g2, g3, hR⟩ := hR
    rw [iter, he]
    clear he
    generalize hK : iter _ _ n = K
    rw [p_spyref3_Grade_l0] at h
    revert h
    refine bnd_i fun r11 c1 => ?_
    refine bnd_i fun r12 c2 => ?_
    refine rq_i fun c3 => ?_
    refine rq_i fun c4 => ?_
    intro h
    simp only [go_sem, *]
    subst hK
    refine ih n (s2 + 1) (s8 ++ [r12]) _ _ _ (by simp only [List.length_cons] at hn; omega) hR ?_ ?_ ?_ h
    all_goals simp only [go_sem, *]
theorem e_spyref3_Grade (L : Nat) (hL : L ≤ 4611686018427387904) (a0_0 : Int) (a0_1_0_0 : Int) (a0_1_0_1 : Int) (a0_1_0_2 : Bool) (a0_1_1_0 : Int) (a0_1_1_1 : Int) (a0_1_1_2 : Bool) (a0_1_2_0 : Int) (a0_1_2_1 : Int) (a0_1_2_2 : Bool) (a0_2_0 : Int) (a0_2_1 : Int) (a0_2_2 : Bool) (a0_3_0 : Int) (a0_3_1 : Int) (a0_3_2 : Bool) (a0_4 : List Int) (a0_5 : Int) (a1_0 : List ((Int × Int × Int × Unit) × Int × Unit)) (a1_1 : Int) (a1_2 : Int) (a1_3 : Int) (a1_4 : Int) (res : Int) (h : p_spyref3_Grade L a0_0 a0_1_0_0 a0_1_0_1 a0_1_0_2 a0_1_1_0 a0_1_1_1 a0_1_1_2 a0_1_2_0 a0_1_2_1 a0_1_2_2 a0_2_0 a0_2_1 a0_2_2 a0_3_0 a0_3_1 a0_3_2 a0_4 a0_5 a1_0 a1_1 a1_2 a1_3 a1_4 = some res) : evTop Try.prog (G_spyref3_Grade L) T_spyref3_Grade L 1 120 [.agg 89 [.int .i64 a0_0, .agg 66 [.agg 64 [.int .i64 a0_1_0_0, .int .i64 a0_1_0_1, .bool a0_1_0_2], .agg 64 [.int .i64 a0_1_1_0, .int .i64 a0_1_1_1, .bool a0_1_1_2], .agg 64 [.int .i64 a0_1_2_0, .int .i64 a0_1_2_1, .bool a0_1_2_2]], .agg 35 [.int .i64 a0_2_0, .int .i64 a0_2_1, .bool a0_2_2], .agg 87 [.int .i64 a0_3_0, .int .i64 a0_3_1, .bool a0_3_2], .sl 3 (a0_4.map (D.int .i64)), .int .i64 a0_5], .agg 74 [.sl 167 (a1_0.map k167.e), .int .i64 a1_1, .int .i64 a1_2, .int .i64 a1_3, .int .i64 a1_4]] = some [.int .i64 res] := by
  revert h
  unfold p_spyref3_Grade evTop
  simp only [List.map]
  rw [evF_s (fn := Try.f120) (msk := en120.ms) (hT := by rfl) (hb := by rfl)]
  refine ite_i (fun c1 => ?_) (fun c1 => ?_)
  · rintro ⟨⟩
    simp only [go_sem, *]
  · refine cb_i (fun c2 => ?_) (fun c2 => ?_)
    · refine cb_i (fun c3 => ?_) (fun c3 => ?_)
      · refine rq_i fun c4 => ?_
        refine bnd_i fun o13 ho5 => ?_
        intro h
        simp only [go_sem, *]
        generalize hz7 : iter _ _ _ _ _ = z6
        have hq8 : Q_p_spyref3_Grade_l0 a1_0 a0_0 a0_1_0_0 a0_1_0_1 a0_1_0_2 a0_1_1_0 a0_1_1_1 a0_1_1_2 a0_1_2_0 a0_1_2_1 a0_1_2_2 a0_2_0 a0_2_1 a0_2_2 a0_3_0 a0_3_1 a0_3_2 a0_4 a0_5 o13 z6 := by
          rw [← hz7]
          refine l_p_spyref3_Grade_l0 L hL a1_0 a0_0 a0_1_0_0 a0_1_0_1 a0_1_0_2 a0_1_1_0 a0_1_1_1 a0_1_1_2 a0_1_2_0 a0_1_2_1 a0_1_2_2 a0_2_0 a0_2_1 a0_2_2 a0_3_0 a0_3_1 a0_3_2 a0_4 a0_5 a1_0 L 0 ([2, 1, 1]) _ _ _ c4 (rng_0 c4 hL) ?_ ?_ ?_ ho5
          all_goals simp only [go_sem, *]
        clear hz7 ho5
        obtain ⟨_, st14, rfl, rfl, ⟨k91, k92, k93⟩⟩ := hq8
        revert h
        refine bnd_i fun r15 c10 => ?_
        rintro ⟨⟩
        simp only [go_sem, *]
      · refine ite_i (fun c11 => ?_) (fun c11 => ?_)
        · refine rq_i fun c12 => ?_
          refine bnd_i fun o28 ho13 => ?_
          intro h
          simp only [go_sem, *]
          generalize hz15 : iter _ _ _ _ _ = z14
          have hq16 : Q_p_spyref3_Grade_l0 a1_0 a0_0 a0_1_0_0 a0_1_0_1 a0_1_0_2 a0_1_1_0 a0_1_1_1 a0_1_1_2 a0_1_2_0 a0_1_2_1 a0_1_2_2 a0_2_0 a0_2_1 a0_2_2 a0_3_0 a0_3_1 a0_3_2 a0_4 a0_5 o28 z14 := by
            rw [← hz15]
            refine l_p_spyref3_Grade_l0 L hL a1_0 a0_0 a0_1_0_0 a0_1_0_1 a0_1_0_2 a0_1_1_0 a0_1_1_1 a0_1_1_2 a0_1_2_0 a0_1_2_1 a0_1_2_2 a0_2_0 a0_2_1 a0_2_2 a0_3_0 a0_3_1 a0_3_2 a0_4 a0_5 a1_0 L 0 ([2, 1, 0]) _ _ _ c12 (rng_0 c12 hL) ?_ ?_ ?_ ho13
            all_goals simp only [go_sem, *]
          clear hz15 ho13
          obtain ⟨_, st29, rfl, rfl, ⟨k171, k172, k173⟩⟩ := hq16
          revert h
          refine bnd_i fun r30 c18 => ?_
          rintro ⟨⟩
          simp only [go_sem, *]
        · refine ite_i (fun c19 => ?_) (fun c19 => ?_)
          · refine rq_i fun c20 => ?_
            refine bnd_i fun o43 ho21 => ?_
            intro h
            simp only [go_sem, *]
            generalize hz23 : iter _ _ _ _ _ = z22
            have hq24 : Q_p_spyref3_Grade_l0 a1_0 a0_0 a0_1_0_0 a0_1_0_1 a0_1_0_2 a0_1_1_0 a0_1_1_1 a0_1_1_2 a0_1_2_0 a0_1_2_1 a0_1_2_2 a0_2_0 a0_2_1 a0_2_2 a0_3_0 a0_3_1 a0_3_2 a0_4 a0_5 o43 z22 := by
              rw [← hz23]
              refine l_p_spyref3_Grade_l0 L hL a1_0 a0_0 a0_1_0_0 a0_1_0_1 a0_1_0_2 a0_1_1_0 a0_1_1_1 a0_1_1_2 a0_1_2_0 a0_1_2_1 a0_1_2_2 a0_2_0 a0_2_1 a0_2_2 a0_3_0 a0_3_1 a0_3_2 a0_4 a0_5 a1_0 L 0 ([2, 1, 1]) _ _ _ c20 (rng_0 c20 hL) ?_ ?_ ?_ ho21
              all_goals simp only [go_sem, *]
            clear hz23 ho21
            obtain ⟨_, st44, rfl, rfl, ⟨k251, k252, k253⟩⟩ := hq24
            revert h
            refine bnd_i fun r45 c26 => ?_
            rintro ⟨⟩
            simp only [go_sem, *]
          · refine rq_i fun c27 => ?_
            refine bnd_i fun o58 ho28 => ?_
            intro h
            simp only [go_sem, *]
            generalize hz30 : iter _ _ _ _ _ = z29
            have hq31 : Q_p_spyref3_Grade_l0 a1_0 a0_0 a0_1_0_0 a0_1_0_1 a0_1_0_2 a0_1_1_0 a0_1_1_1 a0_1_1_2 a0_1_2_0 a0_1_2_1 a0_1_2_2 a0_2_0 a0_2_1 a0_2_2 a0_3_0 a0_3_1 a0_3_2 a0_4 a0_5 o58 z29 := by
              rw [← hz30]
              refine l_p_spyref3_Grade_l0 L hL a1_0 a0_0 a0_1_0_0 a0_1_0_1 a0_1_0_2 a0_1_1_0 a0_1_1_1 a0_1_1_2 a0_1_2_0 a0_1_2_1 a0_1_2_2 a0_2_0 a0_2_1 a0_2_2 a0_3_0 a0_3_1 a0_3_2 a0_4 a0_5 a1_0 L 0 ([2, 1]) _ _ _ c27 (rng_0 c27 hL) ?_ ?_ ?_ ho28
              all_goals simp only [go_sem, *]
            clear hz30 ho28
            obtain ⟨_, st59, rfl, rfl, ⟨k321, k322, k323⟩⟩ := hq31
            revert h
            refine bnd_i fun r60 c33 => ?_
            rintro ⟨⟩
            simp only [go_sem, *]
    · refine ite_i (fun c34 => ?_) (fun c34 => ?_)
      · refine cb_i (fun c35 => ?_) (fun c35 => ?_)
        · refine rq_i fun c36 => ?_
          refine bnd_i fun o73 ho37 => ?_
          intro h
          simp only [go_sem, *]
          generalize hz39 : iter _ _ _ _ _ = z38
          have hq40 : Q_p_spyref3_Grade_l0 a1_0 a0_0 a0_1_0_0 a0_1_0_1 a0_1_0_2 a0_1_1_0 a0_1_1_1 a0_1_1_2 a0_1_2_0 a0_1_2_1 a0_1_2_2 a0_2_0 a0_2_1 a0_2_2 a0_3_0 a0_3_1 a0_3_2 a0_4 a0_5 o73 z38 := by
            rw [← hz39]
            refine l_p_spyref3_Grade_l0 L hL a1_0 a0_0 a0_1_0_0 a0_1_0_1 a0_1_0_2 a0_1_1_0 a0_1_1_1 a0_1_1_2 a0_1_2_0 a0_1_2_1 a0_1_2_2 a0_2_0 a0_2_1 a0_2_2 a0_3_0 a0_3_1 a0_3_2 a0_4 a0_5 a1_0 L 0 ([2, 0, 1]) _ _ _ c36 (rng_0 c36 hL) ?_ ?_ ?_ ho37
            all_goals simp only [go_sem, *]
          clear hz39 ho37
          obtain ⟨_, st74, rfl, rfl, ⟨k411, k412, k413⟩⟩ := hq40
          revert h
          refine bnd_i fun r75 c42 => ?_
          rintro ⟨⟩
          simp only [go_sem, *]
        · refine ite_i (fun c43 => ?_) (fun c43 => ?_)
          · refine rq_i fun c44 => ?_
            refine bnd_i fun o88 ho45 => ?_
            intro h
            simp only [go_sem, *]
            generalize hz47 : iter _ _ _ _ _ = z46
            have hq48 : Q_p_spyref3_Grade_l0 a1_0 a0_0 a0_1_0_0 a0_1_0_1 a0_1_0_2 a0_1_1_0 a0_1_1_1 a0_1_1_2 a0_1_2_0 a0_1_2_1 a0_1_2_2 a0_2_0 a0_2_1 a0_2_2 a0_3_0 a0_3_1 a0_3_2 a0_4 a0_5 o88 z46 := by
              rw [← hz47]
              refine l_p_spyref3_Grade_l0 L hL a1_0 a0_0 a0_1_0_0 a0_1_0_1 a0_1_0_2 a0_1_1_0 a0_1_1_1 a0_1_1_2 a0_1_2_0 a0_1_2_1 a0_1_2_2 a0_2_0 a0_2_1 a0_2_2 a0_3_0 a0_3_1 a0_3_2 a0_4 a0_5 a1_0 L 0 ([2, 0, 0]) _ _ _ c44 (rng_0 c44 hL) ?_ ?_ ?_ ho45
              all_goals simp only [go_sem, *]
            clear hz47 ho45
            obtain ⟨_, st89, rfl, rfl, ⟨k491, k492, k493⟩⟩ := hq48
            revert h
            refine bnd_i fun r90 c50 => ?_
            rintro ⟨⟩
            simp only [go_sem, *]
          · refine ite_i (fun c51 => ?_) (fun c51 => ?_)
            · refine rq_i fun c52 => ?_
              refine bnd_i fun o103 ho53 => ?_
              intro h
              simp only [go_sem, *]
              generalize hz55 : iter _ _ _ _ _ = z54
              have hq56 : Q_p_spyref3_Grade_l0 a1_0 a0_0 a0_1_0_0 a0_1_0_1 a0_1_0_2 a0_1_1_0 a0_1_1_1 a0_1_1_2 a0_1_2_0 a0_1_2_1 a0_1_2_2 a0_2_0 a0_2_1 a0_2_2 a0_3_0 a0_3_1 a0_3_2 a0_4 a0_5 o103 z54 := by
                rw [← hz55]
                refine l_p_spyref3_Grade_l0 L hL a1_0 a0_0 a0_1_0_0 a0_1_0_1 a0_1_0_2 a0_1_1_0 a0_1_1_1 a0_1_1_2 a0_1_2_0 a0_1_2_1 a0_1_2_2 a0_2_0 a0_2_1 a0_2_2 a0_3_0 a0_3_1 a0_3_2 a0_4 a0_5 a1_0 L 0 ([2, 0, 1]) _ _ _ c52 (rng_0 c52 hL) ?_ ?_ ?_ ho53
                all_goals simp only [go_sem, *]
              clear hz55 ho53
              obtain ⟨_, st104, rfl, rfl, ⟨k571, k572, k573⟩⟩ := hq56
              revert h
              refine bnd_i fun r105 c58 => ?_
              rintro ⟨⟩
              simp only [go_sem, *]
            · refine rq_i fun c59 => ?_
              refine bnd_i fun o118 ho60 => ?_
              intro h
              simp only [go_sem, *]
              generalize hz62 : iter _ _ _ _ _ = z61
              have hq63 : Q_p_spyref3_Grade_l0 a1_0 a0_0 a0_1_0_0 a0_1_0_1 a0_1_0_2 a0_1_1_0 a0_1_1_1 a0_1_1_2 a0_1_2_0 a0_1_2_1 a0_1_2_2 a0_2_0 a0_2_1 a0_2_2 a0_3_0 a0_3_1 a0_3_2 a0_4 a0_5 o118 z61 := by
                rw [← hz62]
                refine l_p_spyref3_Grade_l0 L hL a1_0 a0_0 a0_1_0_0 a0_1_0_1 a0_1_0_2 a0_1_1_0 a0_1_1_1 a0_1_1_2 a0_1_2_0 a0_1_2_1 a0_1_2_2 a0_2_0 a0_2_1 a0_2_2 a0_3_0 a0_3_1 a0_3_2 a0_4 a0_5 a1_0 L 0 ([2, 0]) _ _ _ c59 (rng_0 c59 hL) ?_ ?_ ?_ ho60
                all_goals simp only [go_sem, *]
              clear hz62 ho60
              obtain ⟨_, st119, rfl, rfl, ⟨k641, k642, k643⟩⟩ := hq63
              revert h
              refine bnd_i fun r120 c65 => ?_
              rintro ⟨⟩
              simp only [go_sem, *]
      · refine ite_i (fun c66 => ?_) (fun c66 => ?_)
        · refine cb_i (fun c67 => ?_) (fun c67 => ?_)
          · refine rq_i fun c68 => ?_
            refine bnd_i fun o133 ho69 => ?_
            intro h
            simp only [go_sem, *]
            generalize hz71 : iter _ _ _ _ _ = z70
            have hq72 : Q_p_spyref3_Grade_l0 a1_0 a0_0 a0_1_0_0 a0_1_0_1 a0_1_0_2 a0_1_1_0 a0_1_1_1 a0_1_1_2 a0_1_2_0 a0_1_2_1 a0_1_2_2 a0_2_0 a0_2_1 a0_2_2 a0_3_0 a0_3_1 a0_3_2 a0_4 a0_5 o133 z70 := by
              rw [← hz71]
              refine l_p_spyref3_Grade_l0 L hL a1_0 a0_0 a0_1_0_0 a0_1_0_1 a0_1_0_2 a0_1_1_0 a0_1_1_1 a0_1_1_2 a0_1_2_0 a0_1_2_1 a0_1_2_2 a0_2_0 a0_2_1 a0_2_2 a0_3_0 a0_3_1 a0_3_2 a0_4 a0_5 a1_0 L 0 ([2, 0, 1]) _ _ _ c68 (rng_0 c68 hL) ?_ ?_ ?_ ho69
              all_goals simp only [go_sem, *]
            clear hz71 ho69
            obtain ⟨_, st134, rfl, rfl, ⟨k731, k732, k733⟩⟩ := hq72
            revert h
            refine bnd_i fun r135 c74 => ?_
            rintro ⟨⟩
            simp only [go_sem, *]
          · refine ite_i (fun c75 => ?_) (fun c75 => ?_)
            · refine rq_i fun c76 => ?_
              refine bnd_i fun o148 ho77 => ?_
              intro h
              simp only [go_sem, *]
              generalize hz79 : iter _ _ _ _ _ = z78
              have hq80 : Q_p_spyref3_Grade_l0 a1_0 a0_0 a0_1_0_0 a0_1_0_1 a0_1_0_2 a0_1_1_0 a0_1_1_1 a0_1_1_2 a0_1_2_0 a0_1_2_1 a0_1_2_2 a0_2_0 a0_2_1 a0_2_2 a0_3_0 a0_3_1 a0_3_2 a0_4 a0_5 o148 z78 := by
                rw [← hz79]
                refine l_p_spyref3_Grade_l0 L hL a1_0 a0_0 a0_1_0_0 a0_1_0_1 a0_1_0_2 a0_1_1_0 a0_1_1_1 a0_1_1_2 a0_1_2_0 a0_1_2_1 a0_1_2_2 a0_2_0 a0_2_1 a0_2_2 a0_3_0 a0_3_1 a0_3_2 a0_4 a0_5 a1_0 L 0 ([2, 0, 0]) _ _ _ c76 (rng_0 c76 hL) ?_ ?_ ?_ ho77
                all_goals simp only [go_sem, *]
              clear hz79 ho77
              obtain ⟨_, st149, rfl, rfl, ⟨k811, k812, k813⟩⟩ := hq80
              revert h
              refine bnd_i fun r150 c82 => ?_
              rintro ⟨⟩
              simp only [go_sem, *]
            · refine ite_i (fun c83 => ?_) (fun c83 => ?_)
              · refine rq_i fun c84 => ?_
                refine bnd_i fun o163 ho85 => ?_
                intro h
                simp only [go_sem, *]
                generalize hz87 : iter _ _ _ _ _ = z86
                have hq88 : Q_p_spyref3_Grade_l0 a1_0 a0_0 a0_1_0_0 a0_1_0_1 a0_1_0_2 a0_1_1_0 a0_1_1_1 a0_1_1_2 a0_1_2_0 a0_1_2_1 a0_1_2_2 a0_2_0 a0_2_1 a0_2_2 a0_3_0 a0_3_1 a0_3_2 a0_4 a0_5 o163 z86 := by
                  rw [← hz87]
                  refine l_p_spyref3_Grade_l0 L hL a1_0 a0_0 a0_1_0_0 a0_1_0_1 a0_1_0_2 a0_1_1_0 a0_1_1_1 a0_1_1_2 a0_1_2_0 a0_1_2_1 a0_1_2_2 a0_2_0 a0_2_1 a0_2_2 a0_3_0 a0_3_1 a0_3_2 a0_4 a0_5 a1_0 L 0 ([2, 0, 1]) _ _ _ c84 (rng_0 c84 hL) ?_ ?_ ?_ ho85
                  all_goals simp only [go_sem, *]
                clear hz87 ho85
                obtain ⟨_, st164, rfl, rfl, ⟨k891, k892, k893⟩⟩ := hq88
                revert h
                refine bnd_i fun r165 c90 => ?_
                rintro ⟨⟩
                simp only [go_sem, *]
              · refine rq_i fun c91 => ?_
                refine bnd_i fun o178 ho92 => ?_
                intro h
                simp only [go_sem, *]
                generalize hz94 : iter _ _ _ _ _ = z93
                have hq95 : Q_p_spyref3_Grade_l0 a1_0 a0_0 a0_1_0_0 a0_1_0_1 a0_1_0_2 a0_1_1_0 a0_1_1_1 a0_1_1_2 a0_1_2_0 a0_1_2_1 a0_1_2_2 a0_2_0 a0_2_1 a0_2_2 a0_3_0 a0_3_1 a0_3_2 a0_4 a0_5 o178 z93 := by
                  rw [← hz94]
                  refine l_p_spyref3_Grade_l0 L hL a1_0 a0_0 a0_1_0_0 a0_1_0_1 a0_1_0_2 a0_1_1_0 a0_1_1_1 a0_1_1_2 a0_1_2_0 a0_1_2_1 a0_1_2_2 a0_2_0 a0_2_1 a0_2_2 a0_3_0 a0_3_1 a0_3_2 a0_4 a0_5 a1_0 L 0 ([2, 0]) _ _ _ c91 (rng_0 c91 hL) ?_ ?_ ?_ ho92
                  all_goals simp only [go_sem, *]
                clear hz94 ho92
                obtain ⟨_, st179, rfl, rfl, ⟨k961, k962, k963⟩⟩ := hq95
                revert h
                refine bnd_i fun r180 c97 => ?_
                rintro ⟨⟩
                simp only [go_sem, *]
        · refine ite_i (fun c98 => ?_) (fun c98 => ?_)
          · refine cb_i (fun c99 => ?_) (fun c99 => ?_)
            · refine rq_i fun c100 => ?_
              refine bnd_i fun o193 ho101 => ?_
              intro h
              simp only [go_sem, *]
              generalize hz103 : iter _ _ _ _ _ = z102
              have hq104 : Q_p_spyref3_Grade_l0 a1_0 a0_0 a0_1_0_0 a0_1_0_1 a0_1_0_2 a0_1_1_0 a0_1_1_1 a0_1_1_2 a0_1_2_0 a0_1_2_1 a0_1_2_2 a0_2_0 a0_2_1 a0_2_2 a0_3_0 a0_3_1 a0_3_2 a0_4 a0_5 o193 z102 := by
                rw [← hz103]
                refine l_p_spyref3_Grade_l0 L hL a1_0 a0_0 a0_1_0_0 a0_1_0_1 a0_1_0_2 a0_1_1_0 a0_1_1_1 a0_1_1_2 a0_1_2_0 a0_1_2_1 a0_1_2_2 a0_2_0 a0_2_1 a0_2_2 a0_3_0 a0_3_1 a0_3_2 a0_4 a0_5 a1_0 L 0 ([2, 1, 1]) _ _ _ c100 (rng_0 c100 hL) ?_ ?_ ?_ ho101
                all_goals simp only [go_sem, *]
              clear hz103 ho101
              obtain ⟨_, st194, rfl, rfl, ⟨k1051, k1052, k1053⟩⟩ := hq104
              revert h
              refine bnd_i fun r195 c106 => ?_
              rintro ⟨⟩
              simp only [go_sem, *]
            · refine ite_i (fun c107 => ?_) (fun c107 => ?_)
              · refine rq_i fun c108 => ?_
                refine bnd_i fun o208 ho109 => ?_
                intro h
                simp only [go_sem, *]
                generalize hz111 : iter _ _ _ _ _ = z110
                have hq112 : Q_p_spyref3_Grade_l0 a1_0 a0_0 a0_1_0_0 a0_1_0_1 a0_1_0_2 a0_1_1_0 a0_1_1_1 a0_1_1_2 a0_1_2_0 a0_1_2_1 a0_1_2_2 a0_2_0 a0_2_1 a0_2_2 a0_3_0 a0_3_1 a0_3_2 a0_4 a0_5 o208 z110 := by
                  rw [← hz111]
                  refine l_p_spyref3_Grade_l0 L hL a1_0 a0_0 a0_1_0_0 a0_1_0_1 a0_1_0_2 a0_1_1_0 a0_1_1_1 a0_1_1_2 a0_1_2_0 a0_1_2_1 a0_1_2_2 a0_2_0 a0_2_1 a0_2_2 a0_3_0 a0_3_1 a0_3_2 a0_4 a0_5 a1_0 L 0 ([2, 1, 0]) _ _ _ c108 (rng_0 c108 hL) ?_ ?_ ?_ ho109
                  all_goals simp only [go_sem, *]
                clear hz111 ho109
                obtain ⟨_, st209, rfl, rfl, ⟨k1131, k1132, k1133⟩⟩ := hq112
                revert h
                refine bnd_i fun r210 c114 => ?_
                rintro ⟨⟩
                simp only [go_sem, *]
              · refine ite_i (fun c115 => ?_) (fun c115 => ?_)
                · refine rq_i fun c116 => ?_
                  refine bnd_i fun o223 ho117 => ?_
                  intro h
                  simp only [go_sem, *]
                  generalize hz119 : iter _ _ _ _ _ = z118
                  have hq120 : Q_p_spyref3_Grade_l0 a1_0 a0_0 a0_1_0_0 a0_1_0_1 a0_1_0_2 a0_1_1_0 a0_1_1_1 a0_1_1_2 a0_1_2_0 a0_1_2_1 a0_1_2_2 a0_2_0 a0_2_1 a0_2_2 a0_3_0 a0_3_1 a0_3_2 a0_4 a0_5 o223 z118 := by
                    rw [← hz119]
                    refine l_p_spyref3_Grade_l0 L hL a1_0 a0_0 a0_1_0_0 a0_1_0_1 a0_1_0_2 a0_1_1_0 a0_1_1_1 a0_1_1_2 a0_1_2_0 a0_1_2_1 a0_1_2_2 a0_2_0 a0_2_1 a0_2_2 a0_3_0 a0_3_1 a0_3_2 a0_4 a0_5 a1_0 L 0 ([2, 1, 1]) _ _ _ c116 (rng_0 c116 hL) ?_ ?_ ?_ ho117
                    all_goals simp only [go_sem, *]
                  clear hz119 ho117
                  obtain ⟨_, st224, rfl, rfl, ⟨k1211, k1212, k1213⟩⟩ := hq120
                  revert h
                  refine bnd_i fun r225 c122 => ?_
                  rintro ⟨⟩
                  simp only [go_sem, *]
                · refine rq_i fun c123 => ?_
                  refine bnd_i fun o238 ho124 => ?_
                  intro h
                  simp only [go_sem, *]
                  generalize hz126 : iter _ _ _ _ _ = z125
                  have hq127 : Q_p_spyref3_Grade_l0 a1_0 a0_0 a0_1_0_0 a0_1_0_1 a0_1_0_2 a0_1_1_0 a0_1_1_1 a0_1_1_2 a0_1_2_0 a0_1_2_1 a0_1_2_2 a0_2_0 a0_2_1 a0_2_2 a0_3_0 a0_3_1 a0_3_2 a0_4 a0_5 o238 z125 := by
                    rw [← hz126]
                    refine l_p_spyref3_Grade_l0 L hL a1_0 a0_0 a0_1_0_0 a0_1_0_1 a0_1_0_2 a0_1_1_0 a0_1_1_1 a0_1_1_2 a0_1_2_0 a0_1_2_1 a0_1_2_2 a0_2_0 a0_2_1 a0_2_2 a0_3_0 a0_3_1 a0_3_2 a0_4 a0_5 a1_0 L 0 ([2, 1]) _ _ _ c123 (rng_0 c123 hL) ?_ ?_ ?_ ho124
                    all_goals simp only [go_sem, *]
                  clear hz126 ho124
                  obtain ⟨_, st239, rfl, rfl, ⟨k1281, k1282, k1283⟩⟩ := hq127
                  revert h
                  refine bnd_i fun r240 c129 => ?_
                  rintro ⟨⟩
                  simp only [go_sem, *]
          · refine ite_i (fun c130 => ?_) (fun c130 => ?_)
            · refine cb_i (fun c131 => ?_) (fun c131 => ?_)
              · refine rq_i fun c132 => ?_
                refine bnd_i fun o253 ho133 => ?_
                intro h
                simp only [go_sem, *]
                generalize hz135 : iter _ _ _ _ _ = z134
                have hq136 : Q_p_spyref3_Grade_l0 a1_0 a0_0 a0_1_0_0 a0_1_0_1 a0_1_0_2 a0_1_1_0 a0_1_1_1 a0_1_1_2 a0_1_2_0 a0_1_2_1 a0_1_2_2 a0_2_0 a0_2_1 a0_2_2 a0_3_0 a0_3_1 a0_3_2 a0_4 a0_5 o253 z134 := by
                  rw [← hz135]
                  refine l_p_spyref3_Grade_l0 L hL a1_0 a0_0 a0_1_0_0 a0_1_0_1 a0_1_0_2 a0_1_1_0 a0_1_1_1 a0_1_1_2 a0_1_2_0 a0_1_2_1 a0_1_2_2 a0_2_0 a0_2_1 a0_2_2 a0_3_0 a0_3_1 a0_3_2 a0_4 a0_5 a1_0 L 0 ([2, 1, 1]) _ _ _ c132 (rng_0 c132 hL) ?_ ?_ ?_ ho133
                  all_goals simp only [go_sem, *]
                clear hz135 ho133
                obtain ⟨_, st254, rfl, rfl, ⟨k1371, k1372, k1373⟩⟩ := hq136
                revert h
                refine bnd_i fun r255 c138 => ?_
                rintro ⟨⟩
                simp only [go_sem, *]
              · refine ite_i (fun c139 => ?_) (fun c139 => ?_)
                · refine rq_i fun c140 => ?_
                  refine bnd_i fun o268 ho141 => ?_
                  intro h
                  simp only [go_sem, *]
                  generalize hz143 : iter _ _ _ _ _ = z142
                  have hq144 : Q_p_spyref3_Grade_l0 a1_0 a0_0 a0_1_0_0 a0_1_0_1 a0_1_0_2 a0_1_1_0 a0_1_1_1 a0_1_1_2 a0_1_2_0 a0_1_2_1 a0_1_2_2 a0_2_0 a0_2_1 a0_2_2 a0_3_0 a0_3_1 a0_3_2 a0_4 a0_5 o268 z142 := by
                    rw [← hz143]
                    refine l_p_spyref3_Grade_l0 L hL a1_0 a0_0 a0_1_0_0 a0_1_0_1 a0_1_0_2 a0_1_1_0 a0_1_1_1 a0_1_1_2 a0_1_2_0 a0_1_2_1 a0_1_2_2 a0_2_0 a0_2_1 a0_2_2 a0_3_0 a0_3_1 a0_3_2 a0_4 a0_5 a1_0 L 0 ([2, 1, 0]) _ _ _ c140 (rng_0 c140 hL) ?_ ?_ ?_ ho141
                    all_goals simp only [go_sem, *]
                  clear hz143 ho141
                  obtain ⟨_, st269, rfl, rfl, ⟨k1451, k1452, k1453⟩⟩ := hq144
                  revert h
                  refine bnd_i fun r270 c146 => ?_
                  rintro ⟨⟩
                  simp only [go_sem, *]
                · refine ite_i (fun c147 => ?_) (fun c147 => ?_)
                  · refine rq_i fun c148 => ?_
                    refine bnd_i fun o283 ho149 => ?_
                    intro h
                    simp only [go_sem, *]
                    generalize hz151 : iter _ _ _ _ _ = z150
                    have hq152 : Q_p_spyref3_Grade_l0 a1_0 a0_0 a0_1_0_0 a0_1_0_1 a0_1_0_2 a0_1_1_0 a0_1_1_1 a0_1_1_2 a0_1_2_0 a0_1_2_1 a0_1_2_2 a0_2_0 a0_2_1 a0_2_2 a0_3_0 a0_3_1 a0_3_2 a0_4 a0_5 o283 z150 := by
                      rw [← hz151]
                      refine l_p_spyref3_Grade_l0 L hL a1_0 a0_0 a0_1_0_0 a0_1_0_1 a0_1_0_2 a0_1_1_0 a0_1_1_1 a0_1_1_2 a0_1_2_0 a0_1_2_1 a0_1_2_2 a0_2_0 a0_2_1 a0_2_2 a0_3_0 a0_3_1 a0_3_2 a0_4 a0_5 a1_0 L 0 ([2, 1, 1]) _ _ _ c148 (rng_0 c148 hL) ?_ ?_ ?_ ho149
                      all_goals simp only [go_sem, *]
                    clear hz151 ho149
                    obtain ⟨_, st284, rfl, rfl, ⟨k1531, k1532, k1533⟩⟩ := hq152
                    revert h
                    refine bnd_i fun r285 c154 => ?_
                    rintro ⟨⟩
                    simp only [go_sem, *]
                  · refine rq_i fun c155 => ?_
                    refine bnd_i fun o298 ho156 => ?_
                    intro h
                    simp only [go_sem, *]
                    generalize hz158 : iter _ _ _ _ _ = z157
                    have hq159 : Q_p_spyref3_Grade_l0 a1_0 a0_0 a0_1_0_0 a0_1_0_1 a0_1_0_2 a0_1_1_0 a0_1_1_1 a0_1_1_2 a0_1_2_0 a0_1_2_1 a0_1_2_2 a0_2_0 a0_2_1 a0_2_2 a0_3_0 a0_3_1 a0_3_2 a0_4 a0_5 o298 z157 := by
                      rw [← hz158]
                      refine l_p_spyref3_Grade_l0 L hL a1_0 a0_0 a0_1_0_0 a0_1_0_1 a0_1_0_2 a0_1_1_0 a0_1_1_1 a0_1_1_2 a0_1_2_0 a0_1_2_1 a0_1_2_2 a0_2_0 a0_2_1 a0_2_2 a0_3_0 a0_3_1 a0_3_2 a0_4 a0_5 a1_0 L 0 ([2, 1]) _ _ _ c155 (rng_0 c155 hL) ?_ ?_ ?_ ho156
                      all_goals simp only [go_sem, *]
                    clear hz158 ho156
                    obtain ⟨_, st299, rfl, rfl, ⟨k1601, k1602, k1603⟩⟩ := hq159
                    revert h
                    refine bnd_i fun r300 c161 => ?_
                    rintro ⟨⟩
                    simp only [go_sem, *]
            · refine cb_i (fun c162 => ?_) (fun c162 => ?_)
              · refine rq_i fun c163 => ?_
                refine bnd_i fun o313 ho164 => ?_
                intro h
                simp only [go_sem, *]
                generalize hz166 : iter _ _ _ _ _ = z165
                have hq167 : Q_p_spyref3_Grade_l0 a1_0 a0_0 a0_1_0_0 a0_1_0_1 a0_1_0_2 a0_1_1_0 a0_1_1_1 a0_1_1_2 a0_1_2_0 a0_1_2_1 a0_1_2_2 a0_2_0 a0_2_1 a0_2_2 a0_3_0 a0_3_1 a0_3_2 a0_4 a0_5 o313 z165 := by
                  rw [← hz166]
                  refine l_p_spyref3_Grade_l0 L hL a1_0 a0_0 a0_1_0_0 a0_1_0_1 a0_1_0_2 a0_1_1_0 a0_1_1_1 a0_1_1_2 a0_1_2_0 a0_1_2_1 a0_1_2_2 a0_2_0 a0_2_1 a0_2_2 a0_3_0 a0_3_1 a0_3_2 a0_4 a0_5 a1_0 L 0 ([2, 1]) _ _ _ c163 (rng_0 c163 hL) ?_ ?_ ?_ ho164
                  all_goals simp only [go_sem, *]
                clear hz166 ho164
                obtain ⟨_, st314, rfl, rfl, ⟨k1681, k1682, k1683⟩⟩ := hq167
                revert h
                refine bnd_i fun r315 c169 => ?_
                rintro ⟨⟩
                simp only [go_sem, *]
              · refine ite_i (fun c170 => ?_) (fun c170 => ?_)
                · refine rq_i fun c171 => ?_
                  refine bnd_i fun o328 ho172 => ?_
                  intro h
                  simp only [go_sem, *]
                  generalize hz174 : iter _ _ _ _ _ = z173
                  have hq175 : Q_p_spyref3_Grade_l0 a1_0 a0_0 a0_1_0_0 a0_1_0_1 a0_1_0_2 a0_1_1_0 a0_1_1_1 a0_1_1_2 a0_1_2_0 a0_1_2_1 a0_1_2_2 a0_2_0 a0_2_1 a0_2_2 a0_3_0 a0_3_1 a0_3_2 a0_4 a0_5 o328 z173 := by
                    rw [← hz174]
                    refine l_p_spyref3_Grade_l0 L hL a1_0 a0_0 a0_1_0_0 a0_1_0_1 a0_1_0_2 a0_1_1_0 a0_1_1_1 a0_1_1_2 a0_1_2_0 a0_1_2_1 a0_1_2_2 a0_2_0 a0_2_1 a0_2_2 a0_3_0 a0_3_1 a0_3_2 a0_4 a0_5 a1_0 L 0 ([2, 0]) _ _ _ c171 (rng_0 c171 hL) ?_ ?_ ?_ ho172
                    all_goals simp only [go_sem, *]
                  clear hz174 ho172
                  obtain ⟨_, st329, rfl, rfl, ⟨k1761, k1762, k1763⟩⟩ := hq175
                  revert h
                  refine bnd_i fun r330 c177 => ?_
                  rintro ⟨⟩
                  simp only [go_sem, *]
                · refine ite_i (fun c178 => ?_) (fun c178 => ?_)
                  · refine rq_i fun c179 => ?_
                    refine bnd_i fun o343 ho180 => ?_
                    intro h
                    simp only [go_sem, *]
                    generalize hz182 : iter _ _ _ _ _ = z181
                    have hq183 : Q_p_spyref3_Grade_l0 a1_0 a0_0 a0_1_0_0 a0_1_0_1 a0_1_0_2 a0_1_1_0 a0_1_1_1 a0_1_1_2 a0_1_2_0 a0_1_2_1 a0_1_2_2 a0_2_0 a0_2_1 a0_2_2 a0_3_0 a0_3_1 a0_3_2 a0_4 a0_5 o343 z181 := by
                      rw [← hz182]
                      refine l_p_spyref3_Grade_l0 L hL a1_0 a0_0 a0_1_0_0 a0_1_0_1 a0_1_0_2 a0_1_1_0 a0_1_1_1 a0_1_1_2 a0_1_2_0 a0_1_2_1 a0_1_2_2 a0_2_0 a0_2_1 a0_2_2 a0_3_0 a0_3_1 a0_3_2 a0_4 a0_5 a1_0 L 0 ([2, 1]) _ _ _ c179 (rng_0 c179 hL) ?_ ?_ ?_ ho180
                      all_goals simp only [go_sem, *]
                    clear hz182 ho180
                    obtain ⟨_, st344, rfl, rfl, ⟨k1841, k1842, k1843⟩⟩ := hq183
                    revert h
                    refine bnd_i fun r345 c185 => ?_
                    rintro ⟨⟩
                    simp only [go_sem, *]
                  · refine rq_i fun c186 => ?_
                    refine bnd_i fun o358 ho187 => ?_
                    intro h
                    simp only [go_sem, *]
                    generalize hz189 : iter _ _ _ _ _ = z188
                    have hq190 : Q_p_spyref3_Grade_l0 a1_0 a0_0 a0_1_0_0 a0_1_0_1 a0_1_0_2 a0_1_1_0 a0_1_1_1 a0_1_1_2 a0_1_2_0 a0_1_2_1 a0_1_2_2 a0_2_0 a0_2_1 a0_2_2 a0_3_0 a0_3_1 a0_3_2 a0_4 a0_5 o358 z188 := by
                      rw [← hz189]
                      refine l_p_spyref3_Grade_l0 L hL a1_0 a0_0 a0_1_0_0 a0_1_0_1 a0_1_0_2 a0_1_1_0 a0_1_1_1 a0_1_1_2 a0_1_2_0 a0_1_2_1 a0_1_2_2 a0_2_0 a0_2_1 a0_2_2 a0_3_0 a0_3_1 a0_3_2 a0_4 a0_5 a1_0 L 0 ([2]) _ _ _ c186 (rng_0 c186 hL) ?_ ?_ ?_ ho187
                      all_goals simp only [go_sem, *]
                    clear hz189 ho187
                    obtain ⟨_, st359, rfl, rfl, ⟨k1911, k1912, k1913⟩⟩ := hq190
                    revert h
                    refine bnd_i fun r360 c192 => ?_
                    rintro ⟨⟩
                    simp only [go_sem, *]
noncomputable def s_spyref3_Grade (L : Nat) : Ev.Spec := specP (cCons k89 (cCons k74 cNil)) (fun x => p_spyref3_Grade L x.1.1 x.1.2.1.1.1 x.1.2.1.1.2.1 x.1.2.1.1.2.2.1 x.1.2.1.2.1.1 x.1.2.1.2.1.2.1 x.1.2.1.2.1.2.2.1 x.1.2.1.2.2.1.1 x.1.2.1.2.2.1.2.1 x.1.2.1.2.2.1.2.2.1 x.1.2.2.1.1 x.1.2.2.1.2.1 x.1.2.2.1.2.2.1 x.1.2.2.2.1.1 x.1.2.2.2.1.2.1 x.1.2.2.2.1.2.2.1 x.1.2.2.2.2.1 x.1.2.2.2.2.2.1 x.2.1.1 x.2.1.2.1 x.2.1.2.2.1 x.2.1.2.2.2.1 x.2.1.2.2.2.2.1) (fun r => [.int .i64 r])
theorem s_spyref3_Grade_run (L : Nat) (a0_0 : Int) (a0_1_0_0 : Int) (a0_1_0_1 : Int) (a0_1_0_2 : Bool) (a0_1_1_0 : Int) (a0_1_1_1 : Int) (a0_1_1_2 : Bool) (a0_1_2_0 : Int) (a0_1_2_1 : Int) (a0_1_2_2 : Bool) (a0_2_0 : Int) (a0_2_1 : Int) (a0_2_2 : Bool) (a0_3_0 : Int) (a0_3_1 : Int) (a0_3_2 : Bool) (a0_4 : List Int) (a0_5 : Int) (a1_0 : List ((Int × Int × Int × Unit) × Int × Unit)) (a1_1 : Int) (a1_2 : Int) (a1_3 : Int) (a1_4 : Int) : (s_spyref3_Grade L).run [.agg 89 [.int .i64 a0_0, .agg 66 [.agg 64 [.int .i64 a0_1_0_0, .int .i64 a0_1_0_1, .bool a0_1_0_2], .agg 64 [.int .i64 a0_1_1_0, .int .i64 a0_1_1_1, .bool a0_1_1_2], .agg 64 [.int .i64 a0_1_2_0, .int .i64 a0_1_2_1, .bool a0_1_2_2]], .agg 35 [.int .i64 a0_2_0, .int .i64 a0_2_1, .bool a0_2_2], .agg 87 [.int .i64 a0_3_0, .int .i64 a0_3_1, .bool a0_3_2], .sl 3 (a0_4.map (D.int .i64)), .int .i64 a0_5], .agg 74 [.sl 167 (a1_0.map k167.e), .int .i64 a1_1, .int .i64 a1_2, .int .i64 a1_3, .int .i64 a1_4]] = (p_spyref3_Grade L a0_0 a0_1_0_0 a0_1_0_1 a0_1_0_2 a0_1_1_0 a0_1_1_1 a0_1_1_2 a0_1_2_0 a0_1_2_1 a0_1_2_2 a0_2_0 a0_2_1 a0_2_2 a0_3_0 a0_3_1 a0_3_2 a0_4 a0_5 a1_0 a1_1 a1_2 a1_3 a1_4).map fun r => [.int .i64 r] := specP_run (cCons k89 (cCons k74 cNil)) (fun x => p_spyref3_Grade L x.1.1 x.1.2.1.1.1 x.1.2.1.1.2.1 x.1.2.1.1.2.2.1 x.1.2.1.2.1.1 x.1.2.1.2.1.2.1 x.1.2.1.2.1.2.2.1 x.1.2.1.2.2.1.1 x.1.2.1.2.2.1.2.1 x.1.2.1.2.2.1.2.2.1 x.1.2.2.1.1 x.1.2.2.1.2.1 x.1.2.2.1.2.2.1 x.1.2.2.2.1.1 x.1.2.2.2.1.2.1 x.1.2.2.2.1.2.2.1 x.1.2.2.2.2.1 x.1.2.2.2.2.2.1 x.2.1.1 x.2.1.2.1 x.2.1.2.2.1 x.2.1.2.2.2.1 x.2.1.2.2.2.2.1) (fun r => [.int .i64 r]) ((a0_0, ((a0_1_0_0, a0_1_0_1, a0_1_0_2, ()), (a0_1_1_0, a0_1_1_1, a0_1_1_2, ()), (a0_1_2_0, a0_1_2_1, a0_1_2_2, ()), ()), (a0_2_0, a0_2_1, a0_2_2, ()), (a0_3_0, a0_3_1, a0_3_2, ()), a0_4, a0_5, ()), (a1_0, a1_1, a1_2, a1_3, a1_4, ()), ())
theorem ok_spyref3_Grade (L : Nat) (hL : L ≤ 4611686018427387904) : SpecOk Try.prog 120 (s_spyref3_Grade L) := specP_ok mixed (Go_spyref3_Grade L hL) (To_spyref3_Grade L) fun x r h => ⟨L, 1, e_spyref3_Grade L hL x.1.1 x.1.2.1.1.1 x.1.2.1.1.2.1 x.1.2.1.1.2.2.1 x.1.2.1.2.1.1 x.1.2.1.2.1.2.1 x.1.2.1.2.1.2.2.1 x.1.2.1.2.2.1.1 x.1.2.1.2.2.1.2.1 x.1.2.1.2.2.1.2.2.1 x.1.2.2.1.1 x.1.2.2.1.2.1 x.1.2.2.1.2.2.1 x.1.2.2.2.1.1 x.1.2.2.2.1.2.1 x.1.2.2.2.1.2.2.1 x.1.2.2.2.2.1 x.1.2.2.2.2.2.1 x.2.1.1 x.2.1.2.1 x.2.1.2.2.1 x.2.1.2.2.2.1 x.2.1.2.2.2.2.1 r h⟩
end Go.Proofs.Ytnojehmbiceceaa.P
end
section
set_option linter.unusedVariables false
set_option linter.unusedSimpArgs false
set_option maxRecDepth 100000
namespace Go.Proofs.Ytnojehmbiceceaa.E
open Go.Ev
noncomputable def en38 : Entry := ⟨Try.f38, [(0, mb 73 0 [1, 11, 12, 13]), (1000001, mb 73 0 [1]), (1000002, mb 73 0 [1, 11, 12, 13]), (1000000, mb 73 0 [2])]⟩
theorem mk38_0 (vs : List V) : mask (maskOf en38.ms 0) vs = km 73 0 [1, 11, 12, 13] vs := mask_mb _ _ _ _
theorem mk38_1000001 (vs : List V) : mask (maskOf en38.ms 1000001) vs = km 73 0 [1] vs := mask_mb _ _ _ _
theorem mk38_1000002 (vs : List V) : mask (maskOf en38.ms 1000002) vs = km 73 0 [1, 11, 12, 13] vs := mask_mb _ _ _ _
theorem mk38_1000000 (vs : List V) : mask (maskOf en38.ms 1000000) vs = km 73 0 [2] vs := mask_mb _ _ _ _
theorem fz38_0 (lv : Nat) (f : Run) : frzF en38.ms lv 0 f = f := nr rfl
theorem fi38_0 (lv : Nat) (env : List V) (st : Store) (q : Store → Out) : frzI en38.ms lv 0 env st q = q st := nr rfl
noncomputable def lb38_0 : Code := loopN Try.f38 0
end Go.Proofs.Ytnojehmbiceceaa.E
end
section
set_option linter.unusedVariables false
set_option linter.unusedSimpArgs false
set_option maxRecDepth 100000
namespace Go.Proofs.Ytnojehmbiceceaa.P
open Go.Ev Go.IntKind Go.Proofs.Ytnojehmbiceceaa Go.Proofs.Ytnojehmbiceceaa.Ty Go.Proofs.Ytnojehmbiceceaa.E
def p_spyref3_AskFault_l0 (L : Nat)  : List ((Int × Int × Int × Unit) × Int × Unit) → Option (Sum Unit Int)
  | [] => some (.inl ())
  | x1 :: tl => bnd (p_sphere_Check L x1.1.1 x1.1.2.1 x1.1.2.2.1) fun r4 => cb (decide (r4 = 0)) (if x1.2.1 < 0 then (some (.inr 4)) else (if x1.2.1 > 1073741824 then (some (.inr 4)) else (p_spyref3_AskFault_l0 L  tl))) (some (.inr r4))
def p_spyref3_AskFault (L : Nat) (a0_0 : List ((Int × Int × Int × Unit) × Int × Unit)) (a0_1 : Int) (a0_2 : Int) (a0_3 : Int) (a0_4 : Int) : Option Int := if (a0_0.length : Int) > 4 then (some 2) else (rq (a0_0.length < L) <| bnd (p_spyref3_AskFault_l0 L a0_0) fun o5 => match o5 with | (.inl o5_0) => (if a0_1 < (-17592186044416) then (some 4) else (if a0_1 > 17592186044416 then (some 4) else (if a0_2 < (-17592186044416) then (some 4) else (if a0_2 > 17592186044416 then (some 4) else (if a0_2 < a0_1 then (some 11) else (if a0_3 < 0 then (some 4) else (if a0_3 > 1125899906842624 then (some 4) else (if a0_4 < 0 then (some 4) else (if a0_4 > 3 then (some 4) else (some 0)))))))))) | (.inr o5_1) => (some o5_1))
noncomputable def G_spyref3_AskFault (L : Nat) : Specs := [(121, s_sphere_Check L)]
noncomputable def T_spyref3_AskFault : Table := tableOf [(38, en38)]
theorem Go_spyref3_AskFault (L : Nat) (hL : L ≤ 4611686018427387904) : ∀ g s, Ev.look (G_spyref3_AskFault L) g = some s → SpecOk Try.prog g s := (specs_cons (ok_sphere_Check L hL) specs_nil)
theorem To_spyref3_AskFault (L : Nat) : TableOk Try.prog ((G_spyref3_AskFault L).map (·.1)) T_spyref3_AskFault := (table_cons Try.func38 (by kernel_rfl) (by kernel_rfl) table_nil)
theorem lk_spyref3_AskFault_121 (L : Nat) : Ev.look (G_spyref3_AskFault L) 121 = some (s_sphere_Check L) := nr rfl
attribute [local go_sem] Ty.tk2 Ty.ik2 Ty.ek2 Ty.zv2 Ty.by2 Ty.so2 Ty.tk3 Ty.ik3 Ty.ek3 Ty.zv3 Ty.by3 Ty.so3 Ty.tk4 Ty.ub4 Ty.ek4 Ty.zv4 Ty.by4 Ty.so4 Ty.tk24 Ty.ik24 Ty.ek24 Ty.zv24 Ty.by24 Ty.so24 Ty.tk27 Ty.ik27 Ty.ek27 Ty.zv27 Ty.by27 Ty.so27 Ty.tk67 Ty.ik67 Ty.ek67 Ty.zv67 Ty.by67 Ty.so67 Ty.tk71 Ty.zv71 Ty.by71 Ty.so71 Ty.tk72 Ty.ik72 Ty.ek72 Ty.zv72 Ty.by72 Ty.so72 Ty.tk74 Ty.ct74 Ty.zv74 Ty.by74 Ty.so74 Ty.tk165 Ty.ct165 Ty.ek165 Ty.zv165 Ty.by165 Ty.so165 Ty.tk167 Ty.ct167 Ty.ek167 Ty.zv167 Ty.by167 Ty.so167 Ty.k71_e Ty.k74_e Ty.k165_e Ty.k167_e E.mk38_0 E.mk38_1000001 E.mk38_1000002 E.mk38_1000000 E.fz38_0 E.fi38_0 E.lb38_0 lk_spyref3_AskFault_121 s_sphere_Check_run loopN loops Try.f38
def Q0_p_spyref3_AskFault_l0 (a0_0 : List ((Int × Int × Int × Unit) × Int × Unit)) (a0_1 : Int) (a0_2 : Int) (a0_3 : Int) (a0_4 : Int) (u : Unit) (z : Out) : Prop := ∃ env st, z = some (.exit 0, env, st) ∧ env = sp 73 0 [(1, .p (0, 1) (st (0, 1)).ver 0 [])] ∧ Bk (st (0, 1)) 74 [.d (.agg 74 [.sl 167 (a0_0.map k167.e), .int .i64 a0_1, .int .i64 a0_2, .int .i64 a0_3, .int .i64 a0_4])]
def Q1_p_spyref3_AskFault_l0 (a0_0 : List ((Int × Int × Int × Unit) × Int × Unit)) (a0_1 : Int) (a0_2 : Int) (a0_3 : Int) (a0_4 : Int) (u : Int) (z : Out) : Prop := ∃ env st, z = some (.ret, env, st) ∧ env = sp 73 0 [(2, .d (.int .i64 u))]
def Q_p_spyref3_AskFault_l0 (a0_0 : List ((Int × Int × Int × Unit) × Int × Unit)) (a0_1 : Int) (a0_2 : Int) (a0_3 : Int) (a0_4 : Int) (o : Sum Unit Int) (z : Out) : Prop := match o with | (.inl u) => Q0_p_spyref3_AskFault_l0 a0_0 a0_1 a0_2 a0_3 a0_4 u z | (.inr u) => Q1_p_spyref3_AskFault_l0 a0_0 a0_1 a0_2 a0_3 a0_4 u z
theorem l_p_spyref3_AskFault_l0 (L : Nat) (hL : L ≤ 4611686018427387904) (a0_0 : List ((Int × Int × Int × Unit) × Int × Unit)) (a0_1 : Int) (a0_2 : Int) (a0_3 : Int) (a0_4 : Int) : ∀ (tl : List ((Int × Int × Int × Unit) × Int × Unit)) (n : Nat) (s2 : Int) (env : List V) (st : Store) (o : Sum Unit Int), tl.length < n → Rng a0_0 s2 tl → mask (maskOf en38.ms 0) env = sp 73 0 [(1, .p (0, 1) (st (0, 1)).ver 0 []), (11, .d (.sl 167 (a0_0.map k167.e))), (12, .d (.int .i64 (a0_0.length : Int))), (13, .d (.int .i64 s2))] → Bk (st (0, 1)) 74 [.d (.agg 74 [.sl 167 (a0_0.map k167.e), .int .i64 a0_1, .int .i64 a0_2, .int .i64 a0_3, .int .i64 a0_4])] → p_spyref3_AskFault_l0 L  tl  = some o →
    Q_p_spyref3_AskFault_l0 a0_0 a0_1 a0_2 a0_3 a0_4 o (iter (evC Try.prog (G_spyref3_AskFault L) (evF Try.prog (G_spyref3_AskFault L) T_spyref3_AskFault L 0) L en38.ms 0 0 lb38_0) (maskOf en38.ms 0) n env st) := by
  intro tl
  induction tl with
  | nil =>
    intro n s2  env st o hn hR he hb0 h
    obtain ⟨n, rfl⟩ : ∃ m, n = m + 1 := ⟨n - 1, by omega⟩
    obtain ⟨be0, bv0, bl0⟩ := hb0
    have g0 := rng_nil hR
    rw [iter, he]
    clear he
    generalize hK : iter _ _ n = K
    rw [p_spyref3_AskFault_l0] at h
    revert h
    rintro ⟨⟩
    simp only [go_sem, *]
    refine (⟨_, _, rfl, ?_, ?_⟩ : Q0_p_spyref3_AskFault_l0 _ _ _ _ _ _ _)
    all_goals simp only [go_sem, *]
  | cons x1 tl ih =>
    intro n s2  env st o hn hR he hb0 h
    obtain ⟨n, rfl⟩ : ∃ m, n = m + 1 := ⟨n - 1, by omega⟩
    obtain ⟨be0, bv0, bl0⟩ := hb0
    replace ih : Hold _ := ih
    replace hR := rng_s hR
    obtain ⟨g0, g1, g2, g3, hR⟩ := hR
    rw [iter, he]
    clear he
    generalize hK : iter _ _ n = K
    rw [p_spyref3_AskFault_l0] at h
    revert h
    refine bnd_i fun r4 c1 => ?_
    refine cb_i (fun c2 => ?_) (fun c2 => ?_)
    · refine ite_i (fun c3 => ?_) (fun c3 => ?_)
      · rintro ⟨⟩
        simp only [go_sem, *]
        refine (⟨_, _, rfl, ?_⟩ : Q1_p_spyref3_AskFault_l0 _ _ _ _ _ _ _)
        all_goals simp only [go_sem, *]
      · refine ite_i (fun c4 => ?_) (fun c4 => ?_)
        · rintro ⟨⟩
          simp only [go_sem, *]
          refine (⟨_, _, rfl, ?_⟩ : Q1_p_spyref3_AskFault_l0 _ _ _ _ _ _ _)
          all_goals simp only [go_sem, *]
        · intro h
          simp only [go_sem, *]
          subst hK
          refine ih n (s2 + 1)  _ _ _ (by simp only [List.length_cons] at hn; omega) hR ?_ ?_ h
          all_goals simp only [go_sem, *]
    · rintro ⟨⟩
      simp only [go_sem, *]
      refine (⟨_, _, rfl, ?_⟩ : Q1_p_spyref3_AskFault_l0 _ _ _ _ _ _ _)
      all_goals simp only [go_sem, *]
theorem e_spyref3_AskFault (L : Nat) (hL : L ≤ 4611686018427387904) (a0_0 : List ((Int × Int × Int × Unit) × Int × Unit)) (a0_1 : Int) (a0_2 : Int) (a0_3 : Int) (a0_4 : Int) (res : Int) (h : p_spyref3_AskFault L a0_0 a0_1 a0_2 a0_3 a0_4 = some res) : evTop Try.prog (G_spyref3_AskFault L) T_spyref3_AskFault L 1 38 [.agg 74 [.sl 167 (a0_0.map k167.e), .int .i64 a0_1, .int .i64 a0_2, .int .i64 a0_3, .int .i64 a0_4]] = some [.int .i64 res] := by
  revert h
  unfold p_spyref3_AskFault evTop
  simp only [List.map]
  rw [evF_s (fn := Try.f38) (msk := en38.ms) (hT := by rfl) (hb := by rfl)]
  refine ite_i (fun c1 => ?_) (fun c1 => ?_)
  · rintro ⟨⟩
    simp only [go_sem, *]
  · refine rq_i fun c2 => ?_
    refine bnd_i fun o5 ho3 => ?_
    intro h
    simp only [go_sem, *]
    generalize hz5 : iter _ _ _ _ _ = z4
    have hq6 : Q_p_spyref3_AskFault_l0 a0_0 a0_1 a0_2 a0_3 a0_4 o5 z4 := by
      rw [← hz5]
      refine l_p_spyref3_AskFault_l0 L hL a0_0 a0_1 a0_2 a0_3 a0_4 a0_0 L 0  _ _ _ c2 (rng_0 c2 hL) ?_ ?_ ho3
      all_goals simp only [go_sem, *]
    clear hz5 ho3
    rcases o5 with o5_0 | o5_1
    · obtain ⟨_, st6, rfl, rfl, ⟨k71, k72, k73⟩⟩ := hq6
      dsimp only at h
      revert h
      refine ite_i (fun c8 => ?_) (fun c8 => ?_)
      · rintro ⟨⟩
        simp only [go_sem, *]
      · refine ite_i (fun c9 => ?_) (fun c9 => ?_)
        · rintro ⟨⟩
          simp only [go_sem, *]
        · refine ite_i (fun c10 => ?_) (fun c10 => ?_)
          · rintro ⟨⟩
            simp only [go_sem, *]
          · refine ite_i (fun c11 => ?_) (fun c11 => ?_)
            · rintro ⟨⟩
              simp only [go_sem, *]
            · refine ite_i (fun c12 => ?_) (fun c12 => ?_)
              · rintro ⟨⟩
                simp only [go_sem, *]
              · refine ite_i (fun c13 => ?_) (fun c13 => ?_)
                · rintro ⟨⟩
                  simp only [go_sem, *]
                · refine ite_i (fun c14 => ?_) (fun c14 => ?_)
                  · rintro ⟨⟩
                    simp only [go_sem, *]
                  · refine ite_i (fun c15 => ?_) (fun c15 => ?_)
                    · rintro ⟨⟩
                      simp only [go_sem, *]
                    · refine ite_i (fun c16 => ?_) (fun c16 => ?_)
                      · rintro ⟨⟩
                        simp only [go_sem, *]
                      · rintro ⟨⟩
                        simp only [go_sem, *]
    · obtain ⟨_, st7, rfl, rfl⟩ := hq6
      dsimp only at h
      revert h
      rintro ⟨⟩
      simp only [go_sem, *]
noncomputable def s_spyref3_AskFault (L : Nat) : Ev.Spec := specP (cCons k74 cNil) (fun x => p_spyref3_AskFault L x.1.1 x.1.2.1 x.1.2.2.1 x.1.2.2.2.1 x.1.2.2.2.2.1) (fun r => [.int .i64 r])
theorem s_spyref3_AskFault_run (L : Nat) (a0_0 : List ((Int × Int × Int × Unit) × Int × Unit)) (a0_1 : Int) (a0_2 : Int) (a0_3 : Int) (a0_4 : Int) : (s_spyref3_AskFault L).run [.agg 74 [.sl 167 (a0_0.map k167.e), .int .i64 a0_1, .int .i64 a0_2, .int .i64 a0_3, .int .i64 a0_4]] = (p_spyref3_AskFault L a0_0 a0_1 a0_2 a0_3 a0_4).map fun r => [.int .i64 r] := specP_run (cCons k74 cNil) (fun x => p_spyref3_AskFault L x.1.1 x.1.2.1 x.1.2.2.1 x.1.2.2.2.1 x.1.2.2.2.2.1) (fun r => [.int .i64 r]) ((a0_0, a0_1, a0_2, a0_3, a0_4, ()), ())
theorem ok_spyref3_AskFault (L : Nat) (hL : L ≤ 4611686018427387904) : SpecOk Try.prog 38 (s_spyref3_AskFault L) := specP_ok mixed (Go_spyref3_AskFault L hL) (To_spyref3_AskFault L) fun x r h => ⟨L, 1, e_spyref3_AskFault L hL x.1.1 x.1.2.1 x.1.2.2.1 x.1.2.2.2.1 x.1.2.2.2.2.1 r h⟩
end Go.Proofs.Ytnojehmbiceceaa.P
end
section
set_option linter.unusedVariables false
set_option linter.unusedSimpArgs false
set_option maxRecDepth 100000
namespace Go.Proofs.Ytnojehmbiceceaa.E
open Go.Ev
noncomputable def en42 : Entry := ⟨Try.f42, [(0, mb 35 0 [0, 9, 10, 11]), (1000001, mb 35 0 []), (1000002, mb 35 0 [0, 9, 10, 11]), (1000000, mb 35 0 [2])]⟩
theorem dw42_9 (lv : Nat) (env : List V) (st : Store) (o : Option (List V × Store)) : drawR en42.ms 9 lv env st o = if lv < 1000000000000000000000000000000 then (o) else none := nr rfl
theorem kl42_9 (lv : Nat) (st : Store) : killR en42.ms 9 lv st = st := nr rfl
theorem nc42_9 : ncOf en42.ms 9 = false := nr rfl
theorem mk42_0 (vs : List V) : mask (maskOf en42.ms 0) vs = km 35 0 [0, 9, 10, 11] vs := mask_mb _ _ _ _
theorem mk42_1000001 (vs : List V) : mask (maskOf en42.ms 1000001) vs = km 35 0 [] vs := mask_mb _ _ _ _
theorem mk42_1000002 (vs : List V) : mask (maskOf en42.ms 1000002) vs = km 35 0 [0, 9, 10, 11] vs := mask_mb _ _ _ _
theorem mk42_1000000 (vs : List V) : mask (maskOf en42.ms 1000000) vs = km 35 0 [2] vs := mask_mb _ _ _ _
theorem fz42_0 (lv : Nat) (f : Run) : frzF en42.ms lv 0 f = f := nr rfl
theorem fi42_0 (lv : Nat) (env : List V) (st : Store) (q : Store → Out) : frzI en42.ms lv 0 env st q = q st := nr rfl
noncomputable def lb42_0 : Code := loopN Try.f42 0
end Go.Proofs.Ytnojehmbiceceaa.E
end
section
set_option linter.unusedVariables false
set_option linter.unusedSimpArgs false
set_option maxRecDepth 100000
namespace Go.Proofs.Ytnojehmbiceceaa.E
open Go.Ev
noncomputable def en46 : Entry := ⟨Try.f46, [(0, mb 83 0 [1, 34, 35, 36]), (2, mb 83 0 [1, 5, 53, 54, 55]), (1000001, mb 83 0 [1]), (1000002, mb 83 0 [1, 34, 35, 36]), (1000003, mb 83 0 [1]), (1000004, mb 83 0 [1, 5, 53, 54, 55]), (1000000, mb 83 0 [2])]⟩
theorem dw46_3 (lv : Nat) (env : List V) (st : Store) (o : Option (List V × Store)) : drawR en46.ms 3 lv env st o = if lv < 1000000000000000000000000000000 then (o) else none := nr rfl
theorem kl46_3 (lv : Nat) (st : Store) : killR en46.ms 3 lv st = st := nr rfl
theorem nc46_3 : ncOf en46.ms 3 = false := nr rfl
theorem mk46_0 (vs : List V) : mask (maskOf en46.ms 0) vs = km 83 0 [1, 34, 35, 36] vs := mask_mb _ _ _ _
theorem mk46_2 (vs : List V) : mask (maskOf en46.ms 2) vs = km 83 0 [1, 5, 53, 54, 55] vs := mask_mb _ _ _ _
theorem mk46_1000001 (vs : List V) : mask (maskOf en46.ms 1000001) vs = km 83 0 [1] vs := mask_mb _ _ _ _
theorem mk46_1000002 (vs : List V) : mask (maskOf en46.ms 1000002) vs = km 83 0 [1, 34, 35, 36] vs := mask_mb _ _ _ _
theorem mk46_1000003 (vs : List V) : mask (maskOf en46.ms 1000003) vs = km 83 0 [1] vs := mask_mb _ _ _ _
theorem mk46_1000004 (vs : List V) : mask (maskOf en46.ms 1000004) vs = km 83 0 [1, 5, 53, 54, 55] vs := mask_mb _ _ _ _
theorem mk46_1000000 (vs : List V) : mask (maskOf en46.ms 1000000) vs = km 83 0 [2] vs := mask_mb _ _ _ _
theorem fz46_0 (lv : Nat) (f : Run) : frzF en46.ms lv 0 f = f := nr rfl
theorem fi46_0 (lv : Nat) (env : List V) (st : Store) (q : Store → Out) : frzI en46.ms lv 0 env st q = q st := nr rfl
theorem fz46_2 (lv : Nat) (f : Run) : frzF en46.ms lv 2 f = f := nr rfl
theorem fi46_2 (lv : Nat) (env : List V) (st : Store) (q : Store → Out) : frzI en46.ms lv 2 env st q = q st := nr rfl
noncomputable def lb46_0 : Code := loopN Try.f46 0
noncomputable def lb46_2 : Code := loopN Try.f46 1
end Go.Proofs.Ytnojehmbiceceaa.E
end
section
set_option linter.unusedVariables false
set_option linter.unusedSimpArgs false
set_option maxRecDepth 100000
namespace Go.Proofs.Ytnojehmbiceceaa.E
open Go.Ev
noncomputable def en128 : Entry := ⟨Try.f128, [(1000001, mb 56 0 []), (1000000, mb 56 0 [6])]⟩
theorem mk128_1000001 (vs : List V) : mask (maskOf en128.ms 1000001) vs = km 56 0 [] vs := mask_mb _ _ _ _
theorem mk128_1000000 (vs : List V) : mask (maskOf en128.ms 1000000) vs = km 56 0 [6] vs := mask_mb _ _ _ _
end Go.Proofs.Ytnojehmbiceceaa.E
end
end
