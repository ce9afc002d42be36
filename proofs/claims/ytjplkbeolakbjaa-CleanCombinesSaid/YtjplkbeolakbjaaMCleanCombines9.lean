/- Parts of one proof, joined: G52, E53, E100, E101, G53, E54, E102, G102, G54, E55, E25. -/
import Derived.Test.YtjplkbeolakbjaaMCleanCombines8
import Derived.Test.YtjplkbeolakbjaaProg
section
set_option linter.unusedVariables false
set_option linter.unusedSimpArgs false
set_option maxRecDepth 100000
namespace Go.Proofs.Ytjplkbeolakbjaa.P
open Go.Ev Go.IntKind Go.Proofs.Ytjplkbeolakbjaa Go.Proofs.Ytjplkbeolakbjaa.Ty Go.Proofs.Ytjplkbeolakbjaa.E
def p_clean_Combine_l1 (L : Nat) (s5 : Int) : List (Int × Int × (List (Int × Int × Bool × Unit)) × Unit) → (List (Int × Int × Bool × Unit)) → Option (List (Int × Int × Bool × Unit))
  | [], s30 => some s30
  | x27 :: tl, s30 => bnd (idx x27.2.2.1 s5) fun x32 => rq (s30.length + 1 ≤ maxRow) <| rq ((s30.length + 1) * 24 ≤ maxRow) <| p_clean_Combine_l1 L s5 tl (s30 ++ [x32])
def p_clean_Combine_l0 (L : Nat) (a0 : List (Int × Int × (List (Int × Int × Bool × Unit)) × Unit)) (a1 : Int) : Nat → Int → (List (Int × Int × Bool × Unit)) → Option (List (Int × Int × Bool × Unit))
  | 0, s5, s17 => some s17
  | tl + 1, s5, s17 => rq (a0.length < L) <| bnd (p_clean_Combine_l1 L s5 a0 ([])) fun o33 => bnd (p_bound_Fuse_Quanta L o33 a1) fun r35 => rq (s17.length + 1 ≤ maxRow) <| rq ((s17.length + 1) * 24 ≤ maxRow) <| p_clean_Combine_l0 L a0 a1 tl (s5 + 1) (s17 ++ [(r35.1, r35.2.1, r35.2.2, ())])
def p_clean_Combine (L : Nat) (a0 : List (Int × Int × (List (Int × Int × Bool × Unit)) × Unit)) (a1 : Int) : Option (Int × Int × (List (Int × Int × Bool × Unit)) × Int) := bnd (p_clean_valid L a0 a1) fun r1 => cb (decide (r1 = 0)) (bnd (idx a0 0) fun x2 => rq ((x2.2.2.1.length : Int).toNat < L) <| rq ((x2.2.2.1.length : Int) < 4611686018427387904) <| bnd (p_clean_Combine_l0 L a0 a1 (x2.2.2.1.length : Int).toNat 0 ([])) fun o36 => some (x2.1, x2.2.1, o36, 0)) (some (0, 0, ([] : List (Int × Int × Bool × Unit)), r1))
attribute [local go_sem] Ev.putR_s Ev.putR_0 Ev.thenO_s Ev.thenO_0 Ev.seqR_n Ev.seqR_e Ev.seqR_r Ev.seqR_0 Ev.blkR_e Ev.blkR_n Ev.blkR_r Ev.blkR_0 Ev.normR_s Ev.normR_0 Ev.outR_r Ev.outR_n Ev.outR_0 Ev.retS_s Ev.retS_0 Ev.pureO_s Ev.pureO_0 Ev.topR_0 Ev.topR_t Ev.topR_t0 Ev.oneL_0 Ev.oneL_s Ev.topR_d Ev.topR_nils Ev.topR_agg Ev.topR_rs Ev.evOp_move Ev.evOp_assign Ev.evOp_pick Ev.evOp_alloc Ev.evOp_box Ev.evOp_build Ev.evOp_buildSlice Ev.evOp_load Ev.evOp_store Ev.evOp_makeMap Ev.evOp_lookup Ev.evOp_mapUpdate Ev.evOp_insert Ev.evOp_nilCheck Ev.evOp_binOp Ev.evOp_unOp Ev.evOp_convert Ev.evOp_makeFunc Ev.evOp_makeSlice Ev.evOp_slice Ev.evOp_fieldAddr Ev.evOp_field Ev.evOp_indexAddr Ev.evOp_index Ev.evOp_extract Ev.evOp_call Ev.evOp_append Ev.evOp_clear Ev.evOp_len Ev.evOp_min Ev.evOp_max Ev.condR_b Ev.condR_t Ev.evOps_nil Ev.evOps_plain Ev.evOps_guard Ev.runG_eq Ev.skipG_eq Ev.condL_tt Ev.condL_ff Ev.condL_tf Ev.condL_ft Ev.condL_u Ev.condC_t Ev.condC_f Ev.evC_skip Ev.evC_ret Ev.evC_exit Ev.evC_label Ev.evC_region Ev.evC_draw Ev.evC_seq Ev.evC_cond Ev.evC_block Ev.evC_loop Ev.fin_d Ev.fin_nils Ev.fin_agg_ Ev.fin_rs Ev.finS_s Ev.mapO_fin Ev.upd_upd Ev.argv_d Ev.argv_nils Ev.argv_agg Ev.argv_rs Ev.argv_p Ev.fk_low Ev.appendTo_nils Ev.appendTo_rs Ev.consV_d Ev.consV_agg Ev.consV_p Ev.consV_rs Ev.consV_nils Ev.consV_fn Ev.consV_und Ev.consV_jk Ev.consV_grown Ev.topR_grown Ev.len_grown Ev.consV_mp Ev.sameK_i Ev.sameK_s Ev.mget_0 Ev.mget_hit Ev.mget_miss Ev.mput_0 Ev.mput_hit Ev.mput_miss Ev.apartAll Ev.apartL Ev.apartV Ev.freeAll Ev.sel Ev.keyOfV Ev.evLookup Ev.evPut Ev.hintOk Ev.keyOk Ev.consP Ev.lookV Ev.guardV Ev.dstAt Ev.evPure Ev.evStore Ev.evBin Ev.evBinO Ev.evNil Ev.isNilC Ev.evUn Ev.evConv Ev.evSlice Ev.optI Ev.foldI Ev.capsOk Ev.noTup Ev.nth Ev.setN Ev.killAt Ev.pad Ev.V.get Ev.V.put Ev.putD Ev.newBlk Ev.upd Ev.keq Ev.empty Ev.evCall Ev.V.args Ev.argP Ev.callOf Ev.evNilP Ev.isNilP Ev.look Ev.V.view.views Ev.V.view Ev.V.toD Ev.V.toD.V.toDs Ev.V.pure.pures Ev.V.pure Ev.D.flat.flats Ev.D.flat Ev.mkAgg Ev.allD Ev.aggParts Ev.setParts Ev.setElems Ev.getPath Ev.setPath Ev.subL Ev.eqD Ev.eqD.eqDs Ev.and2 Ev.strCut Ev.evalT Ev.constT Ev.evArgs Ev.mask Ev.maskOf Ev.tableOf Ev.compT Ev.resV Ev.retV Ev.mapO Ev.allD_gl Ev.killAt_i Ev.tkOne_i Ev.hT_agg Ev.hT_vagg Ev.hT_int Ev.hT_bool Ev.hT_str Ev.hT_sl Ev.hT_ptr Ev.hT_np Ev.hT_p Ev.hT_rs Ev.hT_mp Ev.hT_nils Ev.hT_fn Ev.hT_jk Ev.hT_gl Ev.eO_sl Ev.eO_nils Ev.eO_rs Ev.eT_sl Ev.eT_rs Ev.pL_str Ev.pL_sl Ev.pL_rs Ev.pL_nils Ev.pL_min Ev.pL_max Ev.len_glB Ev.noTup_gl Ev.rowV_len Ev.rowV_nil Ev.rowV_cons Ev.rowV_append Ev.rowV_set Ev.rowV_replicate Ev.nth_row Ev.row_take Ev.row_drop Ev.toDs_row Ev.fin_row Ev.map_row Ev.map_take_ Ev.map_drop_ Ev.Bk_i Ev.GlB_0 Ev.GlB_mk Ev.gl_nil Ev.gl_cons Ev.gl_snoc Ev.gl_setN Ev.appendTo_gl Ev.consV_gl Ev.elems_gl Ev.fin_gl Ev.view_gl Ev.argv_gl Ev.topR_gl Ev.sp_z Ev.sp_0 Ev.sp_s Ev.km_z Ev.km_0 Ev.km_s Ev.beq_toList Ev.nc0 Ev.bq_t Ev.bq_f Ev.bodyN Ev.le_maxRow Int.cast_ofNat_Int IntWalk.i64_in IntWalk.u64_in IntWalk.u8_in beq_self_eq_true Bool.true_beq Bool.false_beq Bool.and_true Bool.true_and Bool.false_and Bool.and_false Bool.and_self Bool.not_true Bool.not_false Bool.not_eq_true cond_true cond_false if_true if_false and_true true_and and_self decide_true decide_false Bool.or_true Bool.true_or Bool.or_false Bool.false_or List.isEmpty List.isEmpty_nil List.size_toArray List.map List.length_map List.length_cons List.length_nil Option.map Option.bind Option.getD Option.isSome List.replicate Bool.false_eq_true implies_true false_implies forall_const Array.toList Array.isEmpty List.append List.nil_append List.cons_append List.drop_zero List.take_length List.take_succ_cons List.take_zero List.take_nil List.getElem?_map List.getElem?_cons_zero List.getElem?_cons_succ List.getElem?_nil List.append_nil eq_self Int.toNat_natCast List.length_append Nat.zero_add Nat.add_zero List.length_replicate Nat.sub_zero Option.map_some Option.map_none Int.le_refl Nat.le_refl
noncomputable def G_clean_Combine (L : Nat) : Specs := [(98, s_clean_valid L), (99, s_bound_Fuse_Quanta L)]
noncomputable def T_clean_Combine : Table := tableOf [(52, en52)]
theorem Go_clean_Combine (L : Nat) (hL : L ≤ 4611686018427387904) : ∀ g s, Ev.look (G_clean_Combine L) g = some s → SpecOk Try.prog g s := (specs_cons (ok_clean_valid L hL) (specs_cons (ok_bound_Fuse_Quanta L hL) specs_nil))
theorem To_clean_Combine (L : Nat) : TableOk Try.prog ((G_clean_Combine L).map (·.1)) T_clean_Combine := (table_cons Try.func52 (by kernel_rfl) (by kernel_rfl) table_nil)
theorem lk_clean_Combine_98 (L : Nat) : Ev.look (G_clean_Combine L) 98 = some (s_clean_valid L) := nr rfl
theorem lk_clean_Combine_99 (L : Nat) : Ev.look (G_clean_Combine L) 99 = some (s_bound_Fuse_Quanta L) := nr rfl
attribute [local go_sem] Ty.tk3 Ty.ik3 Ty.ek3 Ty.zv3 Ty.by3 Ty.so3 Ty.tk4 Ty.ub4 Ty.ek4 Ty.zv4 Ty.by4 Ty.so4 Ty.tk27 Ty.ik27 Ty.ek27 Ty.zv27 Ty.by27 Ty.so27 Ty.tk35 Ty.zv35 Ty.by35 Ty.so35 Ty.tk36 Ty.ik36 Ty.ek36 Ty.zv36 Ty.by36 Ty.so36 Ty.tk43 Ty.ct43 Ty.ek43 Ty.zv43 Ty.by43 Ty.so43 Ty.tk80 Ty.zv80 Ty.by80 Ty.so80 Ty.tk82 Ty.ct82 Ty.zv82 Ty.by82 Ty.so82 Ty.k35_e Ty.k43_e Ty.k80_e Ty.k82_e E.dw52_4 E.kl52_4 E.nc52_4 E.dw52_14 E.kl52_14 E.nc52_14 E.mk52_0 E.mk52_2 E.mk52_1000001 E.mk52_1000002 E.mk52_1000003 E.mk52_1000004 E.mk52_1000000 E.lb52_0 E.lb52_2 lk_clean_Combine_98 lk_clean_Combine_99 s_clean_valid_run s_bound_Fuse_Quanta_run loopN loops Try.f52
def Q0_p_clean_Combine_l1 (a0 : List (Int × Int × (List (Int × Int × Bool × Unit)) × Unit)) (a1 : Int) (s5 : Int) (a4 : Int) (a6 : Int) (a7 : Int) (s17 : List (Int × Int × Bool × Unit)) (u : List (Int × Int × Bool × Unit)) (z : Out) : Prop := ∃ env st, z = some (.exit 2, env, st) ∧ env = sp 61 0 [(0, .d (.sl 82 (a0.map k82.e))), (1, .d (.int .i64 a1)), (4, .p (0, 4) (st (0, 4)).ver 0 []), (7, .p (0, 7) (st (0, 7)).ver 0 []), (9, gl 43 (0, 49) (st (0, 49)).ver (rowV k43.e u)), (32, .d (.int .i64 a4)), (33, .d (.int .i64 s5))] ∧ Bk (st (0, 4)) 82 [.agg 82 [.d (.int .i64 0), .d (.int .i64 0), .nils 43]] ∧ Bk (st (0, 7)) 82 [.agg 82 [.d (.int .i64 a6), .d (.int .i64 a7), gl 43 (0, 57) (st (0, 57)).ver (rowV k43.e s17)]] ∧ GlB (st (0, 49)) 43 (rowV k43.e u) ∧ GlB (st (0, 57)) 43 (rowV k43.e s17)
abbrev Q_p_clean_Combine_l1 (a0 : List (Int × Int × (List (Int × Int × Bool × Unit)) × Unit)) (a1 : Int) (s5 : Int) (a4 : Int) (a6 : Int) (a7 : Int) (s17 : List (Int × Int × Bool × Unit)) (o : List (Int × Int × Bool × Unit)) (z : Out) : Prop := Q0_p_clean_Combine_l1 a0 a1 s5 a4 a6 a7 s17 o z
theorem l_p_clean_Combine_l1 (L : Nat) (hL : L ≤ 4611686018427387904) (a0 : List (Int × Int × (List (Int × Int × Bool × Unit)) × Unit)) (a1 : Int) (s5 : Int) (a4 : Int) (a6 : Int) (a7 : Int) (s17 : List (Int × Int × Bool × Unit)) : ∀ (tl : List (Int × Int × (List (Int × Int × Bool × Unit)) × Unit)) (n : Nat) (s28 : Int) (s30 : List (Int × Int × Bool × Unit)) (env : List V) (st : Store) (o : List (Int × Int × Bool × Unit)), tl.length < n → Rng a0 s28 tl → mask (maskOf en52.ms 2) env = sp 61 0 [(0, .d (.sl 82 (a0.map k82.e))), (1, .d (.int .i64 a1)), (4, .p (0, 4) (st (0, 4)).ver 0 []), (7, .p (0, 7) (st (0, 7)).ver 0 []), (8, .d (.int .i64 s5)), (9, gl 43 (0, 49) (st (0, 49)).ver (rowV k43.e s30)), (32, .d (.int .i64 a4)), (33, .d (.int .i64 s5)), (36, .d (.sl 82 (a0.map k82.e))), (37, .d (.int .i64 (a0.length : Int))), (38, .d (.int .i64 s28))] → Bk (st (0, 4)) 82 [.agg 82 [.d (.int .i64 0), .d (.int .i64 0), .nils 43]] → Bk (st (0, 7)) 82 [.agg 82 [.d (.int .i64 a6), .d (.int .i64 a7), gl 43 (0, 57) (st (0, 57)).ver (rowV k43.e s17)]] → GlB (st (0, 49)) 43 (rowV k43.e s30) → GlB (st (0, 57)) 43 (rowV k43.e s17) → p_clean_Combine_l1 L s5 tl s30 = some o →
    Q_p_clean_Combine_l1 a0 a1 s5 a4 a6 a7 s17 o (iter (evC Try.prog (G_clean_Combine L) (evF Try.prog (G_clean_Combine L) T_clean_Combine L 0) L en52.ms 0 2 lb52_2) (maskOf en52.ms 2) n env st) := by
  intro tl
  induction tl with
  | nil =>
    intro n s28 s30 env st o hn hR he hb0 hb1 hb2 hb3 h
    obtain ⟨n, rfl⟩ : ∃ m, n = m + 1 := ⟨n - 1, by omega⟩
    obtain ⟨be0, bv0, bl0⟩ := hb0
    obtain ⟨be1, bv1, bl1⟩ := hb1
    have g0 := rng_nil hR
    rw [iter, he]
    clear he
    generalize hK : iter _ _ n = K
    rw [p_clean_Combine_l1] at h
    revert h
    rintro ⟨⟩
    simp only [go_sem, Nat.reduceAdd, Nat.reduceSub, Nat.reduceMul, Nat.reduceEqDiff, Nat.reduceBEq, Nat.reduceLT, Nat.reduceLeDiff, Nat.reducePow, Int.reduceToNat, Int.reduceLT, Int.reduceLE, Int.reduceGT, Int.reduceGE, Int.reduceEq, Int.reduceNeg, Int.reduceAdd, Int.reduceSub, Int.reduceMul, ↓reduceIte, reduceCtorEq, *]
    refine (⟨_, _, rfl, ?_, ?_, ?_, ?_, ?_⟩ : Q0_p_clean_Combine_l1 a0 a1 s5 a4 a6 a7 s17 _ _)
    all_goals simp only [go_sem, Nat.reduceAdd, Nat.reduceSub, Nat.reduceMul, Nat.reduceEqDiff, Nat.reduceBEq, Nat.reduceLT, Nat.reduceLeDiff, Nat.reducePow, Int.reduceToNat, Int.reduceLT, Int.reduceLE, Int.reduceGT, Int.reduceGE, Int.reduceEq, Int.reduceNeg, Int.reduceAdd, Int.reduceSub, Int.reduceMul, ↓reduceIte, reduceCtorEq, *]
  | cons x27 tl ih =>
    intro n s28 s30 env st o hn hR he hb0 hb1 hb2 hb3 h
    obtain ⟨n, rfl⟩ : ∃ m, n = m + 1 := ⟨n - 1, by omega⟩
    obtain ⟨be0, bv0, bl0⟩ := hb0
    obtain ⟨be1, bv1, bl1⟩ := hb1
    replace ih : Hold _ := ih
    replace hR := rng_s hR
    obtain ⟨g0, g1, g2, g3, hR⟩ := hR
    rw [iter, he]
    clear he
    generalize hK : iter _ _ n = K
    rw [p_clean_Combine_l1] at h
    revert h
    refine idx_i fun x32 c1 c2 c3 => ?_
    refine rq_i fun c4 => ?_
    refine rq_i fun c5 => ?_
    intro h
    simp only [go_sem, Nat.reduceAdd, Nat.reduceSub, Nat.reduceMul, Nat.reduceEqDiff, Nat.reduceBEq, Nat.reduceLT, Nat.reduceLeDiff, Nat.reducePow, Int.reduceToNat, Int.reduceLT, Int.reduceLE, Int.reduceGT, Int.reduceGE, Int.reduceEq, Int.reduceNeg, Int.reduceAdd, Int.reduceSub, Int.reduceMul, ↓reduceIte, reduceCtorEq, *]
    subst hK
    refine ih n (s28 + 1) (s30 ++ [x32]) _ _ _ (by simp only [List.length_cons] at hn; omega) hR ?_ ?_ ?_ ?_ ?_ h
    all_goals simp only [go_sem, Nat.reduceAdd, Nat.reduceSub, Nat.reduceMul, Nat.reduceEqDiff, Nat.reduceBEq, Nat.reduceLT, Nat.reduceLeDiff, Nat.reducePow, Int.reduceToNat, Int.reduceLT, Int.reduceLE, Int.reduceGT, Int.reduceGE, Int.reduceEq, Int.reduceNeg, Int.reduceAdd, Int.reduceSub, Int.reduceMul, ↓reduceIte, reduceCtorEq, *]
def Q0_p_clean_Combine_l0 (a0 : List (Int × Int × (List (Int × Int × Bool × Unit)) × Unit)) (a1 : Int) (a4 : Int) (a6 : Int) (a7 : Int) (u : List (Int × Int × Bool × Unit)) (z : Out) : Prop := ∃ env st, z = some (.exit 0, env, st) ∧ env = sp 61 0 [(4, .p (0, 4) (st (0, 4)).ver 0 []), (7, .p (0, 7) (st (0, 7)).ver 0 [])] ∧ Bk (st (0, 4)) 82 [.agg 82 [.d (.int .i64 0), .d (.int .i64 0), .nils 43]] ∧ Bk (st (0, 7)) 82 [.agg 82 [.d (.int .i64 a6), .d (.int .i64 a7), gl 43 (0, 57) (st (0, 57)).ver (rowV k43.e u)]] ∧ GlB (st (0, 57)) 43 (rowV k43.e u)
abbrev Q_p_clean_Combine_l0 (a0 : List (Int × Int × (List (Int × Int × Bool × Unit)) × Unit)) (a1 : Int) (a4 : Int) (a6 : Int) (a7 : Int) (o : List (Int × Int × Bool × Unit)) (z : Out) : Prop := Q0_p_clean_Combine_l0 a0 a1 a4 a6 a7 o z
theorem l_p_clean_Combine_l0 (L : Nat) (hL : L ≤ 4611686018427387904) (a0 : List (Int × Int × (List (Int × Int × Bool × Unit)) × Unit)) (a1 : Int) (a4 : Int) (a6 : Int) (a7 : Int) : ∀ (tl n : Nat) (s5 : Int) (s17 : List (Int × Int × Bool × Unit)) (env : List V) (st : Store) (o : List (Int × Int × Bool × Unit)), tl < n → Cnt a4 s5 tl → mask (maskOf en52.ms 0) env = sp 61 0 [(0, .d (.sl 82 (a0.map k82.e))), (1, .d (.int .i64 a1)), (4, .p (0, 4) (st (0, 4)).ver 0 []), (7, .p (0, 7) (st (0, 7)).ver 0 []), (32, .d (.int .i64 a4)), (33, .d (.int .i64 s5))] → Bk (st (0, 4)) 82 [.agg 82 [.d (.int .i64 0), .d (.int .i64 0), .nils 43]] → Bk (st (0, 7)) 82 [.agg 82 [.d (.int .i64 a6), .d (.int .i64 a7), gl 43 (0, 57) (st (0, 57)).ver (rowV k43.e s17)]] → GlB (st (0, 57)) 43 (rowV k43.e s17) → p_clean_Combine_l0 L a0 a1 tl s5 s17 = some o →
    Q_p_clean_Combine_l0 a0 a1 a4 a6 a7 o (iter (evC Try.prog (G_clean_Combine L) (evF Try.prog (G_clean_Combine L) T_clean_Combine L 0) L en52.ms 0 0 lb52_0) (maskOf en52.ms 0) n env st) := by
  intro tl
  induction tl with
  | zero =>
    intro n s5 s17 env st o hn hR he hb0 hb1 hb2 h
    obtain ⟨n, rfl⟩ : ∃ m, n = m + 1 := ⟨n - 1, by omega⟩
    obtain ⟨be0, bv0, bl0⟩ := hb0
    obtain ⟨be1, bv1, bl1⟩ := hb1
    have g0 := cnt_nil hR
    rw [iter, he]
    clear he
    generalize hK : iter _ _ n = K
    rw [p_clean_Combine_l0] at h
    revert h
    rintro ⟨⟩
    simp only [go_sem, Nat.reduceAdd, Nat.reduceSub, Nat.reduceMul, Nat.reduceEqDiff, Nat.reduceBEq, Nat.reduceLT, Nat.reduceLeDiff, Nat.reducePow, Int.reduceToNat, Int.reduceLT, Int.reduceLE, Int.reduceGT, Int.reduceGE, Int.reduceEq, Int.reduceNeg, Int.reduceAdd, Int.reduceSub, Int.reduceMul, ↓reduceIte, reduceCtorEq, *]
    refine (⟨_, _, rfl, ?_, ?_, ?_, ?_⟩ : Q0_p_clean_Combine_l0 a0 a1 a4 a6 a7 _ _)
    all_goals simp only [go_sem, Nat.reduceAdd, Nat.reduceSub, Nat.reduceMul, Nat.reduceEqDiff, Nat.reduceBEq, Nat.reduceLT, Nat.reduceLeDiff, Nat.reducePow, Int.reduceToNat, Int.reduceLT, Int.reduceLE, Int.reduceGT, Int.reduceGE, Int.reduceEq, Int.reduceNeg, Int.reduceAdd, Int.reduceSub, Int.reduceMul, ↓reduceIte, reduceCtorEq, *]
  | succ tl ih =>
    intro n s5 s17 env st o hn hR he hb0 hb1 hb2 h
    obtain ⟨n, rfl⟩ : ∃ m, n = m + 1 := ⟨n - 1, by omega⟩
    obtain ⟨be0, bv0, bl0⟩ := hb0
    obtain ⟨be1, bv1, bl1⟩ := hb1
    replace ih : Hold _ := ih
    replace hR := cnt_s hR
    obtain ⟨g0, g1, g3, hR⟩ := hR
    rw [iter, he]
    clear he
    generalize hK : iter _ _ n = K
    rw [p_clean_Combine_l0] at h
    revert h
    refine rq_i fun c1 => ?_
    refine bnd_i fun o33 ho2 => ?_
    intro h
    simp only [go_sem, Nat.reduceAdd, Nat.reduceSub, Nat.reduceMul, Nat.reduceEqDiff, Nat.reduceBEq, Nat.reduceLT, Nat.reduceLeDiff, Nat.reducePow, Int.reduceToNat, Int.reduceLT, Int.reduceLE, Int.reduceGT, Int.reduceGE, Int.reduceEq, Int.reduceNeg, Int.reduceAdd, Int.reduceSub, Int.reduceMul, ↓reduceIte, reduceCtorEq, *]
    generalize hz4 : iter _ _ _ _ _ = z3
    have hq5 : Q_p_clean_Combine_l1 a0 a1 s5 a4 a6 a7 s17 o33 z3 := by
      rw [← hz4]
      refine l_p_clean_Combine_l1 L hL a0 a1 s5 a4 a6 a7 s17 a0 L 0 ([]) _ _ _ c1 (rng_0 c1 hL) ?_ ?_ ?_ ?_ ?_ ho2
      all_goals simp only [go_sem, Nat.reduceAdd, Nat.reduceSub, Nat.reduceMul, Nat.reduceEqDiff, Nat.reduceBEq, Nat.reduceLT, Nat.reduceLeDiff, Nat.reducePow, Int.reduceToNat, Int.reduceLT, Int.reduceLE, Int.reduceGT, Int.reduceGE, Int.reduceEq, Int.reduceNeg, Int.reduceAdd, Int.reduceSub, Int.reduceMul, ↓reduceIte, reduceCtorEq, *]
    clear hz4 ho2
    obtain ⟨_, st34, rfl, rfl, ⟨k61, k62, k63⟩, ⟨k71, k72, k73⟩, k8, k9⟩ := hq5
    revert h
    refine bnd_i fun r35 c10 => ?_
    refine rq_i fun c11 => ?_
    refine rq_i fun c12 => ?_
    intro h
    simp only [go_sem, Nat.reduceAdd, Nat.reduceSub, Nat.reduceMul, Nat.reduceEqDiff, Nat.reduceBEq, Nat.reduceLT, Nat.reduceLeDiff, Nat.reducePow, Int.reduceToNat, Int.reduceLT, Int.reduceLE, Int.reduceGT, Int.reduceGE, Int.reduceEq, Int.reduceNeg, Int.reduceAdd, Int.reduceSub, Int.reduceMul, ↓reduceIte, reduceCtorEq, *]
    subst hK
    refine ih n (s5 + 1) (s17 ++ [(r35.1, r35.2.1, r35.2.2, ())]) _ _ _ (by omega) hR ?_ ?_ ?_ ?_ h
    all_goals simp only [go_sem, Nat.reduceAdd, Nat.reduceSub, Nat.reduceMul, Nat.reduceEqDiff, Nat.reduceBEq, Nat.reduceLT, Nat.reduceLeDiff, Nat.reducePow, Int.reduceToNat, Int.reduceLT, Int.reduceLE, Int.reduceGT, Int.reduceGE, Int.reduceEq, Int.reduceNeg, Int.reduceAdd, Int.reduceSub, Int.reduceMul, ↓reduceIte, reduceCtorEq, *]
theorem e_clean_Combine (L : Nat) (hL : L ≤ 4611686018427387904) (a0 : List (Int × Int × (List (Int × Int × Bool × Unit)) × Unit)) (a1 : Int) (res : Int × Int × (List (Int × Int × Bool × Unit)) × Int) (h : p_clean_Combine L a0 a1 = some res) : evTop Try.prog (G_clean_Combine L) T_clean_Combine L 1 52 [.sl 82 (a0.map k82.e), .int .i64 a1] = some [.agg 82 [.int .i64 res.1, .int .i64 res.2.1, .sl 43 (res.2.2.1.map k43.e)], .int .i64 res.2.2.2] := by
  revert h
  unfold p_clean_Combine evTop
  simp only [List.map]
  rw [evF_s (fn := Try.f52) (msk := en52.ms) (hT := by rfl) (hb := by rfl)]
  refine bnd_i fun r1 c1 => ?_
  refine cb_i (fun c2 => ?_) (fun c2 => ?_)
  · refine idx_i fun x2 c3 c4 c5 => ?_
    have c5 : a0[0]? = some x2 := c5
    refine rq_i fun c6 => ?_
    refine rq_i fun c7 => ?_
    refine bnd_i fun o36 ho8 => ?_
    intro h
    simp only [go_sem, Nat.reduceAdd, Nat.reduceSub, Nat.reduceMul, Nat.reduceEqDiff, Nat.reduceBEq, Nat.reduceLT, Nat.reduceLeDiff, Nat.reducePow, Int.reduceToNat, Int.reduceLT, Int.reduceLE, Int.reduceGT, Int.reduceGE, Int.reduceEq, Int.reduceNeg, Int.reduceAdd, Int.reduceSub, Int.reduceMul, ↓reduceIte, reduceCtorEq, *]
    generalize hz10 : iter _ _ _ _ _ = z9
    have hq11 : Q_p_clean_Combine_l0 a0 a1 (x2.2.2.1.length : Int) x2.1 x2.2.1 o36 z9 := by
      rw [← hz10]
      refine l_p_clean_Combine_l0 L hL a0 a1 (x2.2.2.1.length : Int) x2.1 x2.2.1 _ L 0 ([]) _ _ _ c6 (cnt_00 (by decide) c7) ?_ ?_ ?_ ?_ ho8
      all_goals simp only [go_sem, Nat.reduceAdd, Nat.reduceSub, Nat.reduceMul, Nat.reduceEqDiff, Nat.reduceBEq, Nat.reduceLT, Nat.reduceLeDiff, Nat.reducePow, Int.reduceToNat, Int.reduceLT, Int.reduceLE, Int.reduceGT, Int.reduceGE, Int.reduceEq, Int.reduceNeg, Int.reduceAdd, Int.reduceSub, Int.reduceMul, ↓reduceIte, reduceCtorEq, *]
    clear hz10 ho8
    obtain ⟨_, st37, rfl, rfl, ⟨k121, k122, k123⟩, ⟨k131, k132, k133⟩, k14⟩ := hq11
    revert h
    rintro ⟨⟩
    simp only [go_sem, Nat.reduceAdd, Nat.reduceSub, Nat.reduceMul, Nat.reduceEqDiff, Nat.reduceBEq, Nat.reduceLT, Nat.reduceLeDiff, Nat.reducePow, Int.reduceToNat, Int.reduceLT, Int.reduceLE, Int.reduceGT, Int.reduceGE, Int.reduceEq, Int.reduceNeg, Int.reduceAdd, Int.reduceSub, Int.reduceMul, ↓reduceIte, reduceCtorEq, *]
  · rintro ⟨⟩
    simp only [go_sem, Nat.reduceAdd, Nat.reduceSub, Nat.reduceMul, Nat.reduceEqDiff, Nat.reduceBEq, Nat.reduceLT, Nat.reduceLeDiff, Nat.reducePow, Int.reduceToNat, Int.reduceLT, Int.reduceLE, Int.reduceGT, Int.reduceGE, Int.reduceEq, Int.reduceNeg, Int.reduceAdd, Int.reduceSub, Int.reduceMul, ↓reduceIte, reduceCtorEq, *]
noncomputable def s_clean_Combine (L : Nat) : Ev.Spec := specP (cCons k80 (cCons (cI .i64) cNil)) (fun x => p_clean_Combine L x.1 x.2.1) (fun r => [.agg 82 [.int .i64 r.1, .int .i64 r.2.1, .sl 43 (r.2.2.1.map k43.e)], .int .i64 r.2.2.2])
theorem s_clean_Combine_run (L : Nat) (a0 : List (Int × Int × (List (Int × Int × Bool × Unit)) × Unit)) (a1 : Int) : (s_clean_Combine L).run [.sl 82 (a0.map k82.e), .int .i64 a1] = (p_clean_Combine L a0 a1).map fun r => [.agg 82 [.int .i64 r.1, .int .i64 r.2.1, .sl 43 (r.2.2.1.map k43.e)], .int .i64 r.2.2.2] := specP_run (cCons k80 (cCons (cI .i64) cNil)) (fun x => p_clean_Combine L x.1 x.2.1) (fun r => [.agg 82 [.int .i64 r.1, .int .i64 r.2.1, .sl 43 (r.2.2.1.map k43.e)], .int .i64 r.2.2.2]) (a0, a1, ())
theorem ok_clean_Combine (L : Nat) (hL : L ≤ 4611686018427387904) : SpecOk Try.prog 52 (s_clean_Combine L) := specP_ok mixed (Go_clean_Combine L hL) (To_clean_Combine L) fun x r h => ⟨L, 1, e_clean_Combine L hL x.1 x.2.1 r h⟩
end Go.Proofs.Ytjplkbeolakbjaa.P
end
section
set_option linter.unusedVariables false
set_option linter.unusedSimpArgs false
set_option maxRecDepth 100000
namespace Go.Proofs.Ytjplkbeolakbjaa.E
open Go.Ev
noncomputable def en53 : Entry := ⟨Try.f53, [(0, mb 88 0 [1, 2, 4, 16, 17, 18]), (2, mb 88 0 [1, 2, 4, 29, 30, 31]), (1000001, mb 88 0 [1, 2, 4]), (1000002, mb 88 0 [1, 2, 4, 16, 17, 18]), (1000003, mb 88 0 [1, 2, 4]), (1000004, mb 88 0 [1, 2, 4, 29, 30, 31]), (1000000, mb 88 0 [4, 5]), (5000020, mb 88 0 [11])]⟩
theorem dw53_13 (lv : Nat) (env : List V) (st : Store) (o : Option (List V × Store)) : drawR en53.ms 13 lv env st o = if lv < 1000000000000000000000000000000 then (o) else none := nr rfl
theorem kl53_13 (lv : Nat) (st : Store) : killR en53.ms 13 lv st = st := nr rfl
theorem nc53_13 : ncOf en53.ms 13 = false := nr rfl
theorem dw53_20 (lv : Nat) (env : List V) (st : Store) (o : Option (List V × Store)) : drawR en53.ms 20 lv env st o = if lv < 1000000000000000000000000000000 then (if (!(st (lv, 11)).live && true) = true then (o) else none) else none := nr rfl
theorem kl53_20 (lv : Nat) (st : Store) : killR en53.ms 20 lv st = killAt (st) (lv, 11) := nr rfl
theorem nc53_20 : ncOf en53.ms 20 = false := nr rfl
theorem dw53_21 (lv : Nat) (env : List V) (st : Store) (o : Option (List V × Store)) : drawR en53.ms 21 lv env st o = if lv < 1000000000000000000000000000000 then (o) else none := nr rfl
theorem kl53_21 (lv : Nat) (st : Store) : killR en53.ms 21 lv st = st := nr rfl
theorem nc53_21 : ncOf en53.ms 21 = false := nr rfl
theorem mk53_0 (vs : List V) : mask (maskOf en53.ms 0) vs = km 88 0 [1, 2, 4, 16, 17, 18] vs := mask_mb _ _ _ _
theorem mk53_2 (vs : List V) : mask (maskOf en53.ms 2) vs = km 88 0 [1, 2, 4, 29, 30, 31] vs := mask_mb _ _ _ _
theorem mk53_1000001 (vs : List V) : mask (maskOf en53.ms 1000001) vs = km 88 0 [1, 2, 4] vs := mask_mb _ _ _ _
theorem mk53_1000002 (vs : List V) : mask (maskOf en53.ms 1000002) vs = km 88 0 [1, 2, 4, 16, 17, 18] vs := mask_mb _ _ _ _
theorem mk53_1000003 (vs : List V) : mask (maskOf en53.ms 1000003) vs = km 88 0 [1, 2, 4] vs := mask_mb _ _ _ _
theorem mk53_1000004 (vs : List V) : mask (maskOf en53.ms 1000004) vs = km 88 0 [1, 2, 4, 29, 30, 31] vs := mask_mb _ _ _ _
theorem mk53_1000000 (vs : List V) : mask (maskOf en53.ms 1000000) vs = km 88 0 [4, 5] vs := mask_mb _ _ _ _
noncomputable def lb53_0 : Code := loopN Try.f53 0
noncomputable def lb53_2 : Code := loopN Try.f53 1
end Go.Proofs.Ytjplkbeolakbjaa.E
end
section
set_option linter.unusedVariables false
set_option linter.unusedSimpArgs false
set_option maxRecDepth 100000
namespace Go.Proofs.Ytjplkbeolakbjaa.E
open Go.Ev
noncomputable def en100 : Entry := ⟨Try.f100, [(0, mb 37 0 [1, 2, 3, 9, 13, 14]), (2, mb 37 0 [1, 2, 3, 9, 10, 11, 13, 14, 17, 18]), (1000001, mb 37 0 [9]), (1000002, mb 37 0 [1, 2, 3, 9, 13, 14]), (1000003, mb 37 0 [1, 2, 3, 9, 11, 13, 14]), (1000004, mb 37 0 [1, 2, 3, 9, 10, 11, 13, 14, 17, 18]), (1000000, mb 37 0 [8])]⟩
theorem mk100_0 (vs : List V) : mask (maskOf en100.ms 0) vs = km 37 0 [1, 2, 3, 9, 13, 14] vs := mask_mb _ _ _ _
theorem mk100_2 (vs : List V) : mask (maskOf en100.ms 2) vs = km 37 0 [1, 2, 3, 9, 10, 11, 13, 14, 17, 18] vs := mask_mb _ _ _ _
theorem mk100_1000001 (vs : List V) : mask (maskOf en100.ms 1000001) vs = km 37 0 [9] vs := mask_mb _ _ _ _
theorem mk100_1000002 (vs : List V) : mask (maskOf en100.ms 1000002) vs = km 37 0 [1, 2, 3, 9, 13, 14] vs := mask_mb _ _ _ _
theorem mk100_1000003 (vs : List V) : mask (maskOf en100.ms 1000003) vs = km 37 0 [1, 2, 3, 9, 11, 13, 14] vs := mask_mb _ _ _ _
theorem mk100_1000004 (vs : List V) : mask (maskOf en100.ms 1000004) vs = km 37 0 [1, 2, 3, 9, 10, 11, 13, 14, 17, 18] vs := mask_mb _ _ _ _
theorem mk100_1000000 (vs : List V) : mask (maskOf en100.ms 1000000) vs = km 37 0 [8] vs := mask_mb _ _ _ _
noncomputable def lb100_0 : Code := loopN Try.f100 0
noncomputable def lb100_2 : Code := loopN Try.f100 1
end Go.Proofs.Ytjplkbeolakbjaa.E
end
section
set_option linter.unusedVariables false
set_option linter.unusedSimpArgs false
set_option maxRecDepth 100000
namespace Go.Proofs.Ytjplkbeolakbjaa.E
open Go.Ev
noncomputable def en101 : Entry := ⟨Try.f101, [(1000000, mb 14 0 [5])]⟩
theorem mk101_1000000 (vs : List V) : mask (maskOf en101.ms 1000000) vs = km 14 0 [5] vs := mask_mb _ _ _ _
end Go.Proofs.Ytjplkbeolakbjaa.E
end
section
set_option linter.unusedVariables false
set_option linter.unusedSimpArgs false
set_option maxRecDepth 100000
namespace Go.Proofs.Ytjplkbeolakbjaa.P
open Go.Ev Go.IntKind Go.Proofs.Ytjplkbeolakbjaa Go.Proofs.Ytjplkbeolakbjaa.Ty Go.Proofs.Ytjplkbeolakbjaa.E
def p_spyref3_Combined_l0 (L : Nat)  : List (Int × Int × (List (Int × Int × Bool × Unit)) × Unit) → Option (Sum Unit Int)
  | [] => some (.inl ())
  | x1 :: tl => bnd (p_spyref3_FieldFault L x1.1 x1.2.1 x1.2.2.1) fun r4 => cb (decide (r4 = 0)) (p_spyref3_Combined_l0 L  tl) (some (.inr r4))
def p_spyref3_Combined_l1 (L : Nat) (a0 : List (Int × Int × (List (Int × Int × Bool × Unit)) × Unit)) : List (Int × Int × (List (Int × Int × Bool × Unit)) × Unit) → Option (Sum Unit Unit)
  | [] => some (.inl ())
  | x7 :: tl => bnd (idx a0 0) fun x10 => cb (decide (x7.1 = x10.1)) (cb (decide (x7.2.1 = x10.2.1)) (p_spyref3_Combined_l1 L a0 tl) (some (.inr ()))) (some (.inr ()))
def p_spyref3_Combined_l3 (L : Nat) (s20 : Int) (a0 : List (Int × Int × (List (Int × Int × Bool × Unit)) × Unit)) : Nat → Int → (List (Int × Int × Bool × Unit)) → Option (List (Int × Int × Bool × Unit))
  | 0, s58, s61 => some s61
  | tl + 1, s58, s61 => bnd (idx a0 s58) fun x64 => bnd (idx x64.2.2.1 s20) fun x65 => rq (s61.length + 1 ≤ maxRow) <| rq ((s61.length + 1) * 24 ≤ maxRow) <| p_spyref3_Combined_l3 L s20 a0 tl (s58 + 1) (s61 ++ [x65])
def p_spyref3_Combined_l2 (L : Nat) (a18 : Int) (a1 : Int) (a0 : List (Int × Int × (List (Int × Int × Bool × Unit)) × Unit)) : Nat → Int → (List (Int × Int × Bool × Unit)) → Option (List (Int × Int × Bool × Unit))
  | 0, s20, s38 => some s38
  | tl + 1, s20, s38 => rq (a18.toNat < L) <| rq (a18 < 4611686018427387904) <| bnd (p_spyref3_Combined_l3 L s20 a0 a18.toNat 0 ([])) fun o66 => bnd (p_spyref3_Fused_Quanta L o66 a1) fun r68 => rq (s38.length + 1 ≤ maxRow) <| rq ((s38.length + 1) * 24 ≤ maxRow) <| p_spyref3_Combined_l2 L a18 a1 a0 tl (s20 + 1) (s38 ++ [(r68.1, r68.2.1, r68.2.2, ())])
def p_spyref3_Combined (L : Nat) (a0 : List (Int × Int × (List (Int × Int × Bool × Unit)) × Unit)) (a1 : Int) : Option (Int × Int × (List (Int × Int × Bool × Unit)) × Int) := if (a0.length : Int) > 8 then (some (0, 0, ([] : List (Int × Int × Bool × Unit)), 2)) else (rq (a0.length < L) <| bnd (p_spyref3_Combined_l0 L a0) fun o5 => match o5 with | (.inl o5_0) => (bnd (p_spyref3_Combined_l1 L a0 a0) fun o11 => match o11 with | (.inl o11_0) => (if a1 < 0 then (some (0, 0, ([] : List (Int × Int × Bool × Unit)), 1)) else (if a1 > 3 then (some (0, 0, ([] : List (Int × Int × Bool × Unit)), 14)) else (if (a0.length : Int) < (i64.wrap ((i64.wrap (2 * a1)) + 1)) then (some (0, 0, ([] : List (Int × Int × Bool × Unit)), 14)) else (bnd (idx a0 0) fun x13 => rq ((x13.2.2.1.length : Int).toNat < L) <| rq ((x13.2.2.1.length : Int) < 4611686018427387904) <| bnd (p_spyref3_Combined_l2 L (a0.length : Int) a1 a0 (x13.2.2.1.length : Int).toNat 0 ([])) fun o69 => some (x13.1, x13.2.1, o69, 0))))) | (.inr o11_1) => (some (0, 0, ([] : List (Int × Int × Bool × Unit)), 3))) | (.inr o5_1) => (some (0, 0, ([] : List (Int × Int × Bool × Unit)), o5_1)))
attribute [local go_sem] Ev.putR_s Ev.putR_0 Ev.thenO_s Ev.thenO_0 Ev.seqR_n Ev.seqR_e Ev.seqR_r Ev.seqR_0 Ev.blkR_e Ev.blkR_n Ev.blkR_r Ev.blkR_0 Ev.normR_s Ev.normR_0 Ev.outR_r Ev.outR_n Ev.outR_0 Ev.retS_s Ev.retS_0 Ev.pureO_s Ev.pureO_0 Ev.topR_0 Ev.topR_t Ev.topR_t0 Ev.oneL_0 Ev.oneL_s Ev.topR_d Ev.topR_nils Ev.topR_agg Ev.topR_rs Ev.evOp_move Ev.evOp_assign Ev.evOp_pick Ev.evOp_alloc Ev.evOp_box Ev.evOp_build Ev.evOp_buildSlice Ev.evOp_load Ev.evOp_store Ev.evOp_makeMap Ev.evOp_lookup Ev.evOp_mapUpdate Ev.evOp_insert Ev.evOp_nilCheck Ev.evOp_binOp Ev.evOp_unOp Ev.evOp_convert Ev.evOp_makeFunc Ev.evOp_makeSlice Ev.evOp_slice Ev.evOp_fieldAddr Ev.evOp_field Ev.evOp_indexAddr Ev.evOp_index Ev.evOp_extract Ev.evOp_call Ev.evOp_append Ev.evOp_clear Ev.evOp_len Ev.evOp_min Ev.evOp_max Ev.condR_b Ev.condR_t Ev.evOps_nil Ev.evOps_plain Ev.evOps_guard Ev.runG_eq Ev.skipG_eq Ev.condL_tt Ev.condL_ff Ev.condL_tf Ev.condL_ft Ev.condL_u Ev.condC_t Ev.condC_f Ev.evC_skip Ev.evC_ret Ev.evC_exit Ev.evC_label Ev.evC_region Ev.evC_draw Ev.evC_seq Ev.evC_cond Ev.evC_block Ev.evC_loop Ev.fin_d Ev.fin_nils Ev.fin_agg_ Ev.fin_rs Ev.finS_s Ev.mapO_fin Ev.upd_upd Ev.argv_d Ev.argv_nils Ev.argv_agg Ev.argv_rs Ev.argv_p Ev.fk_low Ev.appendTo_nils Ev.appendTo_rs Ev.consV_d Ev.consV_agg Ev.consV_p Ev.consV_rs Ev.consV_nils Ev.consV_fn Ev.consV_und Ev.consV_jk Ev.consV_grown Ev.topR_grown Ev.len_grown Ev.consV_mp Ev.sameK_i Ev.sameK_s Ev.mget_0 Ev.mget_hit Ev.mget_miss Ev.mput_0 Ev.mput_hit Ev.mput_miss Ev.apartAll Ev.apartL Ev.apartV Ev.freeAll Ev.sel Ev.keyOfV Ev.evLookup Ev.evPut Ev.hintOk Ev.keyOk Ev.consP Ev.lookV Ev.guardV Ev.dstAt Ev.evPure Ev.evStore Ev.evBin Ev.evBinO Ev.evNil Ev.isNilC Ev.evUn Ev.evConv Ev.evSlice Ev.optI Ev.foldI Ev.capsOk Ev.noTup Ev.nth Ev.setN Ev.killAt Ev.pad Ev.V.get Ev.V.put Ev.putD Ev.newBlk Ev.upd Ev.keq Ev.empty Ev.evCall Ev.V.args Ev.argP Ev.callOf Ev.evNilP Ev.isNilP Ev.look Ev.V.view.views Ev.V.view Ev.V.toD Ev.V.toD.V.toDs Ev.V.pure.pures Ev.V.pure Ev.D.flat.flats Ev.D.flat Ev.mkAgg Ev.allD Ev.aggParts Ev.setParts Ev.setElems Ev.getPath Ev.setPath Ev.subL Ev.eqD Ev.eqD.eqDs Ev.and2 Ev.strCut Ev.evalT Ev.constT Ev.evArgs Ev.mask Ev.maskOf Ev.tableOf Ev.compT Ev.resV Ev.retV Ev.mapO Ev.allD_gl Ev.killAt_i Ev.tkOne_i Ev.hT_agg Ev.hT_vagg Ev.hT_int Ev.hT_bool Ev.hT_str Ev.hT_sl Ev.hT_ptr Ev.hT_np Ev.hT_p Ev.hT_rs Ev.hT_mp Ev.hT_nils Ev.hT_fn Ev.hT_jk Ev.hT_gl Ev.eO_sl Ev.eO_nils Ev.eO_rs Ev.eT_sl Ev.eT_rs Ev.pL_str Ev.pL_sl Ev.pL_rs Ev.pL_nils Ev.pL_min Ev.pL_max Ev.len_glB Ev.noTup_gl Ev.rowV_len Ev.rowV_nil Ev.rowV_cons Ev.rowV_append Ev.rowV_set Ev.rowV_replicate Ev.nth_row Ev.row_take Ev.row_drop Ev.toDs_row Ev.fin_row Ev.map_row Ev.map_take_ Ev.map_drop_ Ev.Bk_i Ev.GlB_0 Ev.GlB_mk Ev.gl_nil Ev.gl_cons Ev.gl_snoc Ev.gl_setN Ev.appendTo_gl Ev.consV_gl Ev.elems_gl Ev.fin_gl Ev.view_gl Ev.argv_gl Ev.topR_gl Ev.sp_z Ev.sp_0 Ev.sp_s Ev.km_z Ev.km_0 Ev.km_s Ev.beq_toList Ev.nc0 Ev.bq_t Ev.bq_f Ev.bodyN Ev.le_maxRow Int.cast_ofNat_Int IntWalk.i64_in IntWalk.u64_in IntWalk.u8_in beq_self_eq_true Bool.true_beq Bool.false_beq Bool.and_true Bool.true_and Bool.false_and Bool.and_false Bool.and_self Bool.not_true Bool.not_false Bool.not_eq_true cond_true cond_false if_true if_false and_true true_and and_self decide_true decide_false Bool.or_true Bool.true_or Bool.or_false Bool.false_or List.isEmpty List.isEmpty_nil List.size_toArray List.map List.length_map List.length_cons List.length_nil Option.map Option.bind Option.getD Option.isSome List.replicate Bool.false_eq_true implies_true false_implies forall_const Array.toList Array.isEmpty List.append List.nil_append List.cons_append List.drop_zero List.take_length List.take_succ_cons List.take_zero List.take_nil List.getElem?_map List.getElem?_cons_zero List.getElem?_cons_succ List.getElem?_nil List.append_nil eq_self Int.toNat_natCast List.length_append Nat.zero_add Nat.add_zero List.length_replicate Nat.sub_zero Option.map_some Option.map_none Int.le_refl Nat.le_refl
noncomputable def G_spyref3_Combined (L : Nat) : Specs := [(51, s_spyref3_FieldFault L), (126, s_spyref3_Fused_Quanta L)]
noncomputable def T_spyref3_Combined : Table := tableOf [(53, en53), (100, en100), (101, en101)]
theorem Go_spyref3_Combined (L : Nat) (hL : L ≤ 4611686018427387904) : ∀ g s, Ev.look (G_spyref3_Combined L) g = some s → SpecOk Try.prog g s := (specs_cons (ok_spyref3_FieldFault L hL) (specs_cons (ok_spyref3_Fused_Quanta L hL) specs_nil))
theorem To_spyref3_Combined (L : Nat) : TableOk Try.prog ((G_spyref3_Combined L).map (·.1)) T_spyref3_Combined := (table_cons Try.func53 (by kernel_rfl) (by kernel_rfl) (table_cons Try.func100 (by kernel_rfl) (by kernel_rfl) (table_cons Try.func101 (by kernel_rfl) (by kernel_rfl) table_nil)))
theorem lk_spyref3_Combined_51 (L : Nat) : Ev.look (G_spyref3_Combined L) 51 = some (s_spyref3_FieldFault L) := nr rfl
theorem lk_spyref3_Combined_126 (L : Nat) : Ev.look (G_spyref3_Combined L) 126 = some (s_spyref3_Fused_Quanta L) := nr rfl
theorem lk_spyref3_Combined_100 (L : Nat) : Ev.look (G_spyref3_Combined L) 100 = none := nr rfl
theorem in_spyref3_Combined_100 (L c lv : Nat) (xs : List V) (st : Store) : evF Try.prog (G_spyref3_Combined L) T_spyref3_Combined L (c + 1) 100 xs lv st = outR Try.prog Try.f100.results.toList (evC Try.prog (G_spyref3_Combined L) (evF Try.prog (G_spyref3_Combined L) T_spyref3_Combined L c) L en100.ms lv 0 (bodyN Try.f100) (pad xs Try.f100.ntmps) st) := evF_s (hT := by rfl) (hb := by rfl) ..
theorem lk_spyref3_Combined_101 (L : Nat) : Ev.look (G_spyref3_Combined L) 101 = none := nr rfl
theorem in_spyref3_Combined_101 (L c lv : Nat) (xs : List V) (st : Store) : evF Try.prog (G_spyref3_Combined L) T_spyref3_Combined L (c + 1) 101 xs lv st = outR Try.prog Try.f101.results.toList (evC Try.prog (G_spyref3_Combined L) (evF Try.prog (G_spyref3_Combined L) T_spyref3_Combined L c) L en101.ms lv 0 (bodyN Try.f101) (pad xs Try.f101.ntmps) st) := evF_s (hT := by rfl) (hb := by rfl) ..
attribute [local go_sem] Ty.tk3 Ty.ik3 Ty.ek3 Ty.zv3 Ty.by3 Ty.so3 Ty.tk4 Ty.ub4 Ty.ek4 Ty.zv4 Ty.by4 Ty.so4 Ty.tk27 Ty.ik27 Ty.ek27 Ty.zv27 Ty.by27 Ty.so27 Ty.tk35 Ty.zv35 Ty.by35 Ty.so35 Ty.tk36 Ty.ik36 Ty.ek36 Ty.zv36 Ty.by36 Ty.so36 Ty.tk43 Ty.ct43 Ty.ek43 Ty.zv43 Ty.by43 Ty.so43 Ty.tk80 Ty.zv80 Ty.by80 Ty.so80 Ty.tk82 Ty.ct82 Ty.zv82 Ty.by82 Ty.so82 Ty.tk130 Ty.zv130 Ty.by130 Ty.so130 Ty.k35_e Ty.k43_e Ty.k80_e Ty.k82_e E.dw53_13 E.kl53_13 E.nc53_13 E.dw53_20 E.kl53_20 E.nc53_20 E.dw53_21 E.kl53_21 E.nc53_21 E.mk53_0 E.mk53_2 E.mk53_1000001 E.mk53_1000002 E.mk53_1000003 E.mk53_1000004 E.mk53_1000000 E.mk100_0 E.mk100_2 E.mk100_1000001 E.mk100_1000002 E.mk100_1000003 E.mk100_1000004 E.mk100_1000000 E.mk101_1000000 E.lb53_0 E.lb53_2 E.lb100_0 E.lb100_2 lk_spyref3_Combined_51 lk_spyref3_Combined_126 lk_spyref3_Combined_100 in_spyref3_Combined_100 lk_spyref3_Combined_101 in_spyref3_Combined_101 s_spyref3_FieldFault_run s_spyref3_Fused_Quanta_run loopN loops Try.f53 Try.f100 Try.f101
def Q0_p_spyref3_Combined_l0 (a1 : Int) (a0 : List (Int × Int × (List (Int × Int × Bool × Unit)) × Unit)) (u : Unit) (z : Out) : Prop := ∃ env st, z = some (.exit 0, env, st) ∧ env = sp 88 0 [(1, .d (.int .i64 a1)), (2, .p (0, 2) (st (0, 2)).ver 0 []), (4, .p (0, 4) (st (0, 4)).ver 0 [])] ∧ Bk (st (0, 2)) 80 [.d (.sl 82 (a0.map k82.e))] ∧ Bk (st (0, 4)) 82 [.agg 82 [.d (.int .i64 0), .d (.int .i64 0), .nils 43]]
def Q1_p_spyref3_Combined_l0 (a1 : Int) (a0 : List (Int × Int × (List (Int × Int × Bool × Unit)) × Unit)) (u : Int) (z : Out) : Prop := ∃ env st, z = some (.ret, env, st) ∧ env = sp 88 0 [(4, .p (0, 4) (st (0, 4)).ver 0 []), (5, .d (.int .i64 u))] ∧ Bk (st (0, 4)) 82 [.agg 82 [.d (.int .i64 0), .d (.int .i64 0), .nils 43]]
def Q_p_spyref3_Combined_l0 (a1 : Int) (a0 : List (Int × Int × (List (Int × Int × Bool × Unit)) × Unit)) (o : Sum Unit Int) (z : Out) : Prop := match o with | (.inl u) => Q0_p_spyref3_Combined_l0 a1 a0 u z | (.inr u) => Q1_p_spyref3_Combined_l0 a1 a0 u z
theorem l_p_spyref3_Combined_l0 (L : Nat) (hL : L ≤ 4611686018427387904) (a1 : Int) (a0 : List (Int × Int × (List (Int × Int × Bool × Unit)) × Unit)) : ∀ (tl : List (Int × Int × (List (Int × Int × Bool × Unit)) × Unit)) (n : Nat) (s2 : Int) (env : List V) (st : Store) (o : Sum Unit Int), tl.length < n → Rng a0 s2 tl → mask (maskOf en53.ms 0) env = sp 88 0 [(1, .d (.int .i64 a1)), (2, .p (0, 2) (st (0, 2)).ver 0 []), (4, .p (0, 4) (st (0, 4)).ver 0 []), (16, .d (.sl 82 (a0.map k82.e))), (17, .d (.int .i64 (a0.length : Int))), (18, .d (.int .i64 s2))] → Bk (st (0, 2)) 80 [.d (.sl 82 (a0.map k82.e))] → Bk (st (0, 4)) 82 [.agg 82 [.d (.int .i64 0), .d (.int .i64 0), .nils 43]] → p_spyref3_Combined_l0 L  tl  = some o →
    Q_p_spyref3_Combined_l0 a1 a0 o (iter (evC Try.prog (G_spyref3_Combined L) (evF Try.prog (G_spyref3_Combined L) T_spyref3_Combined L 2) L en53.ms 0 0 lb53_0) (maskOf en53.ms 0) n env st) := by
  intro tl
  induction tl with
  | nil =>
    intro n s2  env st o hn hR he hb0 hb1 h
    obtain ⟨n, rfl⟩ : ∃ m, n = m + 1 := ⟨n - 1, by omega⟩
    obtain ⟨be0, bv0, bl0⟩ := hb0
    obtain ⟨be1, bv1, bl1⟩ := hb1
    have g0 := rng_nil hR
    rw [iter, he]
    clear he
    generalize hK : iter _ _ n = K
    rw [p_spyref3_Combined_l0] at h
    revert h
    rintro ⟨⟩
    simp only [go_sem, Nat.reduceAdd, Nat.reduceSub, Nat.reduceMul, Nat.reduceEqDiff, Nat.reduceBEq, Nat.reduceLT, Nat.reduceLeDiff, Nat.reducePow, Int.reduceToNat, Int.reduceLT, Int.reduceLE, Int.reduceGT, Int.reduceGE, Int.reduceEq, Int.reduceNeg, Int.reduceAdd, Int.reduceSub, Int.reduceMul, ↓reduceIte, reduceCtorEq, *]
    refine (⟨_, _, rfl, ?_, ?_, ?_⟩ : Q0_p_spyref3_Combined_l0 a1 a0 _ _)
    all_goals simp only [go_sem, Nat.reduceAdd, Nat.reduceSub, Nat.reduceMul, Nat.reduceEqDiff, Nat.reduceBEq, Nat.reduceLT, Nat.reduceLeDiff, Nat.reducePow, Int.reduceToNat, Int.reduceLT, Int.reduceLE, Int.reduceGT, Int.reduceGE, Int.reduceEq, Int.reduceNeg, Int.reduceAdd, Int.reduceSub, Int.reduceMul, ↓reduceIte, reduceCtorEq, *]
  | cons x1 tl ih =>
    intro n s2  env st o hn hR he hb0 hb1 h
    obtain ⟨n, rfl⟩ : ∃ m, n = m + 1 := ⟨n - 1, by omega⟩
    obtain ⟨be0, bv0, bl0⟩ := hb0
    obtain ⟨be1, bv1, bl1⟩ := hb1
    replace ih : Hold _ := ih
    replace hR := rng_s hR
    obtain ⟨g0, g1, g2, g3, hR⟩ := hR
    rw [iter, he]
    clear he
    generalize hK : iter _ _ n = K
    rw [p_spyref3_Combined_l0] at h
    revert h
    refine bnd_i fun r4 c1 => ?_
    refine cb_i (fun c2 => ?_) (fun c2 => ?_)
    · intro h
      simp only [go_sem, Nat.reduceAdd, Nat.reduceSub, Nat.reduceMul, Nat.reduceEqDiff, Nat.reduceBEq, Nat.reduceLT, Nat.reduceLeDiff, Nat.reducePow, Int.reduceToNat, Int.reduceLT, Int.reduceLE, Int.reduceGT, Int.reduceGE, Int.reduceEq, Int.reduceNeg, Int.reduceAdd, Int.reduceSub, Int.reduceMul, ↓reduceIte, reduceCtorEq, *]
      subst hK
      refine ih n (s2 + 1)  _ _ _ (by simp only [List.length_cons] at hn; omega) hR ?_ ?_ ?_ h
      all_goals simp only [go_sem, Nat.reduceAdd, Nat.reduceSub, Nat.reduceMul, Nat.reduceEqDiff, Nat.reduceBEq, Nat.reduceLT, Nat.reduceLeDiff, Nat.reducePow, Int.reduceToNat, Int.reduceLT, Int.reduceLE, Int.reduceGT, Int.reduceGE, Int.reduceEq, Int.reduceNeg, Int.reduceAdd, Int.reduceSub, Int.reduceMul, ↓reduceIte, reduceCtorEq, *]
    · rintro ⟨⟩
      simp only [go_sem, Nat.reduceAdd, Nat.reduceSub, Nat.reduceMul, Nat.reduceEqDiff, Nat.reduceBEq, Nat.reduceLT, Nat.reduceLeDiff, Nat.reducePow, Int.reduceToNat, Int.reduceLT, Int.reduceLE, Int.reduceGT, Int.reduceGE, Int.reduceEq, Int.reduceNeg, Int.reduceAdd, Int.reduceSub, Int.reduceMul, ↓reduceIte, reduceCtorEq, *]
      refine (⟨_, _, rfl, ?_, ?_⟩ : Q1_p_spyref3_Combined_l0 a1 a0 _ _)
      all_goals simp only [go_sem, Nat.reduceAdd, Nat.reduceSub, Nat.reduceMul, Nat.reduceEqDiff, Nat.reduceBEq, Nat.reduceLT, Nat.reduceLeDiff, Nat.reducePow, Int.reduceToNat, Int.reduceLT, Int.reduceLE, Int.reduceGT, Int.reduceGE, Int.reduceEq, Int.reduceNeg, Int.reduceAdd, Int.reduceSub, Int.reduceMul, ↓reduceIte, reduceCtorEq, *]
def Q0_p_spyref3_Combined_l1 (a1 : Int) (a0 : List (Int × Int × (List (Int × Int × Bool × Unit)) × Unit)) (u : Unit) (z : Out) : Prop := ∃ env st, z = some (.exit 2, env, st) ∧ env = sp 88 0 [(1, .d (.int .i64 a1)), (2, .p (0, 2) (st (0, 2)).ver 0 []), (4, .p (0, 4) (st (0, 4)).ver 0 [])] ∧ Bk (st (0, 2)) 80 [.d (.sl 82 (a0.map k82.e))] ∧ Bk (st (0, 4)) 82 [.agg 82 [.d (.int .i64 0), .d (.int .i64 0), .nils 43]]
def Q1_p_spyref3_Combined_l1 (a1 : Int) (a0 : List (Int × Int × (List (Int × Int × Bool × Unit)) × Unit)) (u : Unit) (z : Out) : Prop := ∃ env st, z = some (.ret, env, st) ∧ env = sp 88 0 [(4, .p (0, 4) (st (0, 4)).ver 0 []), (5, .d (.int .i64 3))] ∧ Bk (st (0, 4)) 82 [.agg 82 [.d (.int .i64 0), .d (.int .i64 0), .nils 43]]
def Q_p_spyref3_Combined_l1 (a1 : Int) (a0 : List (Int × Int × (List (Int × Int × Bool × Unit)) × Unit)) (o : Sum Unit Unit) (z : Out) : Prop := match o with | (.inl u) => Q0_p_spyref3_Combined_l1 a1 a0 u z | (.inr u) => Q1_p_spyref3_Combined_l1 a1 a0 u z
theorem l_p_spyref3_Combined_l1 (L : Nat) (hL : L ≤ 4611686018427387904) (a1 : Int) (a0 : List (Int × Int × (List (Int × Int × Bool × Unit)) × Unit)) : ∀ (tl : List (Int × Int × (List (Int × Int × Bool × Unit)) × Unit)) (n : Nat) (s8 : Int) (env : List V) (st : Store) (o : Sum Unit Unit), tl.length < n → Rng a0 s8 tl → mask (maskOf en53.ms 2) env = sp 88 0 [(1, .d (.int .i64 a1)), (2, .p (0, 2) (st (0, 2)).ver 0 []), (4, .p (0, 4) (st (0, 4)).ver 0 []), (29, .d (.sl 82 (a0.map k82.e))), (30, .d (.int .i64 (a0.length : Int))), (31, .d (.int .i64 s8))] → Bk (st (0, 2)) 80 [.d (.sl 82 (a0.map k82.e))] → Bk (st (0, 4)) 82 [.agg 82 [.d (.int .i64 0), .d (.int .i64 0), .nils 43]] → p_spyref3_Combined_l1 L a0 tl  = some o →
    Q_p_spyref3_Combined_l1 a1 a0 o (iter (evC Try.prog (G_spyref3_Combined L) (evF Try.prog (G_spyref3_Combined L) T_spyref3_Combined L 2) L en53.ms 0 2 lb53_2) (maskOf en53.ms 2) n env st) := by
  intro tl
  induction tl with
  | nil =>
    intro n s8  env st o hn hR he hb0 hb1 h
    obtain ⟨n, rfl⟩ : ∃ m, n = m + 1 := ⟨n - 1, by omega⟩
    obtain ⟨be0, bv0, bl0⟩ := hb0
    obtain ⟨be1, bv1, bl1⟩ := hb1
    have g0 := rng_nil hR
    rw [iter, he]
    clear he
    generalize hK : iter _ _ n = K
    rw [p_spyref3_Combined_l1] at h
    revert h
    rintro ⟨⟩
    simp only [go_sem, Nat.reduceAdd, Nat.reduceSub, Nat.reduceMul, Nat.reduceEqDiff, Nat.reduceBEq, Nat.reduceLT, Nat.reduceLeDiff, Nat.reducePow, Int.reduceToNat, Int.reduceLT, Int.reduceLE, Int.reduceGT, Int.reduceGE, Int.reduceEq, Int.reduceNeg, Int.reduceAdd, Int.reduceSub, Int.reduceMul, ↓reduceIte, reduceCtorEq, *]
    refine (⟨_, _, rfl, ?_, ?_, ?_⟩ : Q0_p_spyref3_Combined_l1 a1 a0 _ _)
    all_goals simp only [go_sem, Nat.reduceAdd, Nat.reduceSub, Nat.reduceMul, Nat.reduceEqDiff, Nat.reduceBEq, Nat.reduceLT, Nat.reduceLeDiff, Nat.reducePow, Int.reduceToNat, Int.reduceLT, Int.reduceLE, Int.reduceGT, Int.reduceGE, Int.reduceEq, Int.reduceNeg, Int.reduceAdd, Int.reduceSub, Int.reduceMul, ↓reduceIte, reduceCtorEq, *]
  | cons x7 tl ih =>
    intro n s8  env st o hn hR he hb0 hb1 h
    obtain ⟨n, rfl⟩ : ∃ m, n = m + 1 := ⟨n - 1, by omega⟩
    obtain ⟨be0, bv0, bl0⟩ := hb0
    obtain ⟨be1, bv1, bl1⟩ := hb1
    replace ih : Hold _ := ih
    replace hR := rng_s hR
    obtain ⟨g0, g1, g2, g3, hR⟩ := hR
    rw [iter, he]
    clear he
    generalize hK : iter _ _ n = K
    rw [p_spyref3_Combined_l1] at h
    revert h
    refine idx_i fun x10 c1 c2 c3 => ?_
    have c3 : a0[0]? = some x10 := c3
    refine cb_i (fun c4 => ?_) (fun c4 => ?_)
    · refine cb_i (fun c5 => ?_) (fun c5 => ?_)
      · intro h
        simp only [go_sem, Nat.reduceAdd, Nat.reduceSub, Nat.reduceMul, Nat.reduceEqDiff, Nat.reduceBEq, Nat.reduceLT, Nat.reduceLeDiff, Nat.reducePow, Int.reduceToNat, Int.reduceLT, Int.reduceLE, Int.reduceGT, Int.reduceGE, Int.reduceEq, Int.reduceNeg, Int.reduceAdd, Int.reduceSub, Int.reduceMul, ↓reduceIte, reduceCtorEq, *]
        subst hK
        refine ih n (s8 + 1)  _ _ _ (by simp only [List.length_cons] at hn; omega) hR ?_ ?_ ?_ h
        all_goals simp only [go_sem, Nat.reduceAdd, Nat.reduceSub, Nat.reduceMul, Nat.reduceEqDiff, Nat.reduceBEq, Nat.reduceLT, Nat.reduceLeDiff, Nat.reducePow, Int.reduceToNat, Int.reduceLT, Int.reduceLE, Int.reduceGT, Int.reduceGE, Int.reduceEq, Int.reduceNeg, Int.reduceAdd, Int.reduceSub, Int.reduceMul, ↓reduceIte, reduceCtorEq, *]
      · rintro ⟨⟩
        simp only [go_sem, Nat.reduceAdd, Nat.reduceSub, Nat.reduceMul, Nat.reduceEqDiff, Nat.reduceBEq, Nat.reduceLT, Nat.reduceLeDiff, Nat.reducePow, Int.reduceToNat, Int.reduceLT, Int.reduceLE, Int.reduceGT, Int.reduceGE, Int.reduceEq, Int.reduceNeg, Int.reduceAdd, Int.reduceSub, Int.reduceMul, ↓reduceIte, reduceCtorEq, *]
        refine (⟨_, _, rfl, ?_, ?_⟩ : Q1_p_spyref3_Combined_l1 a1 a0 _ _)
        all_goals simp only [go_sem, Nat.reduceAdd, Nat.reduceSub, Nat.reduceMul, Nat.reduceEqDiff, Nat.reduceBEq, Nat.reduceLT, Nat.reduceLeDiff, Nat.reducePow, Int.reduceToNat, Int.reduceLT, Int.reduceLE, Int.reduceGT, Int.reduceGE, Int.reduceEq, Int.reduceNeg, Int.reduceAdd, Int.reduceSub, Int.reduceMul, ↓reduceIte, reduceCtorEq, *]
    · rintro ⟨⟩
      simp only [go_sem, Nat.reduceAdd, Nat.reduceSub, Nat.reduceMul, Nat.reduceEqDiff, Nat.reduceBEq, Nat.reduceLT, Nat.reduceLeDiff, Nat.reducePow, Int.reduceToNat, Int.reduceLT, Int.reduceLE, Int.reduceGT, Int.reduceGE, Int.reduceEq, Int.reduceNeg, Int.reduceAdd, Int.reduceSub, Int.reduceMul, ↓reduceIte, reduceCtorEq, *]
      refine (⟨_, _, rfl, ?_, ?_⟩ : Q1_p_spyref3_Combined_l1 a1 a0 _ _)
      all_goals simp only [go_sem, Nat.reduceAdd, Nat.reduceSub, Nat.reduceMul, Nat.reduceEqDiff, Nat.reduceBEq, Nat.reduceLT, Nat.reduceLeDiff, Nat.reducePow, Int.reduceToNat, Int.reduceLT, Int.reduceLE, Int.reduceGT, Int.reduceGE, Int.reduceEq, Int.reduceNeg, Int.reduceAdd, Int.reduceSub, Int.reduceMul, ↓reduceIte, reduceCtorEq, *]
def Q0_p_spyref3_Combined_l3 (w54 : Nat) (w55 : Nat) (w56 : Nat) (a18 : Int) (a1 : Int) (s20 : Int) (a19 : Int) (a0 : List (Int × Int × (List (Int × Int × Bool × Unit)) × Unit)) (a21 : Int) (a22 : Int) (s38 : List (Int × Int × Bool × Unit)) (u : List (Int × Int × Bool × Unit)) (z : Out) : Prop := ∃ env st, z = some (.exit 2, env, st) ∧ env = sp 37 0 [(1, .d (.int .i64 a18)), (2, .d (.int .i64 a1)), (3, .fn 101 [.p (0, 2) (st (0, 2)).ver 0 []]), (9, gl 43 (86, 34) (st (86, 34)).ver (rowV k43.e s38)), (11, gl 43 (86, 27) (st (86, 27)).ver (rowV k43.e u)), (13, .d (.int .i64 a19)), (14, .d (.int .i64 s20))] ∧ Bk (st (0, 2)) 80 [.d (.sl 82 (a0.map k82.e))] ∧ Bk (st (0, 4)) 82 [.agg 82 [.d (.int .i64 0), .d (.int .i64 0), .nils 43]] ∧ Bk (st (0, 11)) 82 [.agg 82 [.d (.int .i64 a21), .d (.int .i64 a22), .nils 43]] ∧ GlB (st (86, 27)) 43 (rowV k43.e u) ∧ GlB (st (86, 34)) 43 (rowV k43.e s38) ∧ (st (0, 2)).ver = w54 ∧ (st (0, 4)).ver = w55 ∧ (st (0, 11)).ver = w56
abbrev Q_p_spyref3_Combined_l3 (w54 : Nat) (w55 : Nat) (w56 : Nat) (a18 : Int) (a1 : Int) (s20 : Int) (a19 : Int) (a0 : List (Int × Int × (List (Int × Int × Bool × Unit)) × Unit)) (a21 : Int) (a22 : Int) (s38 : List (Int × Int × Bool × Unit)) (o : List (Int × Int × Bool × Unit)) (z : Out) : Prop := Q0_p_spyref3_Combined_l3 w54 w55 w56 a18 a1 s20 a19 a0 a21 a22 s38 o z
theorem l_p_spyref3_Combined_l3 (L : Nat) (hL : L ≤ 4611686018427387904) (w54 : Nat) (w55 : Nat) (w56 : Nat) (a18 : Int) (a1 : Int) (s20 : Int) (a19 : Int) (a0 : List (Int × Int × (List (Int × Int × Bool × Unit)) × Unit)) (a21 : Int) (a22 : Int) (s38 : List (Int × Int × Bool × Unit)) : ∀ (tl n : Nat) (s58 : Int) (s61 : List (Int × Int × Bool × Unit)) (env : List V) (st : Store) (o : List (Int × Int × Bool × Unit)), tl < n → Cnt a18 s58 tl → mask (maskOf en100.ms 2) env = sp 37 0 [(1, .d (.int .i64 a18)), (2, .d (.int .i64 a1)), (3, .fn 101 [.p (0, 2) (st (0, 2)).ver 0 []]), (9, gl 43 (86, 34) (st (86, 34)).ver (rowV k43.e s38)), (10, .d (.int .i64 s20)), (11, gl 43 (86, 27) (st (86, 27)).ver (rowV k43.e s61)), (13, .d (.int .i64 a19)), (14, .d (.int .i64 s20)), (17, .d (.int .i64 a18)), (18, .d (.int .i64 s58))] → Bk (st (0, 2)) 80 [.d (.sl 82 (a0.map k82.e))] → Bk (st (0, 4)) 82 [.agg 82 [.d (.int .i64 0), .d (.int .i64 0), .nils 43]] → Bk (st (0, 11)) 82 [.agg 82 [.d (.int .i64 a21), .d (.int .i64 a22), .nils 43]] → GlB (st (86, 27)) 43 (rowV k43.e s61) → GlB (st (86, 34)) 43 (rowV k43.e s38) → (st (0, 2)).ver = w54 → (st (0, 4)).ver = w55 → (st (0, 11)).ver = w56 → p_spyref3_Combined_l3 L s20 a0 tl s58 s61 = some o →
    Q_p_spyref3_Combined_l3 w54 w55 w56 a18 a1 s20 a19 a0 a21 a22 s38 o (iter (evC Try.prog (G_spyref3_Combined L) (evF Try.prog (G_spyref3_Combined L) T_spyref3_Combined L 1) L en100.ms 86 2 lb100_2) (maskOf en100.ms 2) n env st) := by
  intro tl
  induction tl with
  | zero =>
    intro n s58 s61 env st o hn hR he hb0 hb1 hb2 hb3 hb4 hw0 hw1 hw2 h
    obtain ⟨n, rfl⟩ : ∃ m, n = m + 1 := ⟨n - 1, by omega⟩
    obtain ⟨be0, bv0, bl0⟩ := hb0
    obtain ⟨be1, bv1, bl1⟩ := hb1
    obtain ⟨be2, bv2, bl2⟩ := hb2
    have g0 := cnt_nil hR
    rw [iter, he]
    clear he
    generalize hK : iter _ _ n = K
    rw [p_spyref3_Combined_l3] at h
    revert h
    rintro ⟨⟩
    simp only [go_sem, Nat.reduceAdd, Nat.reduceSub, Nat.reduceMul, Nat.reduceEqDiff, Nat.reduceBEq, Nat.reduceLT, Nat.reduceLeDiff, Nat.reducePow, Int.reduceToNat, Int.reduceLT, Int.reduceLE, Int.reduceGT, Int.reduceGE, Int.reduceEq, Int.reduceNeg, Int.reduceAdd, Int.reduceSub, Int.reduceMul, ↓reduceIte, reduceCtorEq, *]
    refine (⟨_, _, rfl, ?_, ?_, ?_, ?_, ?_, ?_, ?_, ?_, ?_⟩ : Q0_p_spyref3_Combined_l3 w54 w55 w56 a18 a1 s20 a19 a0 a21 a22 s38 _ _)
    all_goals simp only [go_sem, Nat.reduceAdd, Nat.reduceSub, Nat.reduceMul, Nat.reduceEqDiff, Nat.reduceBEq, Nat.reduceLT, Nat.reduceLeDiff, Nat.reducePow, Int.reduceToNat, Int.reduceLT, Int.reduceLE, Int.reduceGT, Int.reduceGE, Int.reduceEq, Int.reduceNeg, Int.reduceAdd, Int.reduceSub, Int.reduceMul, ↓reduceIte, reduceCtorEq, *]
  | succ tl ih =>
    intro n s58 s61 env st o hn hR he hb0 hb1 hb2 hb3 hb4 hw0 hw1 hw2 h
    obtain ⟨n, rfl⟩ : ∃ m, n = m + 1 := ⟨n - 1, by omega⟩
    obtain ⟨be0, bv0, bl0⟩ := hb0
    obtain ⟨be1, bv1, bl1⟩ := hb1
    obtain ⟨be2, bv2, bl2⟩ := hb2
    replace ih : Hold _ := ih
    replace hR := cnt_s hR
    obtain ⟨g0, g1, g3, hR⟩ := hR
    rw [iter, he]
    clear he
    generalize hK : iter _ _ n = K
    rw [p_spyref3_Combined_l3] at h
    revert h
    refine idx_i fun x64 c1 c2 c3 => ?_
    refine idx_i fun x65 c4 c5 c6 => ?_
    refine rq_i fun c7 => ?_
    refine rq_i fun c8 => ?_
    intro h
    simp only [go_sem, Nat.reduceAdd, Nat.reduceSub, Nat.reduceMul, Nat.reduceEqDiff, Nat.reduceBEq, Nat.reduceLT, Nat.reduceLeDiff, Nat.reducePow, Int.reduceToNat, Int.reduceLT, Int.reduceLE, Int.reduceGT, Int.reduceGE, Int.reduceEq, Int.reduceNeg, Int.reduceAdd, Int.reduceSub, Int.reduceMul, ↓reduceIte, reduceCtorEq, *]
    subst hK
    refine ih n (s58 + 1) (s61 ++ [x65]) _ _ _ (by omega) hR ?_ ?_ ?_ ?_ ?_ ?_ ?_ ?_ ?_ h
    all_goals simp only [go_sem, Nat.reduceAdd, Nat.reduceSub, Nat.reduceMul, Nat.reduceEqDiff, Nat.reduceBEq, Nat.reduceLT, Nat.reduceLeDiff, Nat.reducePow, Int.reduceToNat, Int.reduceLT, Int.reduceLE, Int.reduceGT, Int.reduceGE, Int.reduceEq, Int.reduceNeg, Int.reduceAdd, Int.reduceSub, Int.reduceMul, ↓reduceIte, reduceCtorEq, *]
def Q0_p_spyref3_Combined_l2 (w14 : Nat) (w15 : Nat) (w16 : Nat) (a18 : Int) (a1 : Int) (a19 : Int) (a0 : List (Int × Int × (List (Int × Int × Bool × Unit)) × Unit)) (a21 : Int) (a22 : Int) (u : List (Int × Int × Bool × Unit)) (z : Out) : Prop := ∃ env st, z = some (.exit 0, env, st) ∧ env = sp 37 0 [(9, gl 43 (86, 34) (st (86, 34)).ver (rowV k43.e u))] ∧ Bk (st (0, 2)) 80 [.d (.sl 82 (a0.map k82.e))] ∧ Bk (st (0, 4)) 82 [.agg 82 [.d (.int .i64 0), .d (.int .i64 0), .nils 43]] ∧ Bk (st (0, 11)) 82 [.agg 82 [.d (.int .i64 a21), .d (.int .i64 a22), .nils 43]] ∧ GlB (st (86, 34)) 43 (rowV k43.e u) ∧ (st (0, 2)).ver = w14 ∧ (st (0, 4)).ver = w15 ∧ (st (0, 11)).ver = w16
abbrev Q_p_spyref3_Combined_l2 (w14 : Nat) (w15 : Nat) (w16 : Nat) (a18 : Int) (a1 : Int) (a19 : Int) (a0 : List (Int × Int × (List (Int × Int × Bool × Unit)) × Unit)) (a21 : Int) (a22 : Int) (o : List (Int × Int × Bool × Unit)) (z : Out) : Prop := Q0_p_spyref3_Combined_l2 w14 w15 w16 a18 a1 a19 a0 a21 a22 o z
theorem l_p_spyref3_Combined_l2 (L : Nat) (hL : L ≤ 4611686018427387904) (w14 : Nat) (w15 : Nat) (w16 : Nat) (a18 : Int) (a1 : Int) (a19 : Int) (a0 : List (Int × Int × (List (Int × Int × Bool × Unit)) × Unit)) (a21 : Int) (a22 : Int) : ∀ (tl n : Nat) (s20 : Int) (s38 : List (Int × Int × Bool × Unit)) (env : List V) (st : Store) (o : List (Int × Int × Bool × Unit)), tl < n → Cnt a19 s20 tl → mask (maskOf en100.ms 0) env = sp 37 0 [(1, .d (.int .i64 a18)), (2, .d (.int .i64 a1)), (3, .fn 101 [.p (0, 2) (st (0, 2)).ver 0 []]), (9, gl 43 (86, 34) (st (86, 34)).ver (rowV k43.e s38)), (13, .d (.int .i64 a19)), (14, .d (.int .i64 s20))] → Bk (st (0, 2)) 80 [.d (.sl 82 (a0.map k82.e))] → Bk (st (0, 4)) 82 [.agg 82 [.d (.int .i64 0), .d (.int .i64 0), .nils 43]] → Bk (st (0, 11)) 82 [.agg 82 [.d (.int .i64 a21), .d (.int .i64 a22), .nils 43]] → GlB (st (86, 34)) 43 (rowV k43.e s38) → (st (0, 2)).ver = w14 → (st (0, 4)).ver = w15 → (st (0, 11)).ver = w16 → p_spyref3_Combined_l2 L a18 a1 a0 tl s20 s38 = some o →
    Q_p_spyref3_Combined_l2 w14 w15 w16 a18 a1 a19 a0 a21 a22 o (iter (evC Try.prog (G_spyref3_Combined L) (evF Try.prog (G_spyref3_Combined L) T_spyref3_Combined L 1) L en100.ms 86 0 lb100_0) (maskOf en100.ms 0) n env st) := by
  intro tl
  induction tl with
  | zero =>
    intro n s20 s38 env st o hn hR he hb0 hb1 hb2 hb3 hw0 hw1 hw2 h
    obtain ⟨n, rfl⟩ : ∃ m, n = m + 1 := ⟨n - 1, by omega⟩
    obtain ⟨be0, bv0, bl0⟩ := hb0
    obtain ⟨be1, bv1, bl1⟩ := hb1
    obtain ⟨be2, bv2, bl2⟩ := hb2
    have g0 := cnt_nil hR
    rw [iter, he]
    clear he
    generalize hK : iter _ _ n = K
    rw [p_spyref3_Combined_l2] at h
    revert h
    rintro ⟨⟩
    simp only [go_sem, Nat.reduceAdd, Nat.reduceSub, Nat.reduceMul, Nat.reduceEqDiff, Nat.reduceBEq, Nat.reduceLT, Nat.reduceLeDiff, Nat.reducePow, Int.reduceToNat, Int.reduceLT, Int.reduceLE, Int.reduceGT, Int.reduceGE, Int.reduceEq, Int.reduceNeg, Int.reduceAdd, Int.reduceSub, Int.reduceMul, ↓reduceIte, reduceCtorEq, *]
    refine (⟨_, _, rfl, ?_, ?_, ?_, ?_, ?_, ?_, ?_, ?_⟩ : Q0_p_spyref3_Combined_l2 w14 w15 w16 a18 a1 a19 a0 a21 a22 _ _)
    all_goals simp only [go_sem, Nat.reduceAdd, Nat.reduceSub, Nat.reduceMul, Nat.reduceEqDiff, Nat.reduceBEq, Nat.reduceLT, Nat.reduceLeDiff, Nat.reducePow, Int.reduceToNat, Int.reduceLT, Int.reduceLE, Int.reduceGT, Int.reduceGE, Int.reduceEq, Int.reduceNeg, Int.reduceAdd, Int.reduceSub, Int.reduceMul, ↓reduceIte, reduceCtorEq, *]
  | succ tl ih =>
    intro n s20 s38 env st o hn hR he hb0 hb1 hb2 hb3 hw0 hw1 hw2 h
    obtain ⟨n, rfl⟩ : ∃ m, n = m + 1 := ⟨n - 1, by omega⟩
    obtain ⟨be0, bv0, bl0⟩ := hb0
    obtain ⟨be1, bv1, bl1⟩ := hb1
    obtain ⟨be2, bv2, bl2⟩ := hb2
    replace ih : Hold _ := ih
    replace hR := cnt_s hR
    obtain ⟨g0, g1, g3, hR⟩ := hR
    rw [iter, he]
    clear he
    generalize hK : iter _ _ n = K
    rw [p_spyref3_Combined_l2] at h
    revert h
    refine rq_i fun c1 => ?_
    refine rq_i fun c2 => ?_
    refine bnd_i fun o66 ho3 => ?_
    intro h
    simp only [go_sem, Nat.reduceAdd, Nat.reduceSub, Nat.reduceMul, Nat.reduceEqDiff, Nat.reduceBEq, Nat.reduceLT, Nat.reduceLeDiff, Nat.reducePow, Int.reduceToNat, Int.reduceLT, Int.reduceLE, Int.reduceGT, Int.reduceGE, Int.reduceEq, Int.reduceNeg, Int.reduceAdd, Int.reduceSub, Int.reduceMul, ↓reduceIte, reduceCtorEq, *]
    generalize hz5 : iter _ _ _ _ _ = z4
    have hq6 : Q_p_spyref3_Combined_l3 w14 w15 w16 a18 a1 s20 a19 a0 a21 a22 s38 o66 z4 := by
      rw [← hz5]
      refine l_p_spyref3_Combined_l3 L hL w14 w15 w16 a18 a1 s20 a19 a0 a21 a22 s38 _ L 0 ([]) _ _ _ c1 (cnt_00 (by decide) c2) ?_ ?_ ?_ ?_ ?_ ?_ ?_ ?_ ?_ ho3
      all_goals simp only [go_sem, Nat.reduceAdd, Nat.reduceSub, Nat.reduceMul, Nat.reduceEqDiff, Nat.reduceBEq, Nat.reduceLT, Nat.reduceLeDiff, Nat.reducePow, Int.reduceToNat, Int.reduceLT, Int.reduceLE, Int.reduceGT, Int.reduceGE, Int.reduceEq, Int.reduceNeg, Int.reduceAdd, Int.reduceSub, Int.reduceMul, ↓reduceIte, reduceCtorEq, *]
    clear hz5 ho3
    obtain ⟨_, st67, rfl, rfl, ⟨k71, k72, k73⟩, ⟨k81, k82, k83⟩, ⟨k91, k92, k93⟩, k10, k11, w12, w13, w14⟩ := hq6
    revert h
    refine bnd_i fun r68 c15 => ?_
    refine rq_i fun c16 => ?_
    refine rq_i fun c17 => ?_
    intro h
    simp only [go_sem, Nat.reduceAdd, Nat.reduceSub, Nat.reduceMul, Nat.reduceEqDiff, Nat.reduceBEq, Nat.reduceLT, Nat.reduceLeDiff, Nat.reducePow, Int.reduceToNat, Int.reduceLT, Int.reduceLE, Int.reduceGT, Int.reduceGE, Int.reduceEq, Int.reduceNeg, Int.reduceAdd, Int.reduceSub, Int.reduceMul, ↓reduceIte, reduceCtorEq, *]
    subst hK
    refine ih n (s20 + 1) (s38 ++ [(r68.1, r68.2.1, r68.2.2, ())]) _ _ _ (by omega) hR ?_ ?_ ?_ ?_ ?_ ?_ ?_ ?_ h
    all_goals simp only [go_sem, Nat.reduceAdd, Nat.reduceSub, Nat.reduceMul, Nat.reduceEqDiff, Nat.reduceBEq, Nat.reduceLT, Nat.reduceLeDiff, Nat.reducePow, Int.reduceToNat, Int.reduceLT, Int.reduceLE, Int.reduceGT, Int.reduceGE, Int.reduceEq, Int.reduceNeg, Int.reduceAdd, Int.reduceSub, Int.reduceMul, ↓reduceIte, reduceCtorEq, *]
theorem e_spyref3_Combined (L : Nat) (hL : L ≤ 4611686018427387904) (a0 : List (Int × Int × (List (Int × Int × Bool × Unit)) × Unit)) (a1 : Int) (res : Int × Int × (List (Int × Int × Bool × Unit)) × Int) (h : p_spyref3_Combined L a0 a1 = some res) : evTop Try.prog (G_spyref3_Combined L) T_spyref3_Combined L 3 53 [.sl 82 (a0.map k82.e), .int .i64 a1] = some [.agg 82 [.int .i64 res.1, .int .i64 res.2.1, .sl 43 (res.2.2.1.map k43.e)], .int .i64 res.2.2.2] := by
  revert h
  unfold p_spyref3_Combined evTop
  simp only [List.map]
  rw [evF_s (fn := Try.f53) (msk := en53.ms) (hT := by rfl) (hb := by rfl)]
  refine ite_i (fun c1 => ?_) (fun c1 => ?_)
  · rintro ⟨⟩
    simp only [go_sem, Nat.reduceAdd, Nat.reduceSub, Nat.reduceMul, Nat.reduceEqDiff, Nat.reduceBEq, Nat.reduceLT, Nat.reduceLeDiff, Nat.reducePow, Int.reduceToNat, Int.reduceLT, Int.reduceLE, Int.reduceGT, Int.reduceGE, Int.reduceEq, Int.reduceNeg, Int.reduceAdd, Int.reduceSub, Int.reduceMul, ↓reduceIte, reduceCtorEq, *]
  · refine rq_i fun c2 => ?_
    refine bnd_i fun o5 ho3 => ?_
    intro h
    simp only [go_sem, Nat.reduceAdd, Nat.reduceSub, Nat.reduceMul, Nat.reduceEqDiff, Nat.reduceBEq, Nat.reduceLT, Nat.reduceLeDiff, Nat.reducePow, Int.reduceToNat, Int.reduceLT, Int.reduceLE, Int.reduceGT, Int.reduceGE, Int.reduceEq, Int.reduceNeg, Int.reduceAdd, Int.reduceSub, Int.reduceMul, ↓reduceIte, reduceCtorEq, *]
    generalize hz5 : iter _ _ _ _ _ = z4
    have hq6 : Q_p_spyref3_Combined_l0 a1 a0 o5 z4 := by
      rw [← hz5]
      refine l_p_spyref3_Combined_l0 L hL a1 a0 a0 L 0  _ _ _ c2 (rng_0 c2 hL) ?_ ?_ ?_ ho3
      all_goals simp only [go_sem, Nat.reduceAdd, Nat.reduceSub, Nat.reduceMul, Nat.reduceEqDiff, Nat.reduceBEq, Nat.reduceLT, Nat.reduceLeDiff, Nat.reducePow, Int.reduceToNat, Int.reduceLT, Int.reduceLE, Int.reduceGT, Int.reduceGE, Int.reduceEq, Int.reduceNeg, Int.reduceAdd, Int.reduceSub, Int.reduceMul, ↓reduceIte, reduceCtorEq, *]
    clear hz5 ho3
    rcases o5 with o5_0 | o5_1
    · obtain ⟨_, st6, rfl, rfl, ⟨k71, k72, k73⟩, ⟨k81, k82, k83⟩⟩ := hq6
      dsimp only at h
      revert h
      refine bnd_i fun o11 ho9 => ?_
      intro h
      simp only [go_sem, Nat.reduceAdd, Nat.reduceSub, Nat.reduceMul, Nat.reduceEqDiff, Nat.reduceBEq, Nat.reduceLT, Nat.reduceLeDiff, Nat.reducePow, Int.reduceToNat, Int.reduceLT, Int.reduceLE, Int.reduceGT, Int.reduceGE, Int.reduceEq, Int.reduceNeg, Int.reduceAdd, Int.reduceSub, Int.reduceMul, ↓reduceIte, reduceCtorEq, *]
      generalize hz11 : iter _ _ _ _ _ = z10
      have hq12 : Q_p_spyref3_Combined_l1 a1 a0 o11 z10 := by
        rw [← hz11]
        refine l_p_spyref3_Combined_l1 L hL a1 a0 a0 L 0  _ _ _ c2 (rng_0 c2 hL) ?_ ?_ ?_ ho9
        all_goals simp only [go_sem, Nat.reduceAdd, Nat.reduceSub, Nat.reduceMul, Nat.reduceEqDiff, Nat.reduceBEq, Nat.reduceLT, Nat.reduceLeDiff, Nat.reducePow, Int.reduceToNat, Int.reduceLT, Int.reduceLE, Int.reduceGT, Int.reduceGE, Int.reduceEq, Int.reduceNeg, Int.reduceAdd, Int.reduceSub, Int.reduceMul, ↓reduceIte, reduceCtorEq, *]
      clear hz11 ho9
      rcases o11 with o11_0 | o11_1
      · obtain ⟨_, st12, rfl, rfl, ⟨k131, k132, k133⟩, ⟨k141, k142, k143⟩⟩ := hq12
        dsimp only at h
        revert h
        refine ite_i (fun c15 => ?_) (fun c15 => ?_)
        · rintro ⟨⟩
          simp only [go_sem, Nat.reduceAdd, Nat.reduceSub, Nat.reduceMul, Nat.reduceEqDiff, Nat.reduceBEq, Nat.reduceLT, Nat.reduceLeDiff, Nat.reducePow, Int.reduceToNat, Int.reduceLT, Int.reduceLE, Int.reduceGT, Int.reduceGE, Int.reduceEq, Int.reduceNeg, Int.reduceAdd, Int.reduceSub, Int.reduceMul, ↓reduceIte, reduceCtorEq, *]
        · refine ite_i (fun c16 => ?_) (fun c16 => ?_)
          · rintro ⟨⟩
            simp only [go_sem, Nat.reduceAdd, Nat.reduceSub, Nat.reduceMul, Nat.reduceEqDiff, Nat.reduceBEq, Nat.reduceLT, Nat.reduceLeDiff, Nat.reducePow, Int.reduceToNat, Int.reduceLT, Int.reduceLE, Int.reduceGT, Int.reduceGE, Int.reduceEq, Int.reduceNeg, Int.reduceAdd, Int.reduceSub, Int.reduceMul, ↓reduceIte, reduceCtorEq, *]
          · refine ite_i (fun c17 => ?_) (fun c17 => ?_)
            · rintro ⟨⟩
              simp only [go_sem, Nat.reduceAdd, Nat.reduceSub, Nat.reduceMul, Nat.reduceEqDiff, Nat.reduceBEq, Nat.reduceLT, Nat.reduceLeDiff, Nat.reducePow, Int.reduceToNat, Int.reduceLT, Int.reduceLE, Int.reduceGT, Int.reduceGE, Int.reduceEq, Int.reduceNeg, Int.reduceAdd, Int.reduceSub, Int.reduceMul, ↓reduceIte, reduceCtorEq, *]
            · refine idx_i fun x13 c18 c19 c20 => ?_
              have c20 : a0[0]? = some x13 := c20
              refine rq_i fun c21 => ?_
              refine rq_i fun c22 => ?_
              refine bnd_i fun o69 ho23 => ?_
              intro h
              simp only [go_sem, Nat.reduceAdd, Nat.reduceSub, Nat.reduceMul, Nat.reduceEqDiff, Nat.reduceBEq, Nat.reduceLT, Nat.reduceLeDiff, Nat.reducePow, Int.reduceToNat, Int.reduceLT, Int.reduceLE, Int.reduceGT, Int.reduceGE, Int.reduceEq, Int.reduceNeg, Int.reduceAdd, Int.reduceSub, Int.reduceMul, ↓reduceIte, reduceCtorEq, *]
              generalize hz25 : iter _ _ _ _ _ = z24
              have hq26 : Q_p_spyref3_Combined_l2 ((st12 (0, 2)).ver) ((st12 (0, 4)).ver) ((st12 (0, 11)).ver + 1) (a0.length : Int) a1 (x13.2.2.1.length : Int) a0 x13.1 x13.2.1 o69 z24 := by
                rw [← hz25]
                refine l_p_spyref3_Combined_l2 L hL ((st12 (0, 2)).ver) ((st12 (0, 4)).ver) ((st12 (0, 11)).ver + 1) (a0.length : Int) a1 (x13.2.2.1.length : Int) a0 x13.1 x13.2.1 _ L 0 ([]) _ _ _ c21 (cnt_00 (by decide) c22) ?_ ?_ ?_ ?_ ?_ ?_ ?_ ?_ ho23
                all_goals simp only [go_sem, Nat.reduceAdd, Nat.reduceSub, Nat.reduceMul, Nat.reduceEqDiff, Nat.reduceBEq, Nat.reduceLT, Nat.reduceLeDiff, Nat.reducePow, Int.reduceToNat, Int.reduceLT, Int.reduceLE, Int.reduceGT, Int.reduceGE, Int.reduceEq, Int.reduceNeg, Int.reduceAdd, Int.reduceSub, Int.reduceMul, ↓reduceIte, reduceCtorEq, *]
              clear hz25 ho23
              obtain ⟨_, st70, rfl, rfl, ⟨k271, k272, k273⟩, ⟨k281, k282, k283⟩, ⟨k291, k292, k293⟩, k30, w31, w32, w33⟩ := hq26
              revert h
              rintro ⟨⟩
              simp only [go_sem, Nat.reduceAdd, Nat.reduceSub, Nat.reduceMul, Nat.reduceEqDiff, Nat.reduceBEq, Nat.reduceLT, Nat.reduceLeDiff, Nat.reducePow, Int.reduceToNat, Int.reduceLT, Int.reduceLE, Int.reduceGT, Int.reduceGE, Int.reduceEq, Int.reduceNeg, Int.reduceAdd, Int.reduceSub, Int.reduceMul, ↓reduceIte, reduceCtorEq, *]
      · obtain ⟨_, st71, rfl, rfl, ⟨k341, k342, k343⟩⟩ := hq12
        dsimp only at h
        revert h
        rintro ⟨⟩
        simp only [go_sem, Nat.reduceAdd, Nat.reduceSub, Nat.reduceMul, Nat.reduceEqDiff, Nat.reduceBEq, Nat.reduceLT, Nat.reduceLeDiff, Nat.reducePow, Int.reduceToNat, Int.reduceLT, Int.reduceLE, Int.reduceGT, Int.reduceGE, Int.reduceEq, Int.reduceNeg, Int.reduceAdd, Int.reduceSub, Int.reduceMul, ↓reduceIte, reduceCtorEq, *]
    · obtain ⟨_, st72, rfl, rfl, ⟨k351, k352, k353⟩⟩ := hq6
      dsimp only at h
      revert h
      rintro ⟨⟩
      simp only [go_sem, Nat.reduceAdd, Nat.reduceSub, Nat.reduceMul, Nat.reduceEqDiff, Nat.reduceBEq, Nat.reduceLT, Nat.reduceLeDiff, Nat.reducePow, Int.reduceToNat, Int.reduceLT, Int.reduceLE, Int.reduceGT, Int.reduceGE, Int.reduceEq, Int.reduceNeg, Int.reduceAdd, Int.reduceSub, Int.reduceMul, ↓reduceIte, reduceCtorEq, *]
noncomputable def s_spyref3_Combined (L : Nat) : Ev.Spec := specP (cCons k80 (cCons (cI .i64) cNil)) (fun x => p_spyref3_Combined L x.1 x.2.1) (fun r => [.agg 82 [.int .i64 r.1, .int .i64 r.2.1, .sl 43 (r.2.2.1.map k43.e)], .int .i64 r.2.2.2])
theorem s_spyref3_Combined_run (L : Nat) (a0 : List (Int × Int × (List (Int × Int × Bool × Unit)) × Unit)) (a1 : Int) : (s_spyref3_Combined L).run [.sl 82 (a0.map k82.e), .int .i64 a1] = (p_spyref3_Combined L a0 a1).map fun r => [.agg 82 [.int .i64 r.1, .int .i64 r.2.1, .sl 43 (r.2.2.1.map k43.e)], .int .i64 r.2.2.2] := specP_run (cCons k80 (cCons (cI .i64) cNil)) (fun x => p_spyref3_Combined L x.1 x.2.1) (fun r => [.agg 82 [.int .i64 r.1, .int .i64 r.2.1, .sl 43 (r.2.2.1.map k43.e)], .int .i64 r.2.2.2]) (a0, a1, ())
theorem ok_spyref3_Combined (L : Nat) (hL : L ≤ 4611686018427387904) : SpecOk Try.prog 53 (s_spyref3_Combined L) := specP_ok mixed (Go_spyref3_Combined L hL) (To_spyref3_Combined L) fun x r h => ⟨L, 3, e_spyref3_Combined L hL x.1 x.2.1 r h⟩
end Go.Proofs.Ytjplkbeolakbjaa.P
end
section
set_option linter.unusedVariables false
set_option linter.unusedSimpArgs false
set_option maxRecDepth 100000
namespace Go.Proofs.Ytjplkbeolakbjaa.E
open Go.Ev
noncomputable def en54 : Entry := ⟨Try.f54, [(1000000, mb 31 0 [0])]⟩
theorem mk54_1000000 (vs : List V) : mask (maskOf en54.ms 1000000) vs = km 31 0 [0] vs := mask_mb _ _ _ _
end Go.Proofs.Ytjplkbeolakbjaa.E
end
section
set_option linter.unusedVariables false
set_option linter.unusedSimpArgs false
set_option maxRecDepth 100000
namespace Go.Proofs.Ytjplkbeolakbjaa.E
open Go.Ev
noncomputable def en102 : Entry := ⟨Try.f102, [(1000000, mb 10 0 [4])]⟩
theorem mk102_1000000 (vs : List V) : mask (maskOf en102.ms 1000000) vs = km 10 0 [4] vs := mask_mb _ _ _ _
end Go.Proofs.Ytjplkbeolakbjaa.E
end
section
set_option linter.unusedVariables false
set_option linter.unusedSimpArgs false
set_option maxRecDepth 100000
namespace Go.Proofs.Ytjplkbeolakbjaa.P
open Go.Ev Go.IntKind Go.Proofs.Ytjplkbeolakbjaa Go.Proofs.Ytjplkbeolakbjaa.Ty Go.Proofs.Ytjplkbeolakbjaa.E
def p_spylaw3_cleans_1 (L : Nat) (a0 : Int) (a1 : Int) : Option (Int × Int × (List (Int × Int × Bool × Unit))) := some (1, 1, [(a0, a1, false, ())])
attribute [local go_sem] Ev.putR_s Ev.putR_0 Ev.thenO_s Ev.thenO_0 Ev.seqR_n Ev.seqR_e Ev.seqR_r Ev.seqR_0 Ev.blkR_e Ev.blkR_n Ev.blkR_r Ev.blkR_0 Ev.normR_s Ev.normR_0 Ev.outR_r Ev.outR_n Ev.outR_0 Ev.retS_s Ev.retS_0 Ev.pureO_s Ev.pureO_0 Ev.topR_0 Ev.topR_t Ev.topR_t0 Ev.oneL_0 Ev.oneL_s Ev.topR_d Ev.topR_nils Ev.topR_agg Ev.topR_rs Ev.evOp_move Ev.evOp_assign Ev.evOp_pick Ev.evOp_alloc Ev.evOp_box Ev.evOp_build Ev.evOp_buildSlice Ev.evOp_load Ev.evOp_store Ev.evOp_makeMap Ev.evOp_lookup Ev.evOp_mapUpdate Ev.evOp_insert Ev.evOp_nilCheck Ev.evOp_binOp Ev.evOp_unOp Ev.evOp_convert Ev.evOp_makeFunc Ev.evOp_makeSlice Ev.evOp_slice Ev.evOp_fieldAddr Ev.evOp_field Ev.evOp_indexAddr Ev.evOp_index Ev.evOp_extract Ev.evOp_call Ev.evOp_append Ev.evOp_clear Ev.evOp_len Ev.evOp_min Ev.evOp_max Ev.condR_b Ev.condR_t Ev.evOps_nil Ev.evOps_plain Ev.evOps_guard Ev.runG_eq Ev.skipG_eq Ev.condL_tt Ev.condL_ff Ev.condL_tf Ev.condL_ft Ev.condL_u Ev.condC_t Ev.condC_f Ev.evC_skip Ev.evC_ret Ev.evC_exit Ev.evC_label Ev.evC_region Ev.evC_draw Ev.evC_seq Ev.evC_cond Ev.evC_block Ev.evC_loop Ev.fin_d Ev.fin_nils Ev.fin_agg_ Ev.fin_rs Ev.finS_s Ev.mapO_fin Ev.upd_upd Ev.argv_d Ev.argv_nils Ev.argv_agg Ev.argv_rs Ev.argv_p Ev.fk_low Ev.appendTo_nils Ev.appendTo_rs Ev.consV_d Ev.consV_agg Ev.consV_p Ev.consV_rs Ev.consV_nils Ev.consV_fn Ev.consV_und Ev.consV_jk Ev.consV_grown Ev.topR_grown Ev.len_grown Ev.consV_mp Ev.sameK_i Ev.sameK_s Ev.mget_0 Ev.mget_hit Ev.mget_miss Ev.mput_0 Ev.mput_hit Ev.mput_miss Ev.apartAll Ev.apartL Ev.apartV Ev.freeAll Ev.sel Ev.keyOfV Ev.evLookup Ev.evPut Ev.hintOk Ev.keyOk Ev.consP Ev.lookV Ev.guardV Ev.dstAt Ev.evPure Ev.evStore Ev.evBin Ev.evBinO Ev.evNil Ev.isNilC Ev.evUn Ev.evConv Ev.evSlice Ev.optI Ev.foldI Ev.capsOk Ev.noTup Ev.nth Ev.setN Ev.killAt Ev.pad Ev.V.get Ev.V.put Ev.putD Ev.newBlk Ev.upd Ev.keq Ev.empty Ev.evCall Ev.V.args Ev.argP Ev.callOf Ev.evNilP Ev.isNilP Ev.look Ev.V.view.views Ev.V.view Ev.V.toD Ev.V.toD.V.toDs Ev.V.pure.pures Ev.V.pure Ev.D.flat.flats Ev.D.flat Ev.mkAgg Ev.allD Ev.aggParts Ev.setParts Ev.setElems Ev.getPath Ev.setPath Ev.subL Ev.eqD Ev.eqD.eqDs Ev.and2 Ev.strCut Ev.evalT Ev.constT Ev.evArgs Ev.mask Ev.maskOf Ev.tableOf Ev.compT Ev.resV Ev.retV Ev.mapO Ev.allD_gl Ev.killAt_i Ev.tkOne_i Ev.hT_agg Ev.hT_vagg Ev.hT_int Ev.hT_bool Ev.hT_str Ev.hT_sl Ev.hT_ptr Ev.hT_np Ev.hT_p Ev.hT_rs Ev.hT_mp Ev.hT_nils Ev.hT_fn Ev.hT_jk Ev.hT_gl Ev.eO_sl Ev.eO_nils Ev.eO_rs Ev.eT_sl Ev.eT_rs Ev.pL_str Ev.pL_sl Ev.pL_rs Ev.pL_nils Ev.pL_min Ev.pL_max Ev.len_glB Ev.noTup_gl Ev.rowV_len Ev.rowV_nil Ev.rowV_cons Ev.rowV_append Ev.rowV_set Ev.rowV_replicate Ev.nth_row Ev.row_take Ev.row_drop Ev.toDs_row Ev.fin_row Ev.map_row Ev.map_take_ Ev.map_drop_ Ev.Bk_i Ev.GlB_0 Ev.GlB_mk Ev.gl_nil Ev.gl_cons Ev.gl_snoc Ev.gl_setN Ev.appendTo_gl Ev.consV_gl Ev.elems_gl Ev.fin_gl Ev.view_gl Ev.argv_gl Ev.topR_gl Ev.sp_z Ev.sp_0 Ev.sp_s Ev.km_z Ev.km_0 Ev.km_s Ev.beq_toList Ev.nc0 Ev.bq_t Ev.bq_f Ev.bodyN Ev.le_maxRow Int.cast_ofNat_Int IntWalk.i64_in IntWalk.u64_in IntWalk.u8_in beq_self_eq_true Bool.true_beq Bool.false_beq Bool.and_true Bool.true_and Bool.false_and Bool.and_false Bool.and_self Bool.not_true Bool.not_false Bool.not_eq_true cond_true cond_false if_true if_false and_true true_and and_self decide_true decide_false Bool.or_true Bool.true_or Bool.or_false Bool.false_or List.isEmpty List.isEmpty_nil List.size_toArray List.map List.length_map List.length_cons List.length_nil Option.map Option.bind Option.getD Option.isSome List.replicate Bool.false_eq_true implies_true false_implies forall_const Array.toList Array.isEmpty List.append List.nil_append List.cons_append List.drop_zero List.take_length List.take_succ_cons List.take_zero List.take_nil List.getElem?_map List.getElem?_cons_zero List.getElem?_cons_succ List.getElem?_nil List.append_nil eq_self Int.toNat_natCast List.length_append Nat.zero_add Nat.add_zero List.length_replicate Nat.sub_zero Option.map_some Option.map_none Int.le_refl Nat.le_refl
noncomputable def G_spylaw3_cleans_1 (L : Nat) : Specs := []
noncomputable def T_spylaw3_cleans_1 : Table := tableOf [(102, en102)]
theorem Go_spylaw3_cleans_1 (L : Nat) (hL : L ≤ 4611686018427387904) : ∀ g s, Ev.look (G_spylaw3_cleans_1 L) g = some s → SpecOk Try.prog g s := specs_nil
theorem To_spylaw3_cleans_1 (L : Nat) : TableOk Try.prog ((G_spylaw3_cleans_1 L).map (·.1)) T_spylaw3_cleans_1 := (table_cons Try.func102 (by kernel_rfl) (by kernel_rfl) table_nil)
attribute [local go_sem] Ty.tk3 Ty.ik3 Ty.ek3 Ty.zv3 Ty.by3 Ty.so3 Ty.tk4 Ty.ub4 Ty.ek4 Ty.zv4 Ty.by4 Ty.so4 Ty.tk27 Ty.ik27 Ty.ek27 Ty.zv27 Ty.by27 Ty.so27 Ty.tk35 Ty.zv35 Ty.by35 Ty.so35 Ty.tk43 Ty.ct43 Ty.ek43 Ty.zv43 Ty.by43 Ty.so43 Ty.tk82 Ty.ct82 Ty.zv82 Ty.by82 Ty.so82 Ty.k35_e Ty.k43_e Ty.k82_e E.mk102_1000000 loopN loops Try.f102
theorem e_spylaw3_cleans_1 (L : Nat) (hL : L ≤ 4611686018427387904) (a0 : Int) (a1 : Int) (res : Int × Int × (List (Int × Int × Bool × Unit))) (h : p_spylaw3_cleans_1 L a0 a1 = some res) : evTop Try.prog (G_spylaw3_cleans_1 L) T_spylaw3_cleans_1 L 1 102 [.int .i64 a0, .int .i64 a1] = some [.agg 82 [.int .i64 res.1, .int .i64 res.2.1, .sl 43 (res.2.2.map k43.e)]] := by
  revert h
  unfold p_spylaw3_cleans_1 evTop
  simp only [List.map]
  rw [evF_s (fn := Try.f102) (msk := en102.ms) (hT := by rfl) (hb := by rfl)]
  rintro ⟨⟩
  simp only [go_sem, Nat.reduceAdd, Nat.reduceSub, Nat.reduceMul, Nat.reduceEqDiff, Nat.reduceBEq, Nat.reduceLT, Nat.reduceLeDiff, Nat.reducePow, Int.reduceToNat, Int.reduceLT, Int.reduceLE, Int.reduceGT, Int.reduceGE, Int.reduceEq, Int.reduceNeg, Int.reduceAdd, Int.reduceSub, Int.reduceMul, ↓reduceIte, reduceCtorEq, *]
noncomputable def s_spylaw3_cleans_1 (L : Nat) : Ev.Spec := specP (cCons (cI .i64) (cCons (cI .i64) cNil)) (fun x => p_spylaw3_cleans_1 L x.1 x.2.1) (fun r => [.agg 82 [.int .i64 r.1, .int .i64 r.2.1, .sl 43 (r.2.2.map k43.e)]])
theorem s_spylaw3_cleans_1_run (L : Nat) (a0 : Int) (a1 : Int) : (s_spylaw3_cleans_1 L).run [.int .i64 a0, .int .i64 a1] = (p_spylaw3_cleans_1 L a0 a1).map fun r => [.agg 82 [.int .i64 r.1, .int .i64 r.2.1, .sl 43 (r.2.2.map k43.e)]] := specP_run (cCons (cI .i64) (cCons (cI .i64) cNil)) (fun x => p_spylaw3_cleans_1 L x.1 x.2.1) (fun r => [.agg 82 [.int .i64 r.1, .int .i64 r.2.1, .sl 43 (r.2.2.map k43.e)]]) (a0, a1, ())
theorem ok_spylaw3_cleans_1 (L : Nat) (hL : L ≤ 4611686018427387904) : SpecOk Try.prog 102 (s_spylaw3_cleans_1 L) := specP_ok mixed (Go_spylaw3_cleans_1 L hL) (To_spylaw3_cleans_1 L) fun x r h => ⟨L, 1, e_spylaw3_cleans_1 L hL x.1 x.2.1 r h⟩
end Go.Proofs.Ytjplkbeolakbjaa.P
end
section
set_option linter.unusedVariables false
set_option linter.unusedSimpArgs false
set_option maxRecDepth 100000
namespace Go.Proofs.Ytjplkbeolakbjaa.P
open Go.Ev Go.IntKind Go.Proofs.Ytjplkbeolakbjaa Go.Proofs.Ytjplkbeolakbjaa.Ty Go.Proofs.Ytjplkbeolakbjaa.E
def p_spylaw3_cleans_l1 (L : Nat) (s8 : Int) : List (Int × Int × (List (Int × Int × Bool × Unit)) × Unit) → (List (Int × Int × Bool × Unit)) → Option (List (Int × Int × Bool × Unit))
  | [], s48 => some s48
  | x45 :: tl, s48 => bnd (idx x45.2.2.1 s8) fun x50 => rq (s48.length + 1 ≤ maxRow) <| rq ((s48.length + 1) * 24 ≤ maxRow) <| p_spylaw3_cleans_l1 L s8 tl (s48 ++ [x50])
def p_spylaw3_cleans_l0 (L : Nat) (a32 : List (Int × Int × (List (Int × Int × Bool × Unit)) × Unit)) : Nat → Int → (List (Int × Int × Bool × Unit)) → Option (List (Int × Int × Bool × Unit))
  | 0, s8, s33 => some s33
  | tl + 1, s8, s33 => rq (a32.length < L) <| bnd (p_spylaw3_cleans_l1 L s8 a32 ([])) fun o51 => bnd (p_bound_Fuse_Quanta L o51 1) fun r53 => rq (s33.length + 1 ≤ maxRow) <| rq ((s33.length + 1) * 24 ≤ maxRow) <| p_spylaw3_cleans_l0 L a32 tl (s8 + 1) (s33 ++ [(r53.1, r53.2.1, r53.2.2, ())])
def p_spylaw3_cleans (L : Nat)  : Option Bool := bnd (p_spylaw3_cleans_1 L 1 3) fun r1 => bnd (p_spylaw3_cleans_1 L 2 5) fun r2 => bnd (p_spylaw3_cleans_1 L 9 9) fun r3 => bnd (p_clean_valid L ([(r1.1, r1.2.1, r1.2.2, ()), (r2.1, r2.2.1, r2.2.2, ()), (r3.1, r3.2.1, r3.2.2, ())]) 1) fun r4 => cb (decide (r4 = 0)) (rq ((r1.2.2.length : Int).toNat < L) <| rq ((r1.2.2.length : Int) < 4611686018427387904) <| bnd (p_spylaw3_cleans_l0 L ([(r1.1, r1.2.1, r1.2.2, ()), (r2.1, r2.2.1, r2.2.2, ()), (r3.1, r3.2.1, r3.2.2, ())]) (r1.2.2.length : Int).toNat 0 ([])) fun o54 => cb (decide ((o54.length : Int) = 1)) (bnd (idx o54 0) fun x56 => some ((decide (x56.1 = 2)) && ((decide (x56.2.1 = 3)) && (!x56.2.2.1)))) (some false)) (some false)
attribute [local go_sem] Ev.putR_s Ev.putR_0 Ev.thenO_s Ev.thenO_0 Ev.seqR_n Ev.seqR_e Ev.seqR_r Ev.seqR_0 Ev.blkR_e Ev.blkR_n Ev.blkR_r Ev.blkR_0 Ev.normR_s Ev.normR_0 Ev.outR_r Ev.outR_n Ev.outR_0 Ev.retS_s Ev.retS_0 Ev.pureO_s Ev.pureO_0 Ev.topR_0 Ev.topR_t Ev.topR_t0 Ev.oneL_0 Ev.oneL_s Ev.topR_d Ev.topR_nils Ev.topR_agg Ev.topR_rs Ev.evOp_move Ev.evOp_assign Ev.evOp_pick Ev.evOp_alloc Ev.evOp_box Ev.evOp_build Ev.evOp_buildSlice Ev.evOp_load Ev.evOp_store Ev.evOp_makeMap Ev.evOp_lookup Ev.evOp_mapUpdate Ev.evOp_insert Ev.evOp_nilCheck Ev.evOp_binOp Ev.evOp_unOp Ev.evOp_convert Ev.evOp_makeFunc Ev.evOp_makeSlice Ev.evOp_slice Ev.evOp_fieldAddr Ev.evOp_field Ev.evOp_indexAddr Ev.evOp_index Ev.evOp_extract Ev.evOp_call Ev.evOp_append Ev.evOp_clear Ev.evOp_len Ev.evOp_min Ev.evOp_max Ev.condR_b Ev.condR_t Ev.evOps_nil Ev.evOps_plain Ev.evOps_guard Ev.runG_eq Ev.skipG_eq Ev.condL_tt Ev.condL_ff Ev.condL_tf Ev.condL_ft Ev.condL_u Ev.condC_t Ev.condC_f Ev.evC_skip Ev.evC_ret Ev.evC_exit Ev.evC_label Ev.evC_region Ev.evC_draw Ev.evC_seq Ev.evC_cond Ev.evC_block Ev.evC_loop Ev.fin_d Ev.fin_nils Ev.fin_agg_ Ev.fin_rs Ev.finS_s Ev.mapO_fin Ev.upd_upd Ev.argv_d Ev.argv_nils Ev.argv_agg Ev.argv_rs Ev.argv_p Ev.fk_low Ev.appendTo_nils Ev.appendTo_rs Ev.consV_d Ev.consV_agg Ev.consV_p Ev.consV_rs Ev.consV_nils Ev.consV_fn Ev.consV_und Ev.consV_jk Ev.consV_grown Ev.topR_grown Ev.len_grown Ev.consV_mp Ev.sameK_i Ev.sameK_s Ev.mget_0 Ev.mget_hit Ev.mget_miss Ev.mput_0 Ev.mput_hit Ev.mput_miss Ev.apartAll Ev.apartL Ev.apartV Ev.freeAll Ev.sel Ev.keyOfV Ev.evLookup Ev.evPut Ev.hintOk Ev.keyOk Ev.consP Ev.lookV Ev.guardV Ev.dstAt Ev.evPure Ev.evStore Ev.evBin Ev.evBinO Ev.evNil Ev.isNilC Ev.evUn Ev.evConv Ev.evSlice Ev.optI Ev.foldI Ev.capsOk Ev.noTup Ev.nth Ev.setN Ev.killAt Ev.pad Ev.V.get Ev.V.put Ev.putD Ev.newBlk Ev.upd Ev.keq Ev.empty Ev.evCall Ev.V.args Ev.argP Ev.callOf Ev.evNilP Ev.isNilP Ev.look Ev.V.view.views Ev.V.view Ev.V.toD Ev.V.toD.V.toDs Ev.V.pure.pures Ev.V.pure Ev.D.flat.flats Ev.D.flat Ev.mkAgg Ev.allD Ev.aggParts Ev.setParts Ev.setElems Ev.getPath Ev.setPath Ev.subL Ev.eqD Ev.eqD.eqDs Ev.and2 Ev.strCut Ev.evalT Ev.constT Ev.evArgs Ev.mask Ev.maskOf Ev.tableOf Ev.compT Ev.resV Ev.retV Ev.mapO Ev.allD_gl Ev.killAt_i Ev.tkOne_i Ev.hT_agg Ev.hT_vagg Ev.hT_int Ev.hT_bool Ev.hT_str Ev.hT_sl Ev.hT_ptr Ev.hT_np Ev.hT_p Ev.hT_rs Ev.hT_mp Ev.hT_nils Ev.hT_fn Ev.hT_jk Ev.hT_gl Ev.eO_sl Ev.eO_nils Ev.eO_rs Ev.eT_sl Ev.eT_rs Ev.pL_str Ev.pL_sl Ev.pL_rs Ev.pL_nils Ev.pL_min Ev.pL_max Ev.len_glB Ev.noTup_gl Ev.rowV_len Ev.rowV_nil Ev.rowV_cons Ev.rowV_append Ev.rowV_set Ev.rowV_replicate Ev.nth_row Ev.row_take Ev.row_drop Ev.toDs_row Ev.fin_row Ev.map_row Ev.map_take_ Ev.map_drop_ Ev.Bk_i Ev.GlB_0 Ev.GlB_mk Ev.gl_nil Ev.gl_cons Ev.gl_snoc Ev.gl_setN Ev.appendTo_gl Ev.consV_gl Ev.elems_gl Ev.fin_gl Ev.view_gl Ev.argv_gl Ev.topR_gl Ev.sp_z Ev.sp_0 Ev.sp_s Ev.km_z Ev.km_0 Ev.km_s Ev.beq_toList Ev.nc0 Ev.bq_t Ev.bq_f Ev.bodyN Ev.le_maxRow Int.cast_ofNat_Int IntWalk.i64_in IntWalk.u64_in IntWalk.u8_in beq_self_eq_true Bool.true_beq Bool.false_beq Bool.and_true Bool.true_and Bool.false_and Bool.and_false Bool.and_self Bool.not_true Bool.not_false Bool.not_eq_true cond_true cond_false if_true if_false and_true true_and and_self decide_true decide_false Bool.or_true Bool.true_or Bool.or_false Bool.false_or List.isEmpty List.isEmpty_nil List.size_toArray List.map List.length_map List.length_cons List.length_nil Option.map Option.bind Option.getD Option.isSome List.replicate Bool.false_eq_true implies_true false_implies forall_const Array.toList Array.isEmpty List.append List.nil_append List.cons_append List.drop_zero List.take_length List.take_succ_cons List.take_zero List.take_nil List.getElem?_map List.getElem?_cons_zero List.getElem?_cons_succ List.getElem?_nil List.append_nil eq_self Int.toNat_natCast List.length_append Nat.zero_add Nat.add_zero List.length_replicate Nat.sub_zero Option.map_some Option.map_none Int.le_refl Nat.le_refl
noncomputable def G_spylaw3_cleans (L : Nat) : Specs := [(98, s_clean_valid L), (99, s_bound_Fuse_Quanta L), (102, s_spylaw3_cleans_1 L)]
noncomputable def T_spylaw3_cleans : Table := tableOf [(54, en54), (52, en52)]
theorem Go_spylaw3_cleans (L : Nat) (hL : L ≤ 4611686018427387904) : ∀ g s, Ev.look (G_spylaw3_cleans L) g = some s → SpecOk Try.prog g s := (specs_cons (ok_clean_valid L hL) (specs_cons (ok_bound_Fuse_Quanta L hL) (specs_cons (ok_spylaw3_cleans_1 L hL) specs_nil)))
theorem To_spylaw3_cleans (L : Nat) : TableOk Try.prog ((G_spylaw3_cleans L).map (·.1)) T_spylaw3_cleans := (table_cons Try.func54 (by kernel_rfl) (by kernel_rfl) (table_cons Try.func52 (by kernel_rfl) (by kernel_rfl) table_nil))
theorem lk_spylaw3_cleans_98 (L : Nat) : Ev.look (G_spylaw3_cleans L) 98 = some (s_clean_valid L) := nr rfl
theorem lk_spylaw3_cleans_99 (L : Nat) : Ev.look (G_spylaw3_cleans L) 99 = some (s_bound_Fuse_Quanta L) := nr rfl
theorem lk_spylaw3_cleans_102 (L : Nat) : Ev.look (G_spylaw3_cleans L) 102 = some (s_spylaw3_cleans_1 L) := nr rfl
theorem lk_spylaw3_cleans_52 (L : Nat) : Ev.look (G_spylaw3_cleans L) 52 = none := nr rfl
theorem in_spylaw3_cleans_52 (L c lv : Nat) (xs : List V) (st : Store) : evF Try.prog (G_spylaw3_cleans L) T_spylaw3_cleans L (c + 1) 52 xs lv st = outR Try.prog Try.f52.results.toList (evC Try.prog (G_spylaw3_cleans L) (evF Try.prog (G_spylaw3_cleans L) T_spylaw3_cleans L c) L en52.ms lv 0 (bodyN Try.f52) (pad xs Try.f52.ntmps) st) := evF_s (hT := by rfl) (hb := by rfl) ..
attribute [local go_sem] Ty.tk3 Ty.ik3 Ty.ek3 Ty.zv3 Ty.by3 Ty.so3 Ty.tk4 Ty.ub4 Ty.ek4 Ty.zv4 Ty.by4 Ty.so4 Ty.tk27 Ty.ik27 Ty.ek27 Ty.zv27 Ty.by27 Ty.so27 Ty.tk35 Ty.zv35 Ty.by35 Ty.so35 Ty.tk36 Ty.ik36 Ty.ek36 Ty.zv36 Ty.by36 Ty.so36 Ty.tk43 Ty.ct43 Ty.ek43 Ty.zv43 Ty.by43 Ty.so43 Ty.tk80 Ty.zv80 Ty.by80 Ty.so80 Ty.tk82 Ty.ct82 Ty.zv82 Ty.by82 Ty.so82 Ty.tk131 Ty.zv131 Ty.by131 Ty.so131 Ty.k35_e Ty.k43_e Ty.k80_e Ty.k82_e E.mk54_1000000 E.dw52_4 E.kl52_4 E.nc52_4 E.dw52_14 E.kl52_14 E.nc52_14 E.mk52_0 E.mk52_2 E.mk52_1000001 E.mk52_1000002 E.mk52_1000003 E.mk52_1000004 E.mk52_1000000 E.lb52_0 E.lb52_2 lk_spylaw3_cleans_98 lk_spylaw3_cleans_99 lk_spylaw3_cleans_102 lk_spylaw3_cleans_52 in_spylaw3_cleans_52 s_clean_valid_run s_bound_Fuse_Quanta_run s_spylaw3_cleans_1_run loopN loops Try.f54 Try.f52
def Q0_p_spylaw3_cleans_l1 (w44 : Nat) (s8 : Int) (a7 : Int) (a32 : List (Int × Int × (List (Int × Int × Bool × Unit)) × Unit)) (a9 : Int) (a10 : Int) (s33 : List (Int × Int × Bool × Unit)) (u : List (Int × Int × Bool × Unit)) (z : Out) : Prop := ∃ env st, z = some (.exit 2, env, st) ∧ env = sp 61 0 [(0, .rs 82 (0, 11) (st (0, 11)).ver 0 a32.length true), (1, .d (.int .i64 1)), (4, .p (13, 4) (st (13, 4)).ver 0 []), (7, .p (13, 7) (st (13, 7)).ver 0 []), (9, gl 43 (13, 49) (st (13, 49)).ver (rowV k43.e u)), (32, .d (.int .i64 a7)), (33, .d (.int .i64 s8))] ∧ Bk (st (0, 11)) 82 (rowV k82.e a32) ∧ Bk (st (13, 4)) 82 [.agg 82 [.d (.int .i64 0), .d (.int .i64 0), .nils 43]] ∧ Bk (st (13, 7)) 82 [.agg 82 [.d (.int .i64 a9), .d (.int .i64 a10), gl 43 (13, 57) (st (13, 57)).ver (rowV k43.e s33)]] ∧ GlB (st (13, 49)) 43 (rowV k43.e u) ∧ GlB (st (13, 57)) 43 (rowV k43.e s33) ∧ (st (0, 11)).ver = w44
abbrev Q_p_spylaw3_cleans_l1 (w44 : Nat) (s8 : Int) (a7 : Int) (a32 : List (Int × Int × (List (Int × Int × Bool × Unit)) × Unit)) (a9 : Int) (a10 : Int) (s33 : List (Int × Int × Bool × Unit)) (o : List (Int × Int × Bool × Unit)) (z : Out) : Prop := Q0_p_spylaw3_cleans_l1 w44 s8 a7 a32 a9 a10 s33 o z
theorem l_p_spylaw3_cleans_l1 (L : Nat) (hL : L ≤ 4611686018427387904) (w44 : Nat) (s8 : Int) (a7 : Int) (a32 : List (Int × Int × (List (Int × Int × Bool × Unit)) × Unit)) (a9 : Int) (a10 : Int) (s33 : List (Int × Int × Bool × Unit)) : ∀ (tl : List (Int × Int × (List (Int × Int × Bool × Unit)) × Unit)) (n : Nat) (s46 : Int) (s48 : List (Int × Int × Bool × Unit)) (env : List V) (st : Store) (o : List (Int × Int × Bool × Unit)), tl.length < n → Rng a32 s46 tl → mask (maskOf en52.ms 2) env = sp 61 0 [(0, .rs 82 (0, 11) (st (0, 11)).ver 0 a32.length true), (1, .d (.int .i64 1)), (4, .p (13, 4) (st (13, 4)).ver 0 []), (7, .p (13, 7) (st (13, 7)).ver 0 []), (8, .d (.int .i64 s8)), (9, gl 43 (13, 49) (st (13, 49)).ver (rowV k43.e s48)), (32, .d (.int .i64 a7)), (33, .d (.int .i64 s8)), (36, .rs 82 (0, 11) (st (0, 11)).ver 0 a32.length true), (37, .d (.int .i64 (a32.length : Int))), (38, .d (.int .i64 s46))] → Bk (st (0, 11)) 82 (rowV k82.e a32) → Bk (st (13, 4)) 82 [.agg 82 [.d (.int .i64 0), .d (.int .i64 0), .nils 43]] → Bk (st (13, 7)) 82 [.agg 82 [.d (.int .i64 a9), .d (.int .i64 a10), gl 43 (13, 57) (st (13, 57)).ver (rowV k43.e s33)]] → GlB (st (13, 49)) 43 (rowV k43.e s48) → GlB (st (13, 57)) 43 (rowV k43.e s33) → (st (0, 11)).ver = w44 → p_spylaw3_cleans_l1 L s8 tl s48 = some o →
    Q_p_spylaw3_cleans_l1 w44 s8 a7 a32 a9 a10 s33 o (iter (evC Try.prog (G_spylaw3_cleans L) (evF Try.prog (G_spylaw3_cleans L) T_spylaw3_cleans L 0) L en52.ms 13 2 lb52_2) (maskOf en52.ms 2) n env st) := by
  intro tl
  induction tl with
  | nil =>
    intro n s46 s48 env st o hn hR he hb0 hb1 hb2 hb3 hb4 hw0 h
    obtain ⟨n, rfl⟩ : ∃ m, n = m + 1 := ⟨n - 1, by omega⟩
    obtain ⟨be0, bv0, bl0⟩ := hb0
    obtain ⟨be1, bv1, bl1⟩ := hb1
    obtain ⟨be2, bv2, bl2⟩ := hb2
    have g0 := rng_nil hR
    rw [iter, he]
    clear he
    generalize hK : iter _ _ n = K
    rw [p_spylaw3_cleans_l1] at h
    revert h
    rintro ⟨⟩
    simp only [go_sem, Nat.reduceAdd, Nat.reduceSub, Nat.reduceMul, Nat.reduceEqDiff, Nat.reduceBEq, Nat.reduceLT, Nat.reduceLeDiff, Nat.reducePow, Int.reduceToNat, Int.reduceLT, Int.reduceLE, Int.reduceGT, Int.reduceGE, Int.reduceEq, Int.reduceNeg, Int.reduceAdd, Int.reduceSub, Int.reduceMul, ↓reduceIte, reduceCtorEq, *]
    refine (⟨_, _, rfl, ?_, ?_, ?_, ?_, ?_, ?_, ?_⟩ : Q0_p_spylaw3_cleans_l1 w44 s8 a7 a32 a9 a10 s33 _ _)
    all_goals simp only [go_sem, Nat.reduceAdd, Nat.reduceSub, Nat.reduceMul, Nat.reduceEqDiff, Nat.reduceBEq, Nat.reduceLT, Nat.reduceLeDiff, Nat.reducePow, Int.reduceToNat, Int.reduceLT, Int.reduceLE, Int.reduceGT, Int.reduceGE, Int.reduceEq, Int.reduceNeg, Int.reduceAdd, Int.reduceSub, Int.reduceMul, ↓reduceIte, reduceCtorEq, *]
  | cons x45 tl ih =>
    intro n s46 s48 env st o hn hR he hb0 hb1 hb2 hb3 hb4 hw0 h
    obtain ⟨n, rfl⟩ : ∃ m, n = m + 1 := ⟨n - 1, by omega⟩
    obtain ⟨be0, bv0, bl0⟩ := hb0
    obtain ⟨be1, bv1, bl1⟩ := hb1
    obtain ⟨be2, bv2, bl2⟩ := hb2
    replace ih : Hold _ := ih
    replace hR := rng_s hR
    obtain ⟨g0, g1, g2, g3, hR⟩ := hR
    rw [iter, he]
    clear he
    generalize hK : iter _ _ n = K
    rw [p_spylaw3_cleans_l1] at h
    revert h
    refine idx_i fun x50 c1 c2 c3 => ?_
    refine rq_i fun c4 => ?_
    refine rq_i fun c5 => ?_
    intro h
    simp only [go_sem, Nat.reduceAdd, Nat.reduceSub, Nat.reduceMul, Nat.reduceEqDiff, Nat.reduceBEq, Nat.reduceLT, Nat.reduceLeDiff, Nat.reducePow, Int.reduceToNat, Int.reduceLT, Int.reduceLE, Int.reduceGT, Int.reduceGE, Int.reduceEq, Int.reduceNeg, Int.reduceAdd, Int.reduceSub, Int.reduceMul, ↓reduceIte, reduceCtorEq, *]
    subst hK
    refine ih n (s46 + 1) (s48 ++ [x50]) _ _ _ (by simp only [List.length_cons] at hn; omega) hR ?_ ?_ ?_ ?_ ?_ ?_ ?_ h
    all_goals simp only [go_sem, Nat.reduceAdd, Nat.reduceSub, Nat.reduceMul, Nat.reduceEqDiff, Nat.reduceBEq, Nat.reduceLT, Nat.reduceLeDiff, Nat.reducePow, Int.reduceToNat, Int.reduceLT, Int.reduceLE, Int.reduceGT, Int.reduceGE, Int.reduceEq, Int.reduceNeg, Int.reduceAdd, Int.reduceSub, Int.reduceMul, ↓reduceIte, reduceCtorEq, *]
def Q0_p_spylaw3_cleans_l0 (w5 : Nat) (a7 : Int) (a32 : List (Int × Int × (List (Int × Int × Bool × Unit)) × Unit)) (a9 : Int) (a10 : Int) (u : List (Int × Int × Bool × Unit)) (z : Out) : Prop := ∃ env st, z = some (.exit 0, env, st) ∧ env = sp 61 0 [(4, .p (13, 4) (st (13, 4)).ver 0 []), (7, .p (13, 7) (st (13, 7)).ver 0 [])] ∧ Bk (st (0, 11)) 82 (rowV k82.e a32) ∧ Bk (st (13, 4)) 82 [.agg 82 [.d (.int .i64 0), .d (.int .i64 0), .nils 43]] ∧ Bk (st (13, 7)) 82 [.agg 82 [.d (.int .i64 a9), .d (.int .i64 a10), gl 43 (13, 57) (st (13, 57)).ver (rowV k43.e u)]] ∧ GlB (st (13, 57)) 43 (rowV k43.e u) ∧ (st (0, 11)).ver = w5
abbrev Q_p_spylaw3_cleans_l0 (w5 : Nat) (a7 : Int) (a32 : List (Int × Int × (List (Int × Int × Bool × Unit)) × Unit)) (a9 : Int) (a10 : Int) (o : List (Int × Int × Bool × Unit)) (z : Out) : Prop := Q0_p_spylaw3_cleans_l0 w5 a7 a32 a9 a10 o z
theorem l_p_spylaw3_cleans_l0 (L : Nat) (hL : L ≤ 4611686018427387904) (w5 : Nat) (a7 : Int) (a32 : List (Int × Int × (List (Int × Int × Bool × Unit)) × Unit)) (a9 : Int) (a10 : Int) : ∀ (tl n : Nat) (s8 : Int) (s33 : List (Int × Int × Bool × Unit)) (env : List V) (st : Store) (o : List (Int × Int × Bool × Unit)), tl < n → Cnt a7 s8 tl → mask (maskOf en52.ms 0) env = sp 61 0 [(0, .rs 82 (0, 11) (st (0, 11)).ver 0 a32.length true), (1, .d (.int .i64 1)), (4, .p (13, 4) (st (13, 4)).ver 0 []), (7, .p (13, 7) (st (13, 7)).ver 0 []), (32, .d (.int .i64 a7)), (33, .d (.int .i64 s8))] → Bk (st (0, 11)) 82 (rowV k82.e a32) → Bk (st (13, 4)) 82 [.agg 82 [.d (.int .i64 0), .d (.int .i64 0), .nils 43]] → Bk (st (13, 7)) 82 [.agg 82 [.d (.int .i64 a9), .d (.int .i64 a10), gl 43 (13, 57) (st (13, 57)).ver (rowV k43.e s33)]] → GlB (st (13, 57)) 43 (rowV k43.e s33) → (st (0, 11)).ver = w5 → p_spylaw3_cleans_l0 L a32 tl s8 s33 = some o →
    Q_p_spylaw3_cleans_l0 w5 a7 a32 a9 a10 o (iter (evC Try.prog (G_spylaw3_cleans L) (evF Try.prog (G_spylaw3_cleans L) T_spylaw3_cleans L 0) L en52.ms 13 0 lb52_0) (maskOf en52.ms 0) n env st) := by
  intro tl
  induction tl with
  | zero =>
    intro n s8 s33 env st o hn hR he hb0 hb1 hb2 hb3 hw0 h
    obtain ⟨n, rfl⟩ : ∃ m, n = m + 1 := ⟨n - 1, by omega⟩
    obtain ⟨be0, bv0, bl0⟩ := hb0
    obtain ⟨be1, bv1, bl1⟩ := hb1
    obtain ⟨be2, bv2, bl2⟩ := hb2
    have g0 := cnt_nil hR
    rw [iter, he]
    clear he
    generalize hK : iter _ _ n = K
    rw [p_spylaw3_cleans_l0] at h
    revert h
    rintro ⟨⟩
    simp only [go_sem, Nat.reduceAdd, Nat.reduceSub, Nat.reduceMul, Nat.reduceEqDiff, Nat.reduceBEq, Nat.reduceLT, Nat.reduceLeDiff, Nat.reducePow, Int.reduceToNat, Int.reduceLT, Int.reduceLE, Int.reduceGT, Int.reduceGE, Int.reduceEq, Int.reduceNeg, Int.reduceAdd, Int.reduceSub, Int.reduceMul, ↓reduceIte, reduceCtorEq, *]
    refine (⟨_, _, rfl, ?_, ?_, ?_, ?_, ?_, ?_⟩ : Q0_p_spylaw3_cleans_l0 w5 a7 a32 a9 a10 _ _)
    all_goals simp only [go_sem, Nat.reduceAdd, Nat.reduceSub, Nat.reduceMul, Nat.reduceEqDiff, Nat.reduceBEq, Nat.reduceLT, Nat.reduceLeDiff, Nat.reducePow, Int.reduceToNat, Int.reduceLT, Int.reduceLE, Int.reduceGT, Int.reduceGE, Int.reduceEq, Int.reduceNeg, Int.reduceAdd, Int.reduceSub, Int.reduceMul, ↓reduceIte, reduceCtorEq, *]
  | succ tl ih =>
    intro n s8 s33 env st o hn hR he hb0 hb1 hb2 hb3 hw0 h
    obtain ⟨n, rfl⟩ : ∃ m, n = m + 1 := ⟨n - 1, by omega⟩
    obtain ⟨be0, bv0, bl0⟩ := hb0
    obtain ⟨be1, bv1, bl1⟩ := hb1
    obtain ⟨be2, bv2, bl2⟩ := hb2
    replace ih : Hold _ := ih
    replace hR := cnt_s hR
    obtain ⟨g0, g1, g3, hR⟩ := hR
    rw [iter, he]
    clear he
    generalize hK : iter _ _ n = K
    rw [p_spylaw3_cleans_l0] at h
    revert h
    refine rq_i fun c1 => ?_
    refine bnd_i fun o51 ho2 => ?_
    intro h
    simp only [go_sem, Nat.reduceAdd, Nat.reduceSub, Nat.reduceMul, Nat.reduceEqDiff, Nat.reduceBEq, Nat.reduceLT, Nat.reduceLeDiff, Nat.reducePow, Int.reduceToNat, Int.reduceLT, Int.reduceLE, Int.reduceGT, Int.reduceGE, Int.reduceEq, Int.reduceNeg, Int.reduceAdd, Int.reduceSub, Int.reduceMul, ↓reduceIte, reduceCtorEq, *]
    generalize hz4 : iter _ _ _ _ _ = z3
    have hq5 : Q_p_spylaw3_cleans_l1 w5 s8 a7 a32 a9 a10 s33 o51 z3 := by
      rw [← hz4]
      refine l_p_spylaw3_cleans_l1 L hL w5 s8 a7 a32 a9 a10 s33 a32 L 0 ([]) _ _ _ c1 (rng_0 c1 hL) ?_ ?_ ?_ ?_ ?_ ?_ ?_ ho2
      all_goals simp only [go_sem, Nat.reduceAdd, Nat.reduceSub, Nat.reduceMul, Nat.reduceEqDiff, Nat.reduceBEq, Nat.reduceLT, Nat.reduceLeDiff, Nat.reducePow, Int.reduceToNat, Int.reduceLT, Int.reduceLE, Int.reduceGT, Int.reduceGE, Int.reduceEq, Int.reduceNeg, Int.reduceAdd, Int.reduceSub, Int.reduceMul, ↓reduceIte, reduceCtorEq, *]
    clear hz4 ho2
    obtain ⟨_, st52, rfl, rfl, ⟨k61, k62, k63⟩, ⟨k71, k72, k73⟩, ⟨k81, k82, k83⟩, k9, k10, w11⟩ := hq5
    revert h
    refine bnd_i fun r53 c12 => ?_
    refine rq_i fun c13 => ?_
    refine rq_i fun c14 => ?_
    intro h
    simp only [go_sem, Nat.reduceAdd, Nat.reduceSub, Nat.reduceMul, Nat.reduceEqDiff, Nat.reduceBEq, Nat.reduceLT, Nat.reduceLeDiff, Nat.reducePow, Int.reduceToNat, Int.reduceLT, Int.reduceLE, Int.reduceGT, Int.reduceGE, Int.reduceEq, Int.reduceNeg, Int.reduceAdd, Int.reduceSub, Int.reduceMul, ↓reduceIte, reduceCtorEq, *]
    subst hK
    refine ih n (s8 + 1) (s33 ++ [(r53.1, r53.2.1, r53.2.2, ())]) _ _ _ (by omega) hR ?_ ?_ ?_ ?_ ?_ ?_ h
    all_goals simp only [go_sem, Nat.reduceAdd, Nat.reduceSub, Nat.reduceMul, Nat.reduceEqDiff, Nat.reduceBEq, Nat.reduceLT, Nat.reduceLeDiff, Nat.reducePow, Int.reduceToNat, Int.reduceLT, Int.reduceLE, Int.reduceGT, Int.reduceGE, Int.reduceEq, Int.reduceNeg, Int.reduceAdd, Int.reduceSub, Int.reduceMul, ↓reduceIte, reduceCtorEq, *]
theorem e_spylaw3_cleans (L : Nat) (hL : L ≤ 4611686018427387904)  (res : Bool) (h : p_spylaw3_cleans L  = some res) : evTop Try.prog (G_spylaw3_cleans L) T_spylaw3_cleans L 2 54 [] = some [.bool res] := by
  revert h
  unfold p_spylaw3_cleans evTop
  simp only [List.map]
  rw [evF_s (fn := Try.f54) (msk := en54.ms) (hT := by rfl) (hb := by rfl)]
  refine bnd_i fun r1 c1 => ?_
  refine bnd_i fun r2 c2 => ?_
  refine bnd_i fun r3 c3 => ?_
  refine bnd_i fun r4 c4 => ?_
  have c5 := s_clean_valid_run L [(r1.1, r1.2.1, r1.2.2, ()), (r2.1, r2.2.1, r2.2.2, ()), (r3.1, r3.2.1, r3.2.2, ())] 1
  simp only [go_sem, Nat.reduceAdd, Nat.reduceSub, Nat.reduceMul, Nat.reduceEqDiff, Nat.reduceBEq, Nat.reduceLT, Nat.reduceLeDiff, Nat.reducePow, Int.reduceToNat, Int.reduceLT, Int.reduceLE, Int.reduceGT, Int.reduceGE, Int.reduceEq, Int.reduceNeg, Int.reduceAdd, Int.reduceSub, Int.reduceMul, ↓reduceIte, reduceCtorEq] at c5
  refine cb_i (fun c6 => ?_) (fun c6 => ?_)
  · refine rq_i fun c7 => ?_
    refine rq_i fun c8 => ?_
    refine bnd_i fun o54 ho9 => ?_
    intro h
    simp only [go_sem, Nat.reduceAdd, Nat.reduceSub, Nat.reduceMul, Nat.reduceEqDiff, Nat.reduceBEq, Nat.reduceLT, Nat.reduceLeDiff, Nat.reducePow, Int.reduceToNat, Int.reduceLT, Int.reduceLE, Int.reduceGT, Int.reduceGE, Int.reduceEq, Int.reduceNeg, Int.reduceAdd, Int.reduceSub, Int.reduceMul, ↓reduceIte, reduceCtorEq, *]
    generalize hz11 : iter _ _ _ _ _ = z10
    have hq12 : Q_p_spylaw3_cleans_l0 1 (r1.2.2.length : Int) ([(r1.1, r1.2.1, r1.2.2, ()), (r2.1, r2.2.1, r2.2.2, ()), (r3.1, r3.2.1, r3.2.2, ())]) r1.1 r1.2.1 o54 z10 := by
      rw [← hz11]
      refine l_p_spylaw3_cleans_l0 L hL 1 (r1.2.2.length : Int) ([(r1.1, r1.2.1, r1.2.2, ()), (r2.1, r2.2.1, r2.2.2, ()), (r3.1, r3.2.1, r3.2.2, ())]) r1.1 r1.2.1 _ L 0 ([]) _ _ _ c7 (cnt_00 (by decide) c8) ?_ ?_ ?_ ?_ ?_ ?_ ho9
      all_goals simp only [go_sem, Nat.reduceAdd, Nat.reduceSub, Nat.reduceMul, Nat.reduceEqDiff, Nat.reduceBEq, Nat.reduceLT, Nat.reduceLeDiff, Nat.reducePow, Int.reduceToNat, Int.reduceLT, Int.reduceLE, Int.reduceGT, Int.reduceGE, Int.reduceEq, Int.reduceNeg, Int.reduceAdd, Int.reduceSub, Int.reduceMul, ↓reduceIte, reduceCtorEq, *]
    clear hz11 ho9
    obtain ⟨_, st55, rfl, rfl, ⟨k131, k132, k133⟩, ⟨k141, k142, k143⟩, ⟨k151, k152, k153⟩, k16, w17⟩ := hq12
    revert h
    refine cb_i (fun c18 => ?_) (fun c18 => ?_)
    · refine idx_i fun x56 c19 c20 c21 => ?_
      have c21 : o54[0]? = some x56 := c21
      have c22 := gl_ne (f := k43.e) c21
      obtain ⟨k231, k232, k233⟩ := k16 (row_ne c21)
      rintro ⟨⟩
      simp only [go_sem, Nat.reduceAdd, Nat.reduceSub, Nat.reduceMul, Nat.reduceEqDiff, Nat.reduceBEq, Nat.reduceLT, Nat.reduceLeDiff, Nat.reducePow, Int.reduceToNat, Int.reduceLT, Int.reduceLE, Int.reduceGT, Int.reduceGE, Int.reduceEq, Int.reduceNeg, Int.reduceAdd, Int.reduceSub, Int.reduceMul, ↓reduceIte, reduceCtorEq, *]
    · rintro ⟨⟩
      simp only [go_sem, Nat.reduceAdd, Nat.reduceSub, Nat.reduceMul, Nat.reduceEqDiff, Nat.reduceBEq, Nat.reduceLT, Nat.reduceLeDiff, Nat.reducePow, Int.reduceToNat, Int.reduceLT, Int.reduceLE, Int.reduceGT, Int.reduceGE, Int.reduceEq, Int.reduceNeg, Int.reduceAdd, Int.reduceSub, Int.reduceMul, ↓reduceIte, reduceCtorEq, *]
  · rintro ⟨⟩
    simp only [go_sem, Nat.reduceAdd, Nat.reduceSub, Nat.reduceMul, Nat.reduceEqDiff, Nat.reduceBEq, Nat.reduceLT, Nat.reduceLeDiff, Nat.reducePow, Int.reduceToNat, Int.reduceLT, Int.reduceLE, Int.reduceGT, Int.reduceGE, Int.reduceEq, Int.reduceNeg, Int.reduceAdd, Int.reduceSub, Int.reduceMul, ↓reduceIte, reduceCtorEq, *]
noncomputable def s_spylaw3_cleans (L : Nat) : Ev.Spec := specP cNil (fun x => p_spylaw3_cleans L ) (fun r => [.bool r])
theorem s_spylaw3_cleans_run (L : Nat)  : (s_spylaw3_cleans L).run [] = (p_spylaw3_cleans L ).map fun r => [.bool r] := specP_run cNil (fun x => p_spylaw3_cleans L ) (fun r => [.bool r]) (())
theorem ok_spylaw3_cleans (L : Nat) (hL : L ≤ 4611686018427387904) : SpecOk Try.prog 54 (s_spylaw3_cleans L) := specP_ok mixed (Go_spylaw3_cleans L hL) (To_spylaw3_cleans L) fun x r h => ⟨L, 2, e_spylaw3_cleans L hL  r h⟩
end Go.Proofs.Ytjplkbeolakbjaa.P
end
section
set_option linter.unusedVariables false
set_option linter.unusedSimpArgs false
set_option maxRecDepth 100000
namespace Go.Proofs.Ytjplkbeolakbjaa.E
open Go.Ev
noncomputable def en55 : Entry := ⟨Try.f55, [(1000000, mb 24 0 [4])]⟩
theorem mk55_1000000 (vs : List V) : mask (maskOf en55.ms 1000000) vs = km 24 0 [4] vs := mask_mb _ _ _ _
end Go.Proofs.Ytjplkbeolakbjaa.E
end
section
set_option linter.unusedVariables false
set_option linter.unusedSimpArgs false
set_option maxRecDepth 100000
namespace Go.Proofs.Ytjplkbeolakbjaa.E
open Go.Ev
noncomputable def en25 : Entry := ⟨Try.f25, [(0, mb 26 0 [0, 1, 12, 13]), (1000001, mb 26 0 []), (1000002, mb 26 0 [0, 1, 12, 13]), (1000000, mb 26 0 [4])]⟩
theorem dw25_6 (lv : Nat) (env : List V) (st : Store) (o : Option (List V × Store)) : drawR en25.ms 6 lv env st o = if lv < 1000000000000000000000000000000 then (o) else none := nr rfl
theorem kl25_6 (lv : Nat) (st : Store) : killR en25.ms 6 lv st = st := nr rfl
theorem nc25_6 : ncOf en25.ms 6 = false := nr rfl
theorem mk25_0 (vs : List V) : mask (maskOf en25.ms 0) vs = km 26 0 [0, 1, 12, 13] vs := mask_mb _ _ _ _
theorem mk25_1000001 (vs : List V) : mask (maskOf en25.ms 1000001) vs = km 26 0 [] vs := mask_mb _ _ _ _
theorem mk25_1000002 (vs : List V) : mask (maskOf en25.ms 1000002) vs = km 26 0 [0, 1, 12, 13] vs := mask_mb _ _ _ _
theorem mk25_1000000 (vs : List V) : mask (maskOf en25.ms 1000000) vs = km 26 0 [4] vs := mask_mb _ _ _ _
noncomputable def lb25_0 : Code := loopN Try.f25 0
end Go.Proofs.Ytjplkbeolakbjaa.E
end
