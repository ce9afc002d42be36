/- The row of the law LevelSubtracts: for every input the call returns true. Over the evaluator's contract of the law's function. No conditions. -/
import Derived.Test.YtnojehmbiceceaaMLevelSubtracts9
import Derived.Test.YtnojehmbiceceaaRows
import Derived.WalkKit
import Derived.ProofKit
import Derived.OpenShut
import Derived.ShutString
import Derived.ChangeOld
import Derived.Below
import Derived.SizedLaws
import Derived.Carry
import Derived.WideShapes
import Derived.KernelRfl
section
set_option linter.unusedVariables false
set_option linter.unusedSimpArgs false
set_option maxRecDepth 100000
namespace Go.Proofs.Ytnojehmbiceceaa.P
open Go.Ev Go.IntKind Go.Proofs.Ytnojehmbiceceaa Go.Proofs.Ytnojehmbiceceaa.Ty Go.Proofs.Ytnojehmbiceceaa.E
def p_spyref3_Left_l0 (L : Nat) (a1_0 : Int) (a1_1 : Int) (a1_2 : Bool) : List (Int × Int × Bool × Unit) → (List (Int × Int × Bool × Unit)) → Option (List (Int × Int × Bool × Unit))
  | [], s5 => some s5
  | x3 :: tl, s5 => cb x3.2.2.1 (rq (s5.length + 1 ≤ maxRow) <| rq ((s5.length + 1) * 24 ≤ maxRow) <| p_spyref3_Left_l0 L a1_0 a1_1 a1_2 tl (s5 ++ [(0, 0, true, ())])) (cb a1_2 (rq (s5.length + 1 ≤ maxRow) <| rq ((s5.length + 1) * 24 ≤ maxRow) <| p_spyref3_Left_l0 L a1_0 a1_1 a1_2 tl (s5 ++ [(0, 0, true, ())])) (if (i64.wrap (x3.2.1 - a1_0)) < 0 then (rq (s5.length + 1 ≤ maxRow) <| rq ((s5.length + 1) * 24 ≤ maxRow) <| p_spyref3_Left_l0 L a1_0 a1_1 a1_2 tl (s5 ++ [(0, 0, true, ())])) else (rq (s5.length + 1 ≤ maxRow) <| rq ((s5.length + 1) * 24 ≤ maxRow) <| p_spyref3_Left_l0 L a1_0 a1_1 a1_2 tl (s5 ++ [((maxI 0 (i64.wrap (x3.1 - a1_1))), (i64.wrap (x3.2.1 - a1_0)), false, ())]))))
def p_spyref3_Left (L : Nat) (a0_0 : Int) (a0_1 : Int) (a0_2 : List (Int × Int × Bool × Unit)) (a1_0 : Int) (a1_1 : Int) (a1_2 : Bool) : Option (Int × Int × (List (Int × Int × Bool × Unit)) × Int) := bnd (p_spyref3_FieldFault L a0_0 a0_1 a0_2) fun r1 => cb (decide (r1 = 0)) (bnd (p_spyref3_BoundFault_Quanta L a1_0 a1_1 a1_2 (-549755813888) 549755813888) fun r2 => cb (decide (r2 = 0)) (rq (a0_2.length < L) <| bnd (p_spyref3_Left_l0 L a1_0 a1_1 a1_2 a0_2 ([])) fun o6 => some (a0_0, a0_1, o6, 0)) (some (0, 0, ([] : List (Int × Int × Bool × Unit)), r2))) (some (0, 0, ([] : List (Int × Int × Bool × Unit)), r1))
attribute [local go_sem] Ev.putR_s Ev.putR_0 Ev.thenO_s Ev.thenO_0 Ev.seqR_n Ev.seqR_e Ev.seqR_r Ev.seqR_0 Ev.blkR_e Ev.blkR_n Ev.blkR_r Ev.blkR_0 Ev.normR_s Ev.normR_0 Ev.outR_r Ev.outR_n Ev.outR_0 Ev.retS_s Ev.retS_0 Ev.pureO_s Ev.pureO_0 Ev.topR_0 Ev.topR_t Ev.topR_t0 Ev.oneL_0 Ev.oneL_s Ev.topR_d Ev.topR_nils Ev.topR_agg Ev.topR_rs Ev.evOp_move Ev.evOp_assign Ev.evOp_pick Ev.evOp_alloc Ev.evOp_box Ev.evOp_build Ev.evOp_buildSlice Ev.evOp_load Ev.evOp_store Ev.evOp_makeMap Ev.evOp_lookup Ev.evOp_mapUpdate Ev.evOp_insert Ev.evOp_nilCheck Ev.evOp_binOp Ev.evOp_unOp Ev.evOp_convert Ev.evOp_makeFunc Ev.evOp_makeSlice Ev.evOp_slice Ev.evOp_fieldAddr Ev.evOp_field Ev.evOp_indexAddr Ev.evOp_index Ev.evOp_extract Ev.evOp_call Ev.evOp_append Ev.evOp_clear Ev.evOp_len Ev.evOp_min Ev.evOp_max Ev.condR_b Ev.condR_t Ev.evOps_nil Ev.evOps_plain Ev.evOps_guard Ev.runG_eq Ev.skipG_eq Ev.condL_tt Ev.condL_ff Ev.condL_tf Ev.condL_ft Ev.condL_u Ev.condC_t Ev.condC_f Ev.evC_skip Ev.evC_ret Ev.evC_exit Ev.evC_label Ev.evC_region Ev.evC_draw Ev.evC_seq Ev.evC_cond Ev.evC_block Ev.evC_loop Ev.fin_d Ev.fin_nils Ev.fin_agg_ Ev.fin_rs Ev.finS_s Ev.mapO_fin Ev.upd_upd Ev.argv_d Ev.argv_nils Ev.argv_agg Ev.argv_rs Ev.argv_p Ev.fk_low Ev.appendTo_nils Ev.appendTo_rs Ev.consV_d Ev.consV_agg Ev.consV_p Ev.consV_rs Ev.consV_nils Ev.consV_fn Ev.consV_und Ev.consV_jk Ev.consV_grown Ev.topR_grown Ev.len_grown Ev.consV_mp Ev.sameK_i Ev.sameK_s Ev.mget_0 Ev.mget_hit Ev.mget_miss Ev.mput_0 Ev.mput_hit Ev.mput_miss Ev.apartAll Ev.apartL Ev.apartV Ev.freeAll Ev.sel Ev.keyOfV Ev.evLookup Ev.evPut Ev.hintOk Ev.keyOk Ev.consP Ev.lookV Ev.guardV Ev.dstAt Ev.evPure Ev.evStore Ev.evBin Ev.evBinO Ev.evNil Ev.isNilC Ev.evUn Ev.evConv Ev.evSlice Ev.optI Ev.foldI Ev.capsOk Ev.noTup Ev.nth Ev.setN Ev.killAt Ev.pad Ev.V.get Ev.V.put Ev.putD Ev.newBlk Ev.upd Ev.keq Ev.empty Ev.evCall Ev.V.args Ev.argP Ev.callOf Ev.evNilP Ev.isNilP Ev.look Ev.V.view.views Ev.V.view Ev.V.toD Ev.V.toD.V.toDs Ev.V.pure.pures Ev.V.pure Ev.D.flat.flats Ev.D.flat Ev.mkAgg Ev.allD Ev.aggParts Ev.setParts Ev.setElems Ev.getPath Ev.setPath Ev.subL Ev.eqD Ev.eqD.eqDs Ev.and2 Ev.strCut Ev.evalT Ev.constT Ev.evArgs Ev.mask Ev.maskOf Ev.tableOf Ev.compT Ev.resV Ev.retV Ev.mapO Ev.frzO_n Ev.frzO_e Ev.frzO_r Ev.frzO_0 Ev.mb_z Ev.mb_0 Ev.mb_s Ev.frzL_t Ev.frzL_f Ev.frzL_0 Ev.frzT_nils Ev.frzT_rs Ev.frzT_p Ev.frzK_i Ev.keyIn_i Ev.rI_nil Ev.rI_cons Ev.rI_row Ev.rI_app Ev.r_d Ev.r_nils Ev.r_agg Ev.r_rs Ev.r_gl Ev.vw_row Ev.vw_app Ev.appO_s Ev.frzT_gl Ev.allD_gl Ev.killAt_i Ev.tkOne_i Ev.hT_agg Ev.hT_vagg Ev.hT_int Ev.hT_bool Ev.hT_str Ev.hT_sl Ev.hT_ptr Ev.hT_np Ev.hT_p Ev.hT_rs Ev.hT_mp Ev.hT_nils Ev.hT_fn Ev.hT_jk Ev.hT_gl Ev.eO_sl Ev.eO_nils Ev.eO_rs Ev.eT_sl Ev.eT_rs Ev.pL_str Ev.pL_sl Ev.pL_rs Ev.pL_nils Ev.pL_min Ev.pL_max Ev.len_glB Ev.noTup_gl Ev.rowV_len Ev.rowV_nil Ev.rowV_cons Ev.rowV_append Ev.rowV_set Ev.rowV_replicate Ev.nth_row Ev.row_take Ev.row_drop Ev.toDs_row Ev.fin_row Ev.map_row Ev.map_take_ Ev.map_drop_ Ev.Bk_i Ev.GlB_0 Ev.GlB_mk Ev.gl_nil Ev.gl_cons Ev.gl_snoc Ev.gl_setN Ev.appendTo_gl Ev.consV_gl Ev.elems_gl Ev.fin_gl Ev.view_gl Ev.argv_gl Ev.topR_gl Ev.sp_z Ev.sp_0 Ev.sp_s Ev.km_z Ev.km_0 Ev.km_s Ev.beq_toList Ev.nc0 Ev.bq_t Ev.bq_f Ev.bodyN Ev.le_maxRow Int.cast_ofNat_Int IntWalk.i64_in IntWalk.u64_in IntWalk.u8_in beq_self_eq_true Bool.true_beq Bool.false_beq Bool.and_true Bool.true_and Bool.false_and Bool.and_false Bool.and_self Bool.not_true Bool.not_false Bool.not_eq_true cond_true cond_false if_true if_false and_true true_and and_self decide_true decide_false Bool.or_true Bool.true_or Bool.or_false Bool.false_or List.isEmpty List.isEmpty_nil List.size_toArray List.map List.length_map List.length_cons List.length_nil Option.map Option.bind Option.getD Option.isSome List.replicate Bool.false_eq_true implies_true false_implies forall_const Array.toList Array.isEmpty List.append List.nil_append List.cons_append List.drop_zero List.take_length List.take_succ_cons List.take_zero List.take_nil List.getElem?_map List.getElem?_cons_zero List.getElem?_cons_succ List.getElem?_nil List.append_nil eq_self Int.toNat_natCast List.length_append Nat.zero_add Nat.add_zero List.length_replicate Nat.sub_zero Option.map_some Option.map_none Int.le_refl Nat.le_refl Int.natCast_nonneg List.map_append
noncomputable def G_spyref3_Left (L : Nat) : Specs := [(97, s_spyref3_FieldFault L), (104, s_spyref3_BoundFault_Quanta L)]
noncomputable def T_spyref3_Left : Table := tableOf [(30, en30)]
theorem Go_spyref3_Left (L : Nat) (hL : L ≤ 4611686018427387904) : ∀ g s, Ev.look (G_spyref3_Left L) g = some s → SpecOk Try.prog g s := (specs_cons (ok_spyref3_FieldFault L hL) (specs_cons (ok_spyref3_BoundFault_Quanta L hL) specs_nil))
theorem To_spyref3_Left (L : Nat) : TableOk Try.prog ((G_spyref3_Left L).map (·.1)) T_spyref3_Left := (table_cons Try.func30 (by kernel_rfl) (by kernel_rfl) table_nil)
theorem lk_spyref3_Left_97 (L : Nat) : Ev.look (G_spyref3_Left L) 97 = some (s_spyref3_FieldFault L) := nr rfl
theorem lk_spyref3_Left_104 (L : Nat) : Ev.look (G_spyref3_Left L) 104 = some (s_spyref3_BoundFault_Quanta L) := nr rfl
attribute [local go_sem] Ty.tk3 Ty.ik3 Ty.ek3 Ty.zv3 Ty.by3 Ty.so3 Ty.tk4 Ty.ub4 Ty.ek4 Ty.zv4 Ty.by4 Ty.so4 Ty.tk24 Ty.ik24 Ty.ek24 Ty.zv24 Ty.by24 Ty.so24 Ty.tk27 Ty.ik27 Ty.ek27 Ty.zv27 Ty.by27 Ty.so27 Ty.tk35 Ty.ct35 Ty.ek35 Ty.zv35 Ty.by35 Ty.so35 Ty.tk43 Ty.zv43 Ty.by43 Ty.so43 Ty.tk45 Ty.ct45 Ty.zv45 Ty.by45 Ty.so45 Ty.k35_e Ty.k43_e Ty.k45_e E.mk30_0 E.mk30_1000001 E.mk30_1000002 E.mk30_1000000 E.fz30_0 E.lb30_0 lk_spyref3_Left_97 lk_spyref3_Left_104 s_spyref3_FieldFault_run s_spyref3_BoundFault_Quanta_run loopN loops Try.f30
def Q0_p_spyref3_Left_l0 (a0_2 : List (Int × Int × Bool × Unit)) (a1_0 : Int) (a1_1 : Int) (a1_2 : Bool) (a0_0 : Int) (a0_1 : Int) (u : List (Int × Int × Bool × Unit)) (z : Out) : Prop := ∃ env st, z = some (.exit 0, env, st) ∧ env = sp 68 0 [(4, .p (0, 4) (st (0, 4)).ver 0 []), (8, .p (0, 8) (st (0, 8)).ver 0 [])] ∧ Bk (st (0, 4)) 45 [.agg 45 [.d (.int .i64 0), .d (.int .i64 0), .nils 35]] ∧ Bk (st (0, 8)) 45 [.agg 45 [.d (.int .i64 a0_0), .d (.int .i64 a0_1), gl 35 (0, 64) (st (0, 64)).ver (rowV k35.e u)]] ∧ GlB (st (0, 64)) 35 (rowV k35.e u)
abbrev Q_p_spyref3_Left_l0 (a0_2 : List (Int × Int × Bool × Unit)) (a1_0 : Int) (a1_1 : Int) (a1_2 : Bool) (a0_0 : Int) (a0_1 : Int) (o : List (Int × Int × Bool × Unit)) (z : Out) : Prop := Q0_p_spyref3_Left_l0 a0_2 a1_0 a1_1 a1_2 a0_0 a0_1 o z
theorem l_p_spyref3_Left_l0 (L : Nat) (hL : L ≤ 4611686018427387904) (a0_2 : List (Int × Int × Bool × Unit)) (a1_0 : Int) (a1_1 : Int) (a1_2 : Bool) (a0_0 : Int) (a0_1 : Int) : ∀ (tl : List (Int × Int × Bool × Unit)) (n : Nat) (s4 : Int) (s5 : List (Int × Int × Bool × Unit)) (env : List V) (st : Store) (o : List (Int × Int × Bool × Unit)), tl.length < n → Rng a0_2 s4 tl → mask (maskOf en30.ms 0) env = sp 68 0 [(3, .p (0, 3) (st (0, 3)).ver 0 []), (4, .p (0, 4) (st (0, 4)).ver 0 []), (8, .p (0, 8) (st (0, 8)).ver 0 []), (30, .d (.sl 35 (a0_2.map k35.e))), (31, .d (.int .i64 (a0_2.length : Int))), (32, .d (.int .i64 s4))] → Bk (st (0, 3)) 35 [.d (.agg 35 [.int .i64 a1_0, .int .i64 a1_1, .bool a1_2])] → Bk (st (0, 4)) 45 [.agg 45 [.d (.int .i64 0), .d (.int .i64 0), .nils 35]] → Bk (st (0, 8)) 45 [.agg 45 [.d (.int .i64 a0_0), .d (.int .i64 a0_1), gl 35 (0, 64) (st (0, 64)).ver (rowV k35.e s5)]] → GlB (st (0, 64)) 35 (rowV k35.e s5) → p_spyref3_Left_l0 L a1_0 a1_1 a1_2 tl s5 = some o →
    Q_p_spyref3_Left_l0 a0_2 a1_0 a1_1 a1_2 a0_0 a0_1 o (iter (evC Try.prog (G_spyref3_Left L) (evF Try.prog (G_spyref3_Left L) T_spyref3_Left L 0) L en30.ms 0 0 lb30_0) (maskOf en30.ms 0) n env st) := by
  intro tl
  induction tl with
  | nil =>
    intro n s4 s5 env st o hn hR he hb0 hb1 hb2 hb3 h
    obtain ⟨n, rfl⟩ : ∃ m, n = m + 1 := ⟨n - 1, by omega⟩
    obtain ⟨be0, bv0, bl0⟩ := hb0
    obtain ⟨be1, bv1, bl1⟩ := hb1
    obtain ⟨be2, bv2, bl2⟩ := hb2
    have g0 := rng_nil hR
    rw [iter, he]
    clear he
    generalize hK : iter _ _ n = K
    rw [p_spyref3_Left_l0] at h
    revert h
    rintro ⟨⟩
    simp only [go_sem, Nat.reduceAdd, Nat.reduceSub, Nat.reduceMul, Nat.reduceEqDiff, Nat.reduceBEq, Nat.reduceLT, Nat.reduceLeDiff, Nat.reducePow, Int.reduceToNat, Int.reduceLT, Int.reduceLE, Int.reduceGT, Int.reduceGE, Int.reduceEq, Int.reduceNeg, Int.reduceAdd, Int.reduceSub, Int.reduceMul, ↓reduceIte, reduceCtorEq, *]
    refine (⟨_, _, rfl, ?_, ?_, ?_, ?_⟩ : Q0_p_spyref3_Left_l0 a0_2 a1_0 a1_1 a1_2 a0_0 a0_1 _ _)
    all_goals simp only [go_sem, Nat.reduceAdd, Nat.reduceSub, Nat.reduceMul, Nat.reduceEqDiff, Nat.reduceBEq, Nat.reduceLT, Nat.reduceLeDiff, Nat.reducePow, Int.reduceToNat, Int.reduceLT, Int.reduceLE, Int.reduceGT, Int.reduceGE, Int.reduceEq, Int.reduceNeg, Int.reduceAdd, Int.reduceSub, Int.reduceMul, ↓reduceIte, reduceCtorEq, *]
  | cons x3 tl ih =>
    intro n s4 s5 env st o hn hR he hb0 hb1 hb2 hb3 h
    obtain ⟨n, rfl⟩ : ∃ m, n = m + 1 := ⟨n - 1, by omega⟩
    obtain ⟨be0, bv0, bl0⟩ := hb0
    obtain ⟨be1, bv1, bl1⟩ := hb1
    obtain ⟨be2, bv2, bl2⟩ := hb2
    replace ih : Hold _ := ih
    replace hR := rng_s hR
    obtain ⟨g0, g1, g2, g3, hR⟩ := hR
    rw [iter, he]
    clear he
    generalize hK : iter _ _ n = K
    rw [p_spyref3_Left_l0] at h
    revert h
    refine cb_i (fun c1 => ?_) (fun c1 => ?_)
    · refine rq_i fun c2 => ?_
      refine rq_i fun c3 => ?_
      intro h
      simp only [go_sem, Nat.reduceAdd, Nat.reduceSub, Nat.reduceMul, Nat.reduceEqDiff, Nat.reduceBEq, Nat.reduceLT, Nat.reduceLeDiff, Nat.reducePow, Int.reduceToNat, Int.reduceLT, Int.reduceLE, Int.reduceGT, Int.reduceGE, Int.reduceEq, Int.reduceNeg, Int.reduceAdd, Int.reduceSub, Int.reduceMul, ↓reduceIte, reduceCtorEq, *]
      subst hK
      refine ih n (s4 + 1) (s5 ++ [(0, 0, true, ())]) _ _ _ (by simp only [List.length_cons] at hn; omega) hR ?_ ?_ ?_ ?_ ?_ h
      all_goals simp only [go_sem, Nat.reduceAdd, Nat.reduceSub, Nat.reduceMul, Nat.reduceEqDiff, Nat.reduceBEq, Nat.reduceLT, Nat.reduceLeDiff, Nat.reducePow, Int.reduceToNat, Int.reduceLT, Int.reduceLE, Int.reduceGT, Int.reduceGE, Int.reduceEq, Int.reduceNeg, Int.reduceAdd, Int.reduceSub, Int.reduceMul, ↓reduceIte, reduceCtorEq, *]
    · refine cb_i (fun c4 => ?_) (fun c4 => ?_)
      · refine rq_i fun c5 => ?_
        refine rq_i fun c6 => ?_
        intro h
        simp only [go_sem, Nat.reduceAdd, Nat.reduceSub, Nat.reduceMul, Nat.reduceEqDiff, Nat.reduceBEq, Nat.reduceLT, Nat.reduceLeDiff, Nat.reducePow, Int.reduceToNat, Int.reduceLT, Int.reduceLE, Int.reduceGT, Int.reduceGE, Int.reduceEq, Int.reduceNeg, Int.reduceAdd, Int.reduceSub, Int.reduceMul, ↓reduceIte, reduceCtorEq, *]
        subst hK
        refine ih n (s4 + 1) (s5 ++ [(0, 0, true, ())]) _ _ _ (by simp only [List.length_cons] at hn; omega) hR ?_ ?_ ?_ ?_ ?_ h
        all_goals simp only [go_sem, Nat.reduceAdd, Nat.reduceSub, Nat.reduceMul, Nat.reduceEqDiff, Nat.reduceBEq, Nat.reduceLT, Nat.reduceLeDiff, Nat.reducePow, Int.reduceToNat, Int.reduceLT, Int.reduceLE, Int.reduceGT, Int.reduceGE, Int.reduceEq, Int.reduceNeg, Int.reduceAdd, Int.reduceSub, Int.reduceMul, ↓reduceIte, reduceCtorEq, *]
      · refine ite_i (fun c7 => ?_) (fun c7 => ?_)
        · refine rq_i fun c8 => ?_
          refine rq_i fun c9 => ?_
          intro h
          simp only [go_sem, Nat.reduceAdd, Nat.reduceSub, Nat.reduceMul, Nat.reduceEqDiff, Nat.reduceBEq, Nat.reduceLT, Nat.reduceLeDiff, Nat.reducePow, Int.reduceToNat, Int.reduceLT, Int.reduceLE, Int.reduceGT, Int.reduceGE, Int.reduceEq, Int.reduceNeg, Int.reduceAdd, Int.reduceSub, Int.reduceMul, ↓reduceIte, reduceCtorEq, *]
          subst hK
          refine ih n (s4 + 1) (s5 ++ [(0, 0, true, ())]) _ _ _ (by simp only [List.length_cons] at hn; omega) hR ?_ ?_ ?_ ?_ ?_ h
          all_goals simp only [go_sem, Nat.reduceAdd, Nat.reduceSub, Nat.reduceMul, Nat.reduceEqDiff, Nat.reduceBEq, Nat.reduceLT, Nat.reduceLeDiff, Nat.reducePow, Int.reduceToNat, Int.reduceLT, Int.reduceLE, Int.reduceGT, Int.reduceGE, Int.reduceEq, Int.reduceNeg, Int.reduceAdd, Int.reduceSub, Int.reduceMul, ↓reduceIte, reduceCtorEq, *]
        · refine rq_i fun c10 => ?_
          refine rq_i fun c11 => ?_
          intro h
          simp only [go_sem, Nat.reduceAdd, Nat.reduceSub, Nat.reduceMul, Nat.reduceEqDiff, Nat.reduceBEq, Nat.reduceLT, Nat.reduceLeDiff, Nat.reducePow, Int.reduceToNat, Int.reduceLT, Int.reduceLE, Int.reduceGT, Int.reduceGE, Int.reduceEq, Int.reduceNeg, Int.reduceAdd, Int.reduceSub, Int.reduceMul, ↓reduceIte, reduceCtorEq, *]
          subst hK
          refine ih n (s4 + 1) (s5 ++ [((maxI 0 (i64.wrap (x3.1 - a1_1))), (i64.wrap (x3.2.1 - a1_0)), false, ())]) _ _ _ (by simp only [List.length_cons] at hn; omega) hR ?_ ?_ ?_ ?_ ?_ h
          all_goals simp only [go_sem, Nat.reduceAdd, Nat.reduceSub, Nat.reduceMul, Nat.reduceEqDiff, Nat.reduceBEq, Nat.reduceLT, Nat.reduceLeDiff, Nat.reducePow, Int.reduceToNat, Int.reduceLT, Int.reduceLE, Int.reduceGT, Int.reduceGE, Int.reduceEq, Int.reduceNeg, Int.reduceAdd, Int.reduceSub, Int.reduceMul, ↓reduceIte, reduceCtorEq, *]
theorem e_spyref3_Left (L : Nat) (hL : L ≤ 4611686018427387904) (a0_0 : Int) (a0_1 : Int) (a0_2 : List (Int × Int × Bool × Unit)) (a1_0 : Int) (a1_1 : Int) (a1_2 : Bool) (res : Int × Int × (List (Int × Int × Bool × Unit)) × Int) (h : p_spyref3_Left L a0_0 a0_1 a0_2 a1_0 a1_1 a1_2 = some res) : evTop Try.prog (G_spyref3_Left L) T_spyref3_Left L 1 30 [.agg 45 [.int .i64 a0_0, .int .i64 a0_1, .sl 35 (a0_2.map k35.e)], .agg 35 [.int .i64 a1_0, .int .i64 a1_1, .bool a1_2]] = some [.agg 45 [.int .i64 res.1, .int .i64 res.2.1, .sl 35 (res.2.2.1.map k35.e)], .int .i64 res.2.2.2] := by
  revert h
  unfold p_spyref3_Left evTop
  simp only [List.map]
  rw [evF_s (fn := Try.f30) (msk := en30.ms) (hT := by rfl) (hb := by rfl)]
  refine bnd_i fun r1 c1 => ?_
  refine cb_i (fun c2 => ?_) (fun c2 => ?_)
  · refine bnd_i fun r2 c3 => ?_
    refine cb_i (fun c4 => ?_) (fun c4 => ?_)
    · refine rq_i fun c5 => ?_
      refine bnd_i fun o6 ho6 => ?_
      intro h
      simp only [go_sem, Nat.reduceAdd, Nat.reduceSub, Nat.reduceMul, Nat.reduceEqDiff, Nat.reduceBEq, Nat.reduceLT, Nat.reduceLeDiff, Nat.reducePow, Int.reduceToNat, Int.reduceLT, Int.reduceLE, Int.reduceGT, Int.reduceGE, Int.reduceEq, Int.reduceNeg, Int.reduceAdd, Int.reduceSub, Int.reduceMul, ↓reduceIte, reduceCtorEq, *]
      generalize hz8 : iter _ _ _ _ _ = z7
      have hq9 : Q_p_spyref3_Left_l0 a0_2 a1_0 a1_1 a1_2 a0_0 a0_1 o6 z7 := by
        rw [← hz8]
        refine l_p_spyref3_Left_l0 L hL a0_2 a1_0 a1_1 a1_2 a0_0 a0_1 a0_2 L 0 ([]) _ _ _ c5 (rng_0 c5 hL) ?_ ?_ ?_ ?_ ?_ ho6
        all_goals simp only [go_sem, Nat.reduceAdd, Nat.reduceSub, Nat.reduceMul, Nat.reduceEqDiff, Nat.reduceBEq, Nat.reduceLT, Nat.reduceLeDiff, Nat.reducePow, Int.reduceToNat, Int.reduceLT, Int.reduceLE, Int.reduceGT, Int.reduceGE, Int.reduceEq, Int.reduceNeg, Int.reduceAdd, Int.reduceSub, Int.reduceMul, ↓reduceIte, reduceCtorEq, *]
      clear hz8 ho6
      obtain ⟨_, st7, rfl, rfl, ⟨k101, k102, k103⟩, ⟨k111, k112, k113⟩, k12⟩ := hq9
      revert h
      rintro ⟨⟩
      simp only [go_sem, Nat.reduceAdd, Nat.reduceSub, Nat.reduceMul, Nat.reduceEqDiff, Nat.reduceBEq, Nat.reduceLT, Nat.reduceLeDiff, Nat.reducePow, Int.reduceToNat, Int.reduceLT, Int.reduceLE, Int.reduceGT, Int.reduceGE, Int.reduceEq, Int.reduceNeg, Int.reduceAdd, Int.reduceSub, Int.reduceMul, ↓reduceIte, reduceCtorEq, *]
    · rintro ⟨⟩
      simp only [go_sem, Nat.reduceAdd, Nat.reduceSub, Nat.reduceMul, Nat.reduceEqDiff, Nat.reduceBEq, Nat.reduceLT, Nat.reduceLeDiff, Nat.reducePow, Int.reduceToNat, Int.reduceLT, Int.reduceLE, Int.reduceGT, Int.reduceGE, Int.reduceEq, Int.reduceNeg, Int.reduceAdd, Int.reduceSub, Int.reduceMul, ↓reduceIte, reduceCtorEq, *]
  · rintro ⟨⟩
    simp only [go_sem, Nat.reduceAdd, Nat.reduceSub, Nat.reduceMul, Nat.reduceEqDiff, Nat.reduceBEq, Nat.reduceLT, Nat.reduceLeDiff, Nat.reducePow, Int.reduceToNat, Int.reduceLT, Int.reduceLE, Int.reduceGT, Int.reduceGE, Int.reduceEq, Int.reduceNeg, Int.reduceAdd, Int.reduceSub, Int.reduceMul, ↓reduceIte, reduceCtorEq, *]
noncomputable def s_spyref3_Left (L : Nat) : Ev.Spec := specP (cCons k45 (cCons k35 cNil)) (fun x => p_spyref3_Left L x.1.1 x.1.2.1 x.1.2.2.1 x.2.1.1 x.2.1.2.1 x.2.1.2.2.1) (fun r => [.agg 45 [.int .i64 r.1, .int .i64 r.2.1, .sl 35 (r.2.2.1.map k35.e)], .int .i64 r.2.2.2])
theorem s_spyref3_Left_run (L : Nat) (a0_0 : Int) (a0_1 : Int) (a0_2 : List (Int × Int × Bool × Unit)) (a1_0 : Int) (a1_1 : Int) (a1_2 : Bool) : (s_spyref3_Left L).run [.agg 45 [.int .i64 a0_0, .int .i64 a0_1, .sl 35 (a0_2.map k35.e)], .agg 35 [.int .i64 a1_0, .int .i64 a1_1, .bool a1_2]] = (p_spyref3_Left L a0_0 a0_1 a0_2 a1_0 a1_1 a1_2).map fun r => [.agg 45 [.int .i64 r.1, .int .i64 r.2.1, .sl 35 (r.2.2.1.map k35.e)], .int .i64 r.2.2.2] := specP_run (cCons k45 (cCons k35 cNil)) (fun x => p_spyref3_Left L x.1.1 x.1.2.1 x.1.2.2.1 x.2.1.1 x.2.1.2.1 x.2.1.2.2.1) (fun r => [.agg 45 [.int .i64 r.1, .int .i64 r.2.1, .sl 35 (r.2.2.1.map k35.e)], .int .i64 r.2.2.2]) ((a0_0, a0_1, a0_2, ()), (a1_0, a1_1, a1_2, ()), ())
theorem ok_spyref3_Left (L : Nat) (hL : L ≤ 4611686018427387904) : SpecOk Try.prog 30 (s_spyref3_Left L) := specP_ok mixed (Go_spyref3_Left L hL) (To_spyref3_Left L) fun x r h => ⟨L, 1, e_spyref3_Left L hL x.1.1 x.1.2.1 x.1.2.2.1 x.2.1.1 x.2.1.2.1 x.2.1.2.2.1 r h⟩
end Go.Proofs.Ytnojehmbiceceaa.P
end
section
set_option linter.unusedVariables false
set_option linter.unusedSimpArgs false
set_option maxRecDepth 100000
namespace Go.Proofs.Ytnojehmbiceceaa.P
open Go.Ev Go.IntKind Go.Proofs.Ytnojehmbiceceaa Go.Proofs.Ytnojehmbiceceaa.Ty Go.Proofs.Ytnojehmbiceceaa.E
def p_spylaw3_LevelSubtracts (L : Nat) (a0_0 : Int) (a0_1 : Int) (a0_2 : List (Int × Int × Bool × Unit)) (a1_0 : Int) (a1_1 : Int) (a1_2 : Bool) : Option Bool := bnd (p_level_Subtract L a0_0 a0_1 a0_2 a1_0 a1_1 a1_2) fun r1 => bnd (p_spyref3_Left L a0_0 a0_1 a0_2 a1_0 a1_1 a1_2) fun r2 => bnd (p_spylaw3_levels L) fun r3 => cb r3 (cb (decide (r1.2.2.2 = r2.2.2.2)) (bnd (p_spyref3_SameCells L r1.1 r1.2.1 r1.2.2.1 r2.1 r2.2.1 r2.2.2.1) fun r4 => some r4) (some false)) (some false)
attribute [local go_sem] Ev.putR_s Ev.putR_0 Ev.thenO_s Ev.thenO_0 Ev.seqR_n Ev.seqR_e Ev.seqR_r Ev.seqR_0 Ev.blkR_e Ev.blkR_n Ev.blkR_r Ev.blkR_0 Ev.normR_s Ev.normR_0 Ev.outR_r Ev.outR_n Ev.outR_0 Ev.retS_s Ev.retS_0 Ev.pureO_s Ev.pureO_0 Ev.topR_0 Ev.topR_t Ev.topR_t0 Ev.oneL_0 Ev.oneL_s Ev.topR_d Ev.topR_nils Ev.topR_agg Ev.topR_rs Ev.evOp_move Ev.evOp_assign Ev.evOp_pick Ev.evOp_alloc Ev.evOp_box Ev.evOp_build Ev.evOp_buildSlice Ev.evOp_load Ev.evOp_store Ev.evOp_makeMap Ev.evOp_lookup Ev.evOp_mapUpdate Ev.evOp_insert Ev.evOp_nilCheck Ev.evOp_binOp Ev.evOp_unOp Ev.evOp_convert Ev.evOp_makeFunc Ev.evOp_makeSlice Ev.evOp_slice Ev.evOp_fieldAddr Ev.evOp_field Ev.evOp_indexAddr Ev.evOp_index Ev.evOp_extract Ev.evOp_call Ev.evOp_append Ev.evOp_clear Ev.evOp_len Ev.evOp_min Ev.evOp_max Ev.condR_b Ev.condR_t Ev.evOps_nil Ev.evOps_plain Ev.evOps_guard Ev.runG_eq Ev.skipG_eq Ev.condL_tt Ev.condL_ff Ev.condL_tf Ev.condL_ft Ev.condL_u Ev.condC_t Ev.condC_f Ev.evC_skip Ev.evC_ret Ev.evC_exit Ev.evC_label Ev.evC_region Ev.evC_draw Ev.evC_seq Ev.evC_cond Ev.evC_block Ev.evC_loop Ev.fin_d Ev.fin_nils Ev.fin_agg_ Ev.fin_rs Ev.finS_s Ev.mapO_fin Ev.upd_upd Ev.argv_d Ev.argv_nils Ev.argv_agg Ev.argv_rs Ev.argv_p Ev.fk_low Ev.appendTo_nils Ev.appendTo_rs Ev.consV_d Ev.consV_agg Ev.consV_p Ev.consV_rs Ev.consV_nils Ev.consV_fn Ev.consV_und Ev.consV_jk Ev.consV_grown Ev.topR_grown Ev.len_grown Ev.consV_mp Ev.sameK_i Ev.sameK_s Ev.mget_0 Ev.mget_hit Ev.mget_miss Ev.mput_0 Ev.mput_hit Ev.mput_miss Ev.apartAll Ev.apartL Ev.apartV Ev.freeAll Ev.sel Ev.keyOfV Ev.evLookup Ev.evPut Ev.hintOk Ev.keyOk Ev.consP Ev.lookV Ev.guardV Ev.dstAt Ev.evPure Ev.evStore Ev.evBin Ev.evBinO Ev.evNil Ev.isNilC Ev.evUn Ev.evConv Ev.evSlice Ev.optI Ev.foldI Ev.capsOk Ev.noTup Ev.nth Ev.setN Ev.killAt Ev.pad Ev.V.get Ev.V.put Ev.putD Ev.newBlk Ev.upd Ev.keq Ev.empty Ev.evCall Ev.V.args Ev.argP Ev.callOf Ev.evNilP Ev.isNilP Ev.look Ev.V.view.views Ev.V.view Ev.V.toD Ev.V.toD.V.toDs Ev.V.pure.pures Ev.V.pure Ev.D.flat.flats Ev.D.flat Ev.mkAgg Ev.allD Ev.aggParts Ev.setParts Ev.setElems Ev.getPath Ev.setPath Ev.subL Ev.eqD Ev.eqD.eqDs Ev.and2 Ev.strCut Ev.evalT Ev.constT Ev.evArgs Ev.mask Ev.maskOf Ev.tableOf Ev.compT Ev.resV Ev.retV Ev.mapO Ev.frzO_n Ev.frzO_e Ev.frzO_r Ev.frzO_0 Ev.mb_z Ev.mb_0 Ev.mb_s Ev.frzL_t Ev.frzL_f Ev.frzL_0 Ev.frzT_nils Ev.frzT_rs Ev.frzT_p Ev.frzK_i Ev.keyIn_i Ev.rI_nil Ev.rI_cons Ev.rI_row Ev.rI_app Ev.r_d Ev.r_nils Ev.r_agg Ev.r_rs Ev.r_gl Ev.vw_row Ev.vw_app Ev.appO_s Ev.frzT_gl Ev.allD_gl Ev.killAt_i Ev.tkOne_i Ev.hT_agg Ev.hT_vagg Ev.hT_int Ev.hT_bool Ev.hT_str Ev.hT_sl Ev.hT_ptr Ev.hT_np Ev.hT_p Ev.hT_rs Ev.hT_mp Ev.hT_nils Ev.hT_fn Ev.hT_jk Ev.hT_gl Ev.eO_sl Ev.eO_nils Ev.eO_rs Ev.eT_sl Ev.eT_rs Ev.pL_str Ev.pL_sl Ev.pL_rs Ev.pL_nils Ev.pL_min Ev.pL_max Ev.len_glB Ev.noTup_gl Ev.rowV_len Ev.rowV_nil Ev.rowV_cons Ev.rowV_append Ev.rowV_set Ev.rowV_replicate Ev.nth_row Ev.row_take Ev.row_drop Ev.toDs_row Ev.fin_row Ev.map_row Ev.map_take_ Ev.map_drop_ Ev.Bk_i Ev.GlB_0 Ev.GlB_mk Ev.gl_nil Ev.gl_cons Ev.gl_snoc Ev.gl_setN Ev.appendTo_gl Ev.consV_gl Ev.elems_gl Ev.fin_gl Ev.view_gl Ev.argv_gl Ev.topR_gl Ev.sp_z Ev.sp_0 Ev.sp_s Ev.km_z Ev.km_0 Ev.km_s Ev.beq_toList Ev.nc0 Ev.bq_t Ev.bq_f Ev.bodyN Ev.le_maxRow Int.cast_ofNat_Int IntWalk.i64_in IntWalk.u64_in IntWalk.u8_in beq_self_eq_true Bool.true_beq Bool.false_beq Bool.and_true Bool.true_and Bool.false_and Bool.and_false Bool.and_self Bool.not_true Bool.not_false Bool.not_eq_true cond_true cond_false if_true if_false and_true true_and and_self decide_true decide_false Bool.or_true Bool.true_or Bool.or_false Bool.false_or List.isEmpty List.isEmpty_nil List.size_toArray List.map List.length_map List.length_cons List.length_nil Option.map Option.bind Option.getD Option.isSome List.replicate Bool.false_eq_true implies_true false_implies forall_const Array.toList Array.isEmpty List.append List.nil_append List.cons_append List.drop_zero List.take_length List.take_succ_cons List.take_zero List.take_nil List.getElem?_map List.getElem?_cons_zero List.getElem?_cons_succ List.getElem?_nil List.append_nil eq_self Int.toNat_natCast List.length_append Nat.zero_add Nat.add_zero List.length_replicate Nat.sub_zero Option.map_some Option.map_none Int.le_refl Nat.le_refl Int.natCast_nonneg List.map_append
noncomputable def G_spylaw3_LevelSubtracts (L : Nat) : Specs := [(24, s_spylaw3_levels L), (29, s_level_Subtract L), (30, s_spyref3_Left L), (31, s_spyref3_SameCells L)]
noncomputable def T_spylaw3_LevelSubtracts : Table := tableOf [(7, en7)]
theorem Go_spylaw3_LevelSubtracts (L : Nat) (hL : L ≤ 4611686018427387904) : ∀ g s, Ev.look (G_spylaw3_LevelSubtracts L) g = some s → SpecOk Try.prog g s := (specs_cons (ok_spylaw3_levels L hL) (specs_cons (ok_level_Subtract L hL) (specs_cons (ok_spyref3_Left L hL) (specs_cons (ok_spyref3_SameCells L hL) specs_nil))))
theorem To_spylaw3_LevelSubtracts (L : Nat) : TableOk Try.prog ((G_spylaw3_LevelSubtracts L).map (·.1)) T_spylaw3_LevelSubtracts := (table_cons Try.func7 (by kernel_rfl) (by kernel_rfl) table_nil)
theorem lk_spylaw3_LevelSubtracts_24 (L : Nat) : Ev.look (G_spylaw3_LevelSubtracts L) 24 = some (s_spylaw3_levels L) := nr rfl
theorem lk_spylaw3_LevelSubtracts_29 (L : Nat) : Ev.look (G_spylaw3_LevelSubtracts L) 29 = some (s_level_Subtract L) := nr rfl
theorem lk_spylaw3_LevelSubtracts_30 (L : Nat) : Ev.look (G_spylaw3_LevelSubtracts L) 30 = some (s_spyref3_Left L) := nr rfl
theorem lk_spylaw3_LevelSubtracts_31 (L : Nat) : Ev.look (G_spylaw3_LevelSubtracts L) 31 = some (s_spyref3_SameCells L) := nr rfl
attribute [local go_sem] Ty.tk3 Ty.ik3 Ty.ek3 Ty.zv3 Ty.by3 Ty.so3 Ty.tk4 Ty.ub4 Ty.ek4 Ty.zv4 Ty.by4 Ty.so4 Ty.tk24 Ty.ik24 Ty.ek24 Ty.zv24 Ty.by24 Ty.so24 Ty.tk27 Ty.ik27 Ty.ek27 Ty.zv27 Ty.by27 Ty.so27 Ty.tk35 Ty.ct35 Ty.ek35 Ty.zv35 Ty.by35 Ty.so35 Ty.tk43 Ty.zv43 Ty.by43 Ty.so43 Ty.tk45 Ty.ct45 Ty.zv45 Ty.by45 Ty.so45 Ty.k35_e Ty.k43_e Ty.k45_e E.mk7_1000000 lk_spylaw3_LevelSubtracts_24 lk_spylaw3_LevelSubtracts_29 lk_spylaw3_LevelSubtracts_30 lk_spylaw3_LevelSubtracts_31 s_spylaw3_levels_run s_level_Subtract_run s_spyref3_Left_run s_spyref3_SameCells_run loopN loops Try.f7
theorem e_spylaw3_LevelSubtracts (L : Nat) (hL : L ≤ 4611686018427387904) (a0_0 : Int) (a0_1 : Int) (a0_2 : List (Int × Int × Bool × Unit)) (a1_0 : Int) (a1_1 : Int) (a1_2 : Bool) (res : Bool) (h : p_spylaw3_LevelSubtracts L a0_0 a0_1 a0_2 a1_0 a1_1 a1_2 = some res) : evTop Try.prog (G_spylaw3_LevelSubtracts L) T_spylaw3_LevelSubtracts L 1 7 [.agg 45 [.int .i64 a0_0, .int .i64 a0_1, .sl 35 (a0_2.map k35.e)], .agg 35 [.int .i64 a1_0, .int .i64 a1_1, .bool a1_2]] = some [.bool res] := by
  revert h
  unfold p_spylaw3_LevelSubtracts evTop
  simp only [List.map]
  rw [evF_s (fn := Try.f7) (msk := en7.ms) (hT := by rfl) (hb := by rfl)]
  refine bnd_i fun r1 c1 => ?_
  refine bnd_i fun r2 c2 => ?_
  refine bnd_i fun r3 c3 => ?_
  refine cb_i (fun c4 => ?_) (fun c4 => ?_)
  · refine cb_i (fun c5 => ?_) (fun c5 => ?_)
    · refine bnd_i fun r4 c6 => ?_
      rintro ⟨⟩
      simp only [go_sem, Nat.reduceAdd, Nat.reduceSub, Nat.reduceMul, Nat.reduceEqDiff, Nat.reduceBEq, Nat.reduceLT, Nat.reduceLeDiff, Nat.reducePow, Int.reduceToNat, Int.reduceLT, Int.reduceLE, Int.reduceGT, Int.reduceGE, Int.reduceEq, Int.reduceNeg, Int.reduceAdd, Int.reduceSub, Int.reduceMul, ↓reduceIte, reduceCtorEq, *]
    · rintro ⟨⟩
      simp only [go_sem, Nat.reduceAdd, Nat.reduceSub, Nat.reduceMul, Nat.reduceEqDiff, Nat.reduceBEq, Nat.reduceLT, Nat.reduceLeDiff, Nat.reducePow, Int.reduceToNat, Int.reduceLT, Int.reduceLE, Int.reduceGT, Int.reduceGE, Int.reduceEq, Int.reduceNeg, Int.reduceAdd, Int.reduceSub, Int.reduceMul, ↓reduceIte, reduceCtorEq, *]
  · rintro ⟨⟩
    simp only [go_sem, Nat.reduceAdd, Nat.reduceSub, Nat.reduceMul, Nat.reduceEqDiff, Nat.reduceBEq, Nat.reduceLT, Nat.reduceLeDiff, Nat.reducePow, Int.reduceToNat, Int.reduceLT, Int.reduceLE, Int.reduceGT, Int.reduceGE, Int.reduceEq, Int.reduceNeg, Int.reduceAdd, Int.reduceSub, Int.reduceMul, ↓reduceIte, reduceCtorEq, *]
noncomputable def s_spylaw3_LevelSubtracts (L : Nat) : Ev.Spec := specP (cCons k45 (cCons k35 cNil)) (fun x => p_spylaw3_LevelSubtracts L x.1.1 x.1.2.1 x.1.2.2.1 x.2.1.1 x.2.1.2.1 x.2.1.2.2.1) (fun r => [.bool r])
theorem s_spylaw3_LevelSubtracts_run (L : Nat) (a0_0 : Int) (a0_1 : Int) (a0_2 : List (Int × Int × Bool × Unit)) (a1_0 : Int) (a1_1 : Int) (a1_2 : Bool) : (s_spylaw3_LevelSubtracts L).run [.agg 45 [.int .i64 a0_0, .int .i64 a0_1, .sl 35 (a0_2.map k35.e)], .agg 35 [.int .i64 a1_0, .int .i64 a1_1, .bool a1_2]] = (p_spylaw3_LevelSubtracts L a0_0 a0_1 a0_2 a1_0 a1_1 a1_2).map fun r => [.bool r] := specP_run (cCons k45 (cCons k35 cNil)) (fun x => p_spylaw3_LevelSubtracts L x.1.1 x.1.2.1 x.1.2.2.1 x.2.1.1 x.2.1.2.1 x.2.1.2.2.1) (fun r => [.bool r]) ((a0_0, a0_1, a0_2, ()), (a1_0, a1_1, a1_2, ()), ())
theorem ok_spylaw3_LevelSubtracts (L : Nat) (hL : L ≤ 4611686018427387904) : SpecOk Try.prog 7 (s_spylaw3_LevelSubtracts L) := specP_ok mixed (Go_spylaw3_LevelSubtracts L hL) (To_spylaw3_LevelSubtracts L) fun x r h => ⟨L, 1, e_spylaw3_LevelSubtracts L hL x.1.1 x.1.2.1 x.1.2.2.1 x.2.1.1 x.2.1.2.1 x.2.1.2.2.1 r h⟩
end Go.Proofs.Ytnojehmbiceceaa.P
end
section
set_option linter.unusedVariables false
set_option linter.unusedSimpArgs false
namespace Go.Proofs.Ytnojehmbiceceaa.PlLevelSubtracts
open Go Go.Ev Go.IntKind Go.Pl Go.Proofs.Ytnojehmbiceceaa.P Go.Proofs.Ytnojehmbiceceaa.PlBndAQuanta Go.Proofs.Ytnojehmbiceceaa.PlField
theorem chk_0 {a b : Int} {u : Bool} (h : chk a b u = 0) : (u = true → a = 0 ∧ b = 0) ∧ -1152921504606846976 ≤ a ∧ a ≤ b ∧ b ≤ 1152921504606846976 := by
  unfold chk at h
  grind
theorem neg_eq (L : Nat) (a b : Int) (u : Bool) (h : chk a b u = 0) : p_bound_Neg_Quanta L a b u = some (-b, -a, u) := by
  have := chk_0 h
  unfold p_bound_Neg_Quanta
  rw [norm_eq]
  unfold norm
  rw [if_pos h, bnd_s, w64 (by simp only; omega), w64 (by simp only; omega)]
  simp
theorem chk_neg {a b : Int} {u : Bool} (h : chk a b u = 0) : chk (-b) (-a) u = 0 := by
  have := chk_0 h
  unfold chk
  cases u <;> grind
theorem bad_chk {a b : Int} {u : Bool} (h : chk a b u = 0) : bad (a, b, u, ()) = u := by
  have := chk_0 h
  unfold bad
  cases u <;> simp <;> omega
theorem or_eq (L : Nat) (h2 : 2 < L) (x : Int) : p_cmp_Or_Errno L [x, 4] = some (if x = 0 then 4 else x) := by
  unfold p_cmp_Or_Errno
  rw [rq_t (by simpa using h2), p_cmp_Or_Errno_l0, p_cmp_Or_Errno_l0, p_cmp_Or_Errno_l0, cb_d, cb_d]
  by_cases h : x = 0
  · rw [if_pos h, if_neg (by decide), if_pos h]; rfl
  · rw [if_neg h, if_neg h]; rfl
def cell (x : Bd) (lo hi : Int) (u : Bool) : Int × Int × Bool := if x.2.2.1 = true ∨ u = true ∨ x.2.1 - lo < 0 then (0, 0, true) else (max 0 (x.1 - hi), x.2.1 - lo, false)
/-- One cell of the program's. -/
theorem sub_eq (L : Nat) (x : Bd) (lo hi : Int) (u : Bool) (hx : chk x.1 x.2.1 x.2.2.1 = 0) (hx2 : -1099511627776 ≤ x.1 ∧ x.2.1 ≤ 1099511627776) (hb : chk lo hi u = 0) (hb2 : -549755813888 ≤ lo ∧ hi ≤ 549755813888) :
    p_bound_Sub_Quanta L x.1 x.2.1 x.2.2.1 lo hi u = some (if x.2.2.1 = true ∨ u = true then none_ else (x.1 - hi, x.2.1 - lo, false)) := by
  have h1 := chk_0 hx
  have h2 := chk_0 hb
  unfold p_bound_Sub_Quanta p_bound_Add_Quanta
  rw [neg_eq L lo hi u hb, bnd_s]
  simp only [vague_eq, bnd_s, none_eq, of_eq]
  rw [show bad (x.1, x.2.1, x.2.2.1, ()) = x.2.2.1 from bad_chk hx, bad_chk (chk_neg hb)]
  cases hxu : x.2.2.1
  · cases u
    · simp only [Bool.or_self, cb_f, Bool.false_eq_true, or_self, if_false]
      rw [w64 (x := x.1 + -hi) (by omega), w64 (x := x.2.1 + -lo) (by omega), norm_good, bnd_s]
      · simp only [Option.some.injEq, Prod.mk.injEq, and_true]; omega
      · unfold bad; simp; omega
    · simp [cb, none_, bnd_s]
  · simp [cb, none_, bnd_s]
theorem exact0 (L : Nat) : p_bound_Exact_Quanta L 0 = some (0, 0, false) := by
  unfold p_bound_Exact_Quanta
  rw [of_eq, bnd_s]; decide
theorem max_none (L : Nat) : p_bound_Max_Quanta L 0 0 true 0 0 false = some (0, 0, true) := by
  unfold p_bound_Max_Quanta p_bound_Min_Quanta
  rw [neg_eq L 0 0 true (by decide), bnd_s, neg_eq L 0 0 false (by decide), bnd_s]
  simp only [vague_eq, bnd_s, none_eq]
  have : bad (-(0 : Int), -(0 : Int), true, ()) = true := by decide
  rw [this, Bool.true_or, cb_t]
  unfold none_
  rw [bnd_s]
  simp only
  rw [neg_eq L 0 0 true (by decide), bnd_s]; rfl
theorem max_good (L : Nat) (a b : Int) (h : chk a b false = 0) (hb : 0 ≤ b) : p_bound_Max_Quanta L a b false 0 0 false = some (max 0 a, b, false) := by
  have h1 := chk_0 h
  unfold p_bound_Max_Quanta p_bound_Min_Quanta
  rw [neg_eq L a b false h, bnd_s, neg_eq L 0 0 false (by decide), bnd_s]
  simp only [vague_eq, bnd_s, none_eq, of_eq]
  rw [bad_chk (chk_neg h), show bad (-(0 : Int), -(0 : Int), false, ()) = false by decide, Bool.or_self, cb_f, min_v, min_v, norm_good (by unfold bad; simp; omega), bnd_s]
  have z : (-0 : Int) = 0 := rfl
  simp only [z]
  rw [neg_eq L _ _ false (by unfold chk; grind), bnd_s]
  have e1 : -min (-a) 0 = max 0 a := by omega
  have e2 : -min (-b) 0 = b := by omega
  simp only [e1, e2]
def Good (x : Bd) : Prop := chk x.1 x.2.1 x.2.2.1 = 0 ∧ -1099511627776 ≤ x.1 ∧ x.2.1 ≤ 1099511627776
theorem sub_l (L : Nat) (lo hi : Int) (u : Bool) (hb : chk lo hi u = 0) (hb2 : -549755813888 ≤ lo ∧ hi ≤ 549755813888) : ∀ (l s : List Bd), (∀ x ∈ l, Good x) → (s.length + l.length) * 24 ≤ 140737488355328 →
    p_level_Subtract_l0 L lo hi u l s = some (s ++ l.map fun x => ((cell x lo hi u).1, (cell x lo hi u).2.1, (cell x lo hi u).2.2, ()))
  | [], s, _, _ => by rw [p_level_Subtract_l0]; simp
  | x :: r, s, hg, h => by
    rw [List.length_cons] at h
    obtain ⟨g1, g2⟩ := hg x (by simp)
    have hr := fun s' hs => sub_l L lo hi u hb hb2 r s' (fun y hy => hg y (by simp [hy])) hs
    have q1 := chk_0 g1
    have q2 := chk_0 hb
    rw [p_level_Subtract_l0, sub_eq L x lo hi u g1 g2 hb hb2, bnd_s]
    simp only [none_eq, bnd_s, exact0, none_]
    by_cases c : x.2.2.1 = true ∨ u = true
    · rw [if_pos c]
      simp only [if_neg (show ¬ (0 : Int) < 0 by decide), max_none, bnd_s]
      rw [rq_t (by rw [maxRow_v]; omega), rq_t (by rw [maxRow_v]; omega), hr _ (by simp; omega)]
      have hc : cell x lo hi u = (0, 0, true) := by unfold cell; rw [if_pos (by rcases c with c | c; exact .inl c; exact .inr (.inl c))]
      simp [hc]
    · rw [if_neg c]
      simp only
      by_cases c2 : x.2.1 - lo < 0
      · rw [if_pos c2, max_none, bnd_s, rq_t (by rw [maxRow_v]; omega), rq_t (by rw [maxRow_v]; omega), hr _ (by simp; omega)]
        have hc : cell x lo hi u = (0, 0, true) := by unfold cell; rw [if_pos (.inr (.inr c2))]
        simp [hc]
      · have hk : chk (x.1 - hi) (x.2.1 - lo) false = 0 := by unfold chk; grind
        rw [if_neg c2, max_good L _ _ hk (by omega), bnd_s, rq_t (by rw [maxRow_v]; omega), rq_t (by rw [maxRow_v]; omega), hr _ (by simp; omega)]
        have hc : cell x lo hi u = (max 0 (x.1 - hi), x.2.1 - lo, false) := by unfold cell; rw [if_neg (by grind)]
        simp [hc]
theorem left_l (L : Nat) (lo hi : Int) (u : Bool) (hb : chk lo hi u = 0) (hb2 : -549755813888 ≤ lo ∧ hi ≤ 549755813888) : ∀ (l s : List Bd), (∀ x ∈ l, Good x) → (s.length + l.length) * 24 ≤ 140737488355328 →
    p_spyref3_Left_l0 L lo hi u l s = some (s ++ l.map fun x => ((cell x lo hi u).1, (cell x lo hi u).2.1, (cell x lo hi u).2.2, ()))
  | [], s, _, _ => by rw [p_spyref3_Left_l0]; simp
  | x :: r, s, hg, h => by
    rw [List.length_cons] at h
    obtain ⟨g1, g2⟩ := hg x (by simp)
    have hr := fun s' hs => left_l L lo hi u hb hb2 r s' (fun y hy => hg y (by simp [hy])) hs
    have q1 := chk_0 g1
    have q2 := chk_0 hb
    rw [p_spyref3_Left_l0, w64 (x := x.2.1 - lo) (by omega), w64 (x := x.1 - hi) (by omega), max_v]
    simp only [rq_t (show s.length + 1 ≤ maxRow by rw [maxRow_v]; omega), rq_t (show (s.length + 1) * 24 ≤ maxRow by rw [maxRow_v]; omega)]
    rw [hr _ (by simp; omega), hr _ (by simp; omega)]
    unfold cell
    cases hxu : x.2.2.1
    · cases u
      · by_cases c2 : x.2.1 - lo < 0
        · simp [cb, hxu, c2]
        · simp [cb, hxu, c2]
      · simp [cb, hxu]
    · simp [cb, hxu]
theorem cells_good : ∀ {l : List Bd}, cellsF l = 0 → ∀ x ∈ l, Good x
  | b :: r, h, x, hx => by
    rw [cellsF] at h
    have hf := fault_chk b
    by_cases q : fault b.1 b.2.1 b.2.2.1 (-1099511627776) 1099511627776 = 0
    · rw [if_pos q] at h
      rcases List.mem_cons.1 hx with rfl | hx
      · rw [q] at hf
        unfold Good
        grind
      · exact cells_good h x hx
    · rw [if_neg q] at h; exact absurd h q
def res (w h : Int) (l : List Bd) (lo hi : Int) (u : Bool) : Int × Int × List Bd × Int :=
  if fieldF w h l ≠ 0 then (0, 0, [], fieldF w h l) else if fault lo hi u (-549755813888) 549755813888 ≠ 0 then (0, 0, [], fault lo hi u (-549755813888) 549755813888) else
    (w, h, l.map fun x => ((cell x lo hi u).1, (cell x lo hi u).2.1, (cell x lo hi u).2.2, ()), 0)
theorem field_cells {w h : Int} {l : List Bd} (hf : fieldF w h l = 0) : cellsF l = 0 := by
  unfold fieldF at hf
  split at hf
  · cases hf
  · exact hf
theorem subtract_eq (L : Nat) (h2 : 2 < L) (w h : Int) (l : List Bd) (lo hi : Int) (u : Bool) (hl : l.length < L) : p_level_Subtract L w h l lo hi u = some (res w h l lo hi u) := by
  unfold p_level_Subtract res
  rw [ck_eq L w h l hl, bnd_s, cb_d]
  by_cases c : fieldF w h l = 0
  · rw [if_pos c, if_neg (by simpa using c), check_eq, bnd_s, cb_d]
    have hg := cells_good (field_cells c)
    have hn := field_len c
    by_cases c2 : chk lo hi u = 0
    · rw [if_pos c2]
      by_cases c3 : lo < -549755813888
      · have hf : fault lo hi u (-549755813888) 549755813888 = 4 := by unfold fault; grind
        rw [if_pos c3, or_eq L h2, bnd_s, hf, c2]; rfl
      rw [if_neg c3]
      by_cases c4 : hi > 549755813888
      · have hf : fault lo hi u (-549755813888) 549755813888 = 4 := by unfold fault; grind
        rw [if_pos c4, or_eq L h2, bnd_s, hf, c2]; rfl
      have hf : fault lo hi u (-549755813888) 549755813888 = 0 := by unfold fault; grind
      rw [if_neg c4, rq_t hl, sub_l L lo hi u c2 (by omega) l [] hg (by simp; omega), bnd_s, hf]
      rfl
    · have hf : fault lo hi u (-549755813888) 549755813888 = chk lo hi u := by unfold fault; grind
      rw [if_neg c2, or_eq L h2, bnd_s, hf, if_neg c2, if_pos c2]
  · rw [if_neg c, if_pos c]
theorem left_eq (L : Nat) (w h : Int) (l : List Bd) (lo hi : Int) (u : Bool) (hl : l.length < L) : p_spyref3_Left L w h l lo hi u = some (res w h l lo hi u) := by
  unfold p_spyref3_Left res
  rw [ff_eq L w h l hl, bnd_s, cb_d]
  by_cases c : fieldF w h l = 0
  · rw [if_pos c, if_neg (by simpa using c), fault_eq, bnd_s, cb_d]
    have hg := cells_good (field_cells c)
    have hn := field_len c
    by_cases c2 : fault lo hi u (-549755813888) 549755813888 = 0
    · have hk : chk lo hi u = 0 ∧ -549755813888 ≤ lo ∧ hi ≤ 549755813888 := by unfold fault at c2; grind
      rw [if_pos c2, if_neg (by simpa using c2), rq_t hl, left_l L lo hi u hk.1 hk.2 l [] hg (by simp; omega), bnd_s]
      simp
    · rw [if_neg c2, if_pos c2]
  · rw [if_neg c, if_pos c]
theorem res_len (w h : Int) (l : List Bd) (lo hi : Int) (u : Bool) : (res w h l lo hi u).2.2.1.length ≤ 1024 := by
  unfold res
  by_cases c : fieldF w h l = 0
  · rw [if_neg (by simpa using c)]
    have := field_len c
    split <;> simp <;> omega
  · rw [if_pos c]; simp
theorem top (a0_0 : Int) (a0_1 : Int) (a0_2 : List (Int × Int × Bool × Unit)) (a1_0 : Int) (a1_1 : Int) (a1_2 : Bool) (h0 : ((Lit.int .i64 a0_0).wf = true) ∧ ((Lit.int .i64 a0_1).wf = true) ∧ (a0_2.length * 24 ≤ 140737488351232 ∧ ∀ y ∈ a0_2, ((Lit.int .i64 y.1).wf = true) ∧ ((Lit.int .i64 y.2.1).wf = true) ∧ (True) ∧ True) ∧ True) (h1 : ((Lit.int .i64 a1_0).wf = true) ∧ ((Lit.int .i64 a1_1).wf = true) ∧ (True) ∧ True) : ∃ L, L ≤ 4611686018427387904 ∧ p_spylaw3_LevelSubtracts L a0_0 a0_1 a0_2 a1_0 a1_1 a1_2 = some true := by
  obtain ⟨L, hL⟩ : ∃ L, L = 4611686018427387904 := ⟨_, rfl⟩
  refine ⟨L, by omega, ?_⟩
  have hl : a0_2.length < L := by have := h0.2.2.1.1; omega
  have hr := res_len a0_0 a0_1 a0_2 a1_0 a1_1 a1_2
  unfold p_spylaw3_LevelSubtracts
  rw [subtract_eq L (by omega) _ _ _ _ _ _ hl, bnd_s, left_eq L _ _ _ _ _ _ hl, bnd_s, show p_spylaw3_levels L = some true from rfl, bnd_s, cb_t, decide_eq_true rfl, cb_t, same_eq L _ _ _ (by omega) (by omega), bnd_s]
end Go.Proofs.Ytnojehmbiceceaa.PlLevelSubtracts
end
section
set_option linter.unusedVariables false
set_option linter.unusedSimpArgs false
namespace Go.Proofs.Ytnojehmbiceceaa.levelSubtracts
open Go.ChangeShapes Go.WideShapes Go.ChangeAt Go.RowKit
open Go.ChangeMaps (open_string shut_string)
open Go.Ev (Opens OpensF arg_agg arg_one weight_at law_calls call_of_ev ArgsOk D Fl)
theorem own : ownKnob Try.prog.godebug = none := by kernel_rfl
theorem laidOut : laidOutB Try.prog = true := by kernel_rfl
set_option maxRecDepth 100000 in
set_option maxHeartbeats 4000000 in
theorem lifted (os : Os) (started : os.Started) (H : Type) (enc : TypeId × Value → H) :
    ReturnsInHanded {} Try.checked os 7 .any (Rows.levelSubtractsSpec.pre6 enc Try.prog Try.f7 Rows.levelSubtractsRow.domain false) (Rows.levelSubtractsSpec.post enc Try.prog Try.f7 false true false false) := by
  refine returnsInHanded_of_change_sized (C := Try.checked) own started (by kernel_rfl) Try.func7
    (ChangeSpec.witness6 (enc := enc) (C := Try.checked) false ⟨#[], #[.agg #[.int .i64 0, .int .i64 0, .slice none 0 0], .agg #[.int .i64 0, .int .i64 0, .bool false]], []⟩ 8 (by kernel_rfl) (by kernel_rfl) (by kernel_rfl) (by kernel_rfl)) ?_
  intro W base args ds gs before hval0 hW hcnd hsz0 _
  have hsz : (DataW.weightsEach Try.prog (Try.f7.params.toList ++ Rows.levelSubtractsSpec.plain.varTypes Try.prog) (ds ++ gs)).all (· ≤ reachBytes) = true := hsz0
  have hval : ∀ (j : Nat) t v, Try.f7.params[j]? = some t → args[j]? = some v → Value.okWide Try.prog W .any base t v := hval0
  have hW' := hW
  obtain ⟨p, q, hA0, hV, rfl, hfz, hnd⟩ := hW
  have hA : DataW.TrodAll enc Try.prog W 0 (fun _ => true) true Try.f7.params.toList args.toList ds p := hA0
  rw [Try.params7] at hA hval hsz
  obtain ⟨v0, vs0, d0, ds0, p0, q0, hargs, rfl, rfl, h0, r0⟩ := trodAll_cons hA
  obtain ⟨v1, vs1, d1, ds1, p1, q1, rfl, rfl, rfl, h1, r1⟩ := trodAll_cons r0
  obtain ⟨rfl, rfl, rfl⟩ := trodAll_nil r1
  obtain rfl : args = #[v0, v1] := by cases args; simp_all
  obtain ⟨rfl, rfl⟩ := trodVars_none hV
  obtain ⟨cs0, rfl, hcs0⟩ := okWide_struct Try.underlying45 (hval 0 45 v0 rfl rfl)
  have k0_ := h0
  have lt0 : ∀ x ∈ p0, x.block < W.heap.size := by obtain ⟨m, hm⟩ := k0_; exact DataW.trod_lt m _ _ _ hm
  obtain ⟨fuel0, hf0⟩ := h0
  obtain ⟨x0, hK0, hw0⟩ := (Opens.struct Try.underlying45 (by kernel_rfl) (OpensF.cons rfl (Opens.int Try.underlying3) (OpensF.cons rfl (Opens.int Try.underlying3) (OpensF.cons rfl (Opens.slice (B := 24) Try.underlying43 (of_decide_eq_true (by kernel_rfl)) (by kernel_rfl) (Opens.struct Try.underlying35 (by kernel_rfl) (OpensF.cons rfl (Opens.int Try.underlying24) (OpensF.cons rfl (Opens.int Try.underlying24) (OpensF.cons rfl (Opens.bool Try.underlying4) OpensF.nil))))) OpensF.nil)))) enc W fuel0 _ _ hf0 (weight_at hsz (j := 0) rfl rfl)
  obtain ⟨a0_0, a0_1, a0_2, ⟨⟩⟩ := x0
  obtain ⟨cs1, rfl, hcs1⟩ := okWide_struct Try.underlying35 (hval 1 35 v1 rfl rfl)
  have k1_ := h1
  have lt1 : ∀ x ∈ p1, x.block < W.heap.size := by obtain ⟨m, hm⟩ := k1_; exact DataW.trod_lt m _ _ _ hm
  obtain ⟨fuel1, hf1⟩ := h1
  obtain ⟨x1, hK1, hw1⟩ := (Opens.struct Try.underlying35 (by kernel_rfl) (OpensF.cons rfl (Opens.int Try.underlying24) (OpensF.cons rfl (Opens.int Try.underlying24) (OpensF.cons rfl (Opens.bool Try.underlying4) OpensF.nil)))) enc W fuel1 _ _ hf1 (weight_at hsz (j := 1) rfl rfl)
  obtain ⟨a1_0, a1_1, a1_2, ⟨⟩⟩ := x1
  clear hA0 hval0 hsz0 hsz
  obtain ⟨L, hL, hp⟩ := PlLevelSubtracts.top a0_0 a0_1 a0_2 a1_0 a1_1 a1_2 hw0 hw1
  have ht := P.e_spylaw3_LevelSubtracts L hL a0_0 a0_1 a0_2 a1_0 a1_1 a1_2 true hp
  have hok : ArgsOk Try.prog (Go.Ev.Old W) W [D.agg 45 [.int .i64 a0_0, .int .i64 a0_1, D.sl 35 (a0_2.map (fun ya0_2 : Int × Int × Bool × Unit => D.agg 35 [.int .i64 ya0_2.1, .int .i64 ya0_2.2.1, .bool ya0_2.2.2.1]))], D.agg 35 [.int .i64 a1_0, .int .i64 a1_1, .bool a1_2]] [(.agg cs0 : Value), (.agg cs1 : Value)] := fun σ st => ⟨_, _, rfl, arg_agg rfl hK0, ⟨_, _, rfl, arg_agg rfl hK1, rfl⟩⟩
  refine (law_calls Try.func7 (by kernel_rfl) (by kernel_rfl) (call_of_ev Ty.mixed (P.Go_spylaw3_LevelSubtracts L hL) (P.To_spylaw3_LevelSubtracts L) ht (fun _ h => h) hok)).mono fun e W' ⟨he, bel⟩ => ?_
  subst he
  exact ⟨_, rfl, _, _, _, [], _, [], hW', trodAll_mk1 (shut_bool Try.underlying4 _), (trodAll_cons_mk (Below.trod laidOut (by kernel_rfl) (of_decide_eq_true (by kernel_rfl)) k0_ bel lt0) (trodAll_cons_mk (Below.trod laidOut (by kernel_rfl) (of_decide_eq_true (by kernel_rfl)) k1_ bel lt1) trodAll_mk0)), rfl, bel.frame _, fun h => by cases h⟩
theorem over : Rows.levelSubtractsRow.holds Try.pinned (OpenSpec.ofChange Rows.levelSubtractsSpec) :=
  OpenClaim.holds_of_wide 7 Try.f7 rfl rfl rfl rfl rfl rfl rfl ⟨rfl, rfl, rfl, rfl, rfl⟩ rfl rfl rfl rfl rfl (by kernel_rfl) Try.func7 (by kernel_rfl)
    (of_decide_eq_true (by kernel_rfl)) (by unfold Func.isWrapper; first | (rw [if_pos (by decide +kernel)]; kernel_rfl) | (rw [if_neg (by decide +kernel)]; exact ⟨rfl, rfl⟩))
    (fun os started H enc _ => lifted os started H enc)
theorem proved : Rows.LevelSubtractsSaid := over
#print axioms proved
end Go.Proofs.Ytnojehmbiceceaa.levelSubtracts
namespace Go.Proofs.Ytnojehmbiceceaa
/-- The row, under a short name, for the claim. -/
theorem levelSubtracts_holds : Rows.LevelSubtractsSaid := levelSubtracts.proved
end Go.Proofs.Ytnojehmbiceceaa
end
