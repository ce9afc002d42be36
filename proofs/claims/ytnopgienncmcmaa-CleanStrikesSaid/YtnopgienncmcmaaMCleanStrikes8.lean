/- Parts of one proof, joined: G51, PlBndQuanta, PlFuseQuanta, E41, G41, E30, G30, PlField, E14, E26. -/
import Derived.Test.YtnopgienncmcmaaMCleanStrikes7
import Derived.Test.YtnopgienncmcmaaProg
section
set_option linter.unusedVariables false
set_option linter.unusedSimpArgs false
set_option maxRecDepth 100000
namespace Go.Proofs.Ytnopgienncmcmaa.P
open Go.Ev Go.IntKind Go.Proofs.Ytnopgienncmcmaa Go.Proofs.Ytnopgienncmcmaa.Ty Go.Proofs.Ytnopgienncmcmaa.E
def p_spyref3_Fused_Quanta_l0 (L : Nat)  : List (Int × Int × Bool × Unit) → (List (Int × Int × Bool × Unit)) → Option (List (Int × Int × Bool × Unit))
  | [], s4 => some s4
  | x1 :: tl, s4 => bnd (p_spyref3_Bad_Quanta L x1.1 x1.2.1 x1.2.2.1) fun r6 => cb r6 (p_spyref3_Fused_Quanta_l0 L  tl s4) (rq (s4.length + 1 ≤ maxRow) <| rq ((s4.length + 1) * 24 ≤ maxRow) <| p_spyref3_Fused_Quanta_l0 L  tl (s4 ++ [x1]))
def p_spyref3_Fused_Quanta_l3 (L : Nat) (a96 : Int) : List (Int × Int × Bool × Unit) → Int → Option Int
  | [], s124 => some s124
  | x122 :: tl, s124 => if x122.1 ≤ a96 then (if a96 ≤ x122.2.1 then (p_spyref3_Fused_Quanta_l3 L a96 tl (i64.wrap (s124 + 1))) else (p_spyref3_Fused_Quanta_l3 L a96 tl s124)) else (p_spyref3_Fused_Quanta_l3 L a96 tl s124)
def p_spyref3_Fused_Quanta_l4 (L : Nat) (a97 : Int) : List (Int × Int × Bool × Unit) → Int → Option Int
  | [], s129 => some s129
  | x127 :: tl, s129 => if x127.1 ≤ a97 then (if a97 ≤ x127.2.1 then (p_spyref3_Fused_Quanta_l4 L a97 tl (i64.wrap (s129 + 1))) else (p_spyref3_Fused_Quanta_l4 L a97 tl s129)) else (p_spyref3_Fused_Quanta_l4 L a97 tl s129)
def p_spyref3_Fused_Quanta_l2 (L : Nat) (a1 : Int) (a96 : Int) (a97 : Int) (o7 : List (Int × Int × Bool × Unit)) : Nat → Int → Int → Int → Bool → Option (Int × Int × Bool)
  | 0, s98, s109, s110, s111 => some (s109, s110, s111)
  | tl + 1, s98, s109, s110, s111 => cb (decide (s98 = 0)) (rq (o7.length < L) <| bnd (p_spyref3_Fused_Quanta_l3 L a96 o7 0) fun o125 => if o125 < (i64.wrap ((o7.length : Int) - a1)) then (p_spyref3_Fused_Quanta_l2 L a1 a96 a97 o7 tl (s98 + 1) s109 s110 s111) else (cb s111 (p_spyref3_Fused_Quanta_l2 L a1 a96 a97 o7 tl (s98 + 1) (minI a96 a96) (maxI a96 a96) false) (p_spyref3_Fused_Quanta_l2 L a1 a96 a97 o7 tl (s98 + 1) (minI s109 a96) (maxI s110 a96) s111))) (cb (decide (s98 = 1)) (rq (o7.length < L) <| bnd (p_spyref3_Fused_Quanta_l4 L a97 o7 0) fun o130 => if o130 < (i64.wrap ((o7.length : Int) - a1)) then (p_spyref3_Fused_Quanta_l2 L a1 a96 a97 o7 tl (s98 + 1) s109 s110 s111) else (cb s111 (p_spyref3_Fused_Quanta_l2 L a1 a96 a97 o7 tl (s98 + 1) (minI a97 a97) (maxI a97 a97) false) (p_spyref3_Fused_Quanta_l2 L a1 a96 a97 o7 tl (s98 + 1) (minI s109 a97) (maxI s110 a97) s111))) (none))
def p_spyref3_Fused_Quanta_l1 (L : Nat) (a1 : Int) (o7 : List (Int × Int × Bool × Unit)) : List (Int × Int × Bool × Unit) → Int → Int → Bool → Option (Int × Int × Bool)
  | [], s51, s52, s53 => some (s51, s52, s53)
  | x9 :: tl, s51, s52, s53 => rq (2 < L) <| bnd (p_spyref3_Fused_Quanta_l2 L a1 x9.1 x9.2.1 o7 2 0 s51 s52 s53) fun o132 => p_spyref3_Fused_Quanta_l1 L a1 o7 tl o132.1 o132.2.1 o132.2.2
def p_spyref3_Fused_Quanta (L : Nat) (a0 : List (Int × Int × Bool × Unit)) (a1 : Int) : Option (Int × Int × Bool) := rq (a0.length < L) <| bnd (p_spyref3_Fused_Quanta_l0 L a0 ([])) fun o7 => if a1 < 0 then (some (0, 0, true)) else (if a1 ≥ (o7.length : Int) then (some (0, 0, true)) else (rq (o7.length < L) <| bnd (p_spyref3_Fused_Quanta_l1 L a1 o7 o7 0 0 true) fun o134 => some (o134.1, o134.2.1, o134.2.2)))
attribute [local go_sem] Ev.putR_s Ev.putR_0 Ev.thenO_s Ev.thenO_0 Ev.seqR_n Ev.seqR_e Ev.seqR_r Ev.seqR_0 Ev.blkR_e Ev.blkR_n Ev.blkR_r Ev.blkR_0 Ev.normR_s Ev.normR_0 Ev.outR_r Ev.outR_n Ev.outR_0 Ev.retS_s Ev.retS_0 Ev.pureO_s Ev.pureO_0 Ev.topR_0 Ev.topR_t Ev.topR_t0 Ev.oneL_0 Ev.oneL_s Ev.topR_d Ev.topR_nils Ev.topR_agg Ev.topR_rs Ev.evOp_move Ev.evOp_assign Ev.evOp_pick Ev.evOp_alloc Ev.evOp_box Ev.evOp_build Ev.evOp_buildSlice Ev.evOp_load Ev.evOp_store Ev.evOp_makeMap Ev.evOp_lookup Ev.evOp_mapUpdate Ev.evOp_insert Ev.evOp_nilCheck Ev.evOp_binOp Ev.evOp_unOp Ev.evOp_convert Ev.evOp_makeFunc Ev.evOp_makeSlice Ev.evOp_slice Ev.evOp_fieldAddr Ev.evOp_field Ev.evOp_indexAddr Ev.evOp_index Ev.evOp_extract Ev.evOp_call Ev.evOp_append Ev.evOp_clear Ev.evOp_len Ev.evLen_d Ev.evLen_rs Ev.evLen_nils Ev.evLen_nila Ev.evLen_mp Ev.evOp_min Ev.evOp_max Ev.condR_b Ev.condR_t Ev.evOps_nil Ev.evOps_plain Ev.evOps_guard Ev.runG_eq Ev.skipG_eq Ev.condL_tt Ev.condL_ff Ev.condL_tf Ev.condL_ft Ev.condL_u Ev.condC_t Ev.condC_f Ev.evC_skip Ev.evC_ret Ev.evC_exit Ev.evC_label Ev.evC_region Ev.evC_draw Ev.evC_seq Ev.evC_cond Ev.evC_block Ev.evC_loop Ev.fin_d Ev.fin_nila Ev.fin_nils Ev.fin_agg_ Ev.fin_rs Ev.finS_s Ev.mapO_fin Ev.upd_upd Ev.argv_d Ev.argv_nila Ev.argv_nils Ev.argv_agg Ev.argv_rs Ev.argv_p Ev.fk_low Ev.appendTo_nils Ev.appendTo_nila Ev.appendTo_rs Ev.consV_d Ev.consV_agg Ev.consV_p Ev.consV_rs Ev.consV_nila Ev.consV_nils Ev.consV_fn Ev.consV_und Ev.consV_jk Ev.consV_grown Ev.topR_grown Ev.len_grown Ev.consV_mp Ev.sameK_i Ev.sameK_s Ev.mget_0 Ev.mget_hit Ev.mget_miss Ev.mput_0 Ev.mput_hit Ev.mput_miss Ev.apartAll Ev.apartL Ev.apartV Ev.freeAll Ev.sel Ev.keyOfV Ev.evLookup Ev.evPut Ev.hintOk Ev.keyOk Ev.consP Ev.lookV Ev.guardV Ev.dstAt Ev.evPure Ev.evStore Ev.evBin Ev.evBinO Ev.evNil Ev.isNilC Ev.evUn Ev.evConv Ev.evSlice Ev.optI Ev.foldI Ev.capsOk Ev.noTup Ev.nth Ev.setN Ev.killAt Ev.pad Ev.V.get Ev.V.put Ev.putD Ev.newBlk Ev.upd Ev.keq Ev.empty Ev.evCall Ev.V.args Ev.argP Ev.callOf Ev.evNilP Ev.isNilP Ev.look Ev.V.view.views Ev.V.view Ev.V.toD Ev.V.toD.V.toDs Ev.V.pure.pures Ev.V.pure Ev.D.flat.flats Ev.D.flat Ev.mkAgg Ev.allD Ev.aggParts Ev.setParts Ev.setElems Ev.getPath Ev.setPath Ev.subL Ev.eqD Ev.eqD.eqDs Ev.and2 Ev.strCut Ev.evalT Ev.constT Ev.evArgs Ev.mask Ev.maskOf Ev.tableOf Ev.compT Ev.resV Ev.retV Ev.mapO Ev.hT_nila Ev.eO_nila Ev.pL_nila Ev.evLen_gl Ev.r_nila Ev.frzO_n Ev.frzO_e Ev.frzO_r Ev.frzO_0 Ev.mb_z Ev.mb_0 Ev.mb_s Ev.frzL_t Ev.frzL_f Ev.frzL_0 Ev.frzT_nils Ev.frzT_rs Ev.frzT_p Ev.frzK_i Ev.keyIn_i Ev.rI_nil Ev.rI_cons Ev.rI_row Ev.rI_app Ev.r_d Ev.r_nils Ev.r_agg Ev.r_rs Ev.r_gl Ev.vw_row Ev.vw_app Ev.appO_s Ev.frzT_gl Ev.allD_gl Ev.killAt_i Ev.tkOne_i Ev.hT_agg Ev.hT_vagg Ev.hT_int Ev.hT_bool Ev.hT_str Ev.hT_sl Ev.hT_ptr Ev.hT_np Ev.hT_p Ev.hT_rs Ev.hT_mp Ev.hT_nils Ev.hT_fn Ev.hT_jk Ev.hT_gl Ev.eO_sl Ev.eO_nils Ev.eO_rs Ev.eT_sl Ev.eT_rs Ev.pL_str Ev.pL_sl Ev.pL_rs Ev.pL_nils Ev.pL_min Ev.pL_max Ev.len_glB Ev.noTup_gl Ev.rowV_len Ev.rowV_nil Ev.rowV_cons Ev.rowV_append Ev.rowV_set Ev.rowV_replicate Ev.nth_row Ev.row_take Ev.row_drop Ev.toDs_row Ev.fin_row Ev.map_row Ev.map_take_ Ev.map_drop_ Ev.Bk_i Ev.GlB_0 Ev.GlB_mk Ev.gl_nil Ev.gl_cons Ev.gl_snoc Ev.gl_setN Ev.appendTo_gl Ev.consV_gl Ev.elems_gl Ev.fin_gl Ev.view_gl Ev.argv_gl Ev.topR_gl Ev.sp_z Ev.sp_0 Ev.sp_s Ev.km_z Ev.km_0 Ev.km_s Ev.beq_toList Ev.nc0 Ev.bq_t Ev.bq_f Ev.bodyN Ev.le_maxRow Int.cast_ofNat_Int IntWalk.i64_in IntWalk.u64_in IntWalk.u8_in beq_self_eq_true Bool.true_beq Bool.false_beq Bool.and_true Bool.true_and Bool.false_and Bool.and_false Bool.and_self Bool.not_true Bool.not_false Bool.not_eq_true cond_true cond_false if_true if_false and_true true_and and_self decide_true decide_false Bool.or_true Bool.true_or Bool.or_false Bool.false_or List.isEmpty List.isEmpty_nil List.size_toArray List.map List.length_map List.length_cons List.length_nil Option.map Option.bind Option.getD Option.isSome List.replicate Bool.false_eq_true implies_true false_implies forall_const Array.toList Array.isEmpty List.append List.nil_append List.cons_append List.drop_zero List.take_length List.take_succ_cons List.take_zero List.take_nil List.getElem?_map List.getElem?_cons_zero List.getElem?_cons_succ List.getElem?_nil List.append_nil eq_self Int.toNat_natCast List.length_append Nat.zero_add Nat.add_zero List.length_replicate Nat.sub_zero Option.map_some Option.map_none Int.le_refl Nat.le_refl Int.natCast_nonneg List.map_append
attribute [local go_sem_proc] Nat.reduceAdd Nat.reduceSub Nat.reduceMul Nat.reduceEqDiff Nat.reduceBEq Nat.reduceLT Nat.reduceLeDiff Nat.reducePow Int.reduceToNat Int.reduceLT Int.reduceLE Int.reduceGT Int.reduceGE Int.reduceEq Int.reduceNeg Int.reduceAdd Int.reduceSub Int.reduceMul reduceCtorEq
attribute [local go_sem_proc ↓] reduceIte
noncomputable def G_spyref3_Fused_Quanta (L : Nat) : Specs := [(63, s_spyref3_Bad_Quanta L)]
noncomputable def T_spyref3_Fused_Quanta : Table := tableOf [(51, en51)]
theorem Go_spyref3_Fused_Quanta (L : Nat) (hL : L ≤ 4611686018427387904) : ∀ g s, Ev.look (G_spyref3_Fused_Quanta L) g = some s → SpecOk Try.prog g s := (specs_cons (ok_spyref3_Bad_Quanta L hL) specs_nil)
theorem To_spyref3_Fused_Quanta (L : Nat) : TableOk Try.prog ((G_spyref3_Fused_Quanta L).map (·.1)) T_spyref3_Fused_Quanta := (table_cons Try.func51 (by kernel_rfl) (by kernel_rfl) table_nil)
theorem lk_spyref3_Fused_Quanta_63 (L : Nat) : Ev.look (G_spyref3_Fused_Quanta L) 63 = some (s_spyref3_Bad_Quanta L) := nr rfl
attribute [local go_sem] Ty.tk3 Ty.ik3 Ty.ek3 Ty.zv3 Ty.by3 Ty.so3 Ty.tk4 Ty.ub4 Ty.ek4 Ty.zv4 Ty.by4 Ty.so4 Ty.tk40 Ty.zv40 Ty.by40 Ty.so40 Ty.tk45 Ty.ik45 Ty.ek45 Ty.zv45 Ty.by45 Ty.so45 Ty.tk47 Ty.ct47 Ty.ek47 Ty.zv47 Ty.by47 Ty.so47 Ty.tk108 Ty.ct108 Ty.zv108 Ty.by108 Ty.so108 Ty.k40_e Ty.k47_e Ty.k108_e E.mk51_0 E.mk51_2 E.mk51_4 E.mk51_6 E.mk51_1000001 E.mk51_1000002 E.mk51_1000003 E.mk51_1000004 E.mk51_1000005 E.mk51_1000006 E.mk51_1000007 E.mk51_1000008 E.mk51_1000000 E.fz51_0 E.fi51_0 E.fz51_2 E.fi51_2 E.fz51_4 E.fi51_4 E.fz51_6 E.fi51_6 E.lb51_0 E.lb51_2 E.lb51_4 E.lb51_6 lk_spyref3_Fused_Quanta_63 s_spyref3_Bad_Quanta_run loopN loops Try.f51
def Q0_p_spyref3_Fused_Quanta_l0 (a1 : Int) (a0 : List (Int × Int × Bool × Unit)) (u : List (Int × Int × Bool × Unit)) (z : Out) : Prop := ∃ env st, z = some (.exit 0, env, st) ∧ env = sp 97 0 [(1, .d (.int .i64 a1)), (4, .p (0, 4) (st (0, 4)).ver 0 []), (5, gl 47 (0, 28) (st (0, 28)).ver (rowV k47.e u))] ∧ Bk (st (0, 4)) 47 [.d (.agg 47 [.int .i64 0, .int .i64 0, .bool false])] ∧ GlB (st (0, 28)) 47 (rowV k47.e u)
abbrev Q_p_spyref3_Fused_Quanta_l0 (a1 : Int) (a0 : List (Int × Int × Bool × Unit)) (o : List (Int × Int × Bool × Unit)) (z : Out) : Prop := Q0_p_spyref3_Fused_Quanta_l0 a1 a0 o z
theorem l_p_spyref3_Fused_Quanta_l0 (L : Nat) (hL : L ≤ 4611686018427387904) (a1 : Int) (a0 : List (Int × Int × Bool × Unit)) : ∀ (tl : List (Int × Int × Bool × Unit)) (n : Nat) (s2 : Int) (s4 : List (Int × Int × Bool × Unit)) (env : List V) (st : Store) (o : List (Int × Int × Bool × Unit)), tl.length < n → Rng a0 s2 tl → mask (maskOf en51.ms 0) env = sp 97 0 [(1, .d (.int .i64 a1)), (4, .p (0, 4) (st (0, 4)).ver 0 []), (5, gl 47 (0, 28) (st (0, 28)).ver (rowV k47.e s4)), (16, .d (.sl 47 (a0.map k47.e))), (17, .d (.int .i64 (a0.length : Int))), (18, .d (.int .i64 s2))] → Bk (st (0, 4)) 47 [.d (.agg 47 [.int .i64 0, .int .i64 0, .bool false])] → GlB (st (0, 28)) 47 (rowV k47.e s4) → p_spyref3_Fused_Quanta_l0 L  tl s4 = some o →
    Q_p_spyref3_Fused_Quanta_l0 a1 a0 o (iter (evC Try.prog (G_spyref3_Fused_Quanta L) (evF Try.prog (G_spyref3_Fused_Quanta L) T_spyref3_Fused_Quanta L 0) L en51.ms 0 0 lb51_0) (maskOf en51.ms 0) n env st) := by
  intro tl
  induction tl with
  | nil =>
    intro n s2 s4 env st o hn hR he hb0 hb1 h
    obtain ⟨n, rfl⟩ : ∃ m, n = m + 1 := ⟨n - 1, by omega⟩
    obtain ⟨be0, bv0, bl0⟩ := hb0
    have g0 := rng_nil hR
    rw [iter, he]
    clear he
    generalize hK : iter _ _ n = K
    rw [p_spyref3_Fused_Quanta_l0] at h
    revert h
    rintro ⟨⟩
    simp only [go_sem, *]
    refine (⟨_, _, rfl, ?_, ?_, ?_⟩ : Q0_p_spyref3_Fused_Quanta_l0 _ _ _ _)
    all_goals simp only [go_sem, *]
  | cons x1 tl ih =>
    intro n s2 s4 env st o hn hR he hb0 hb1 h
    obtain ⟨n, rfl⟩ : ∃ m, n = m + 1 := ⟨n - 1, by omega⟩
    obtain ⟨be0, bv0, bl0⟩ := hb0
    replace ih : Hold _ := ih
    replace hR := rng_s hR
    obtain ⟨g0, g1, g2, g3, hR⟩ := hR
    rw [iter, he]
    clear he
    generalize hK : iter _ _ n = K
    rw [p_spyref3_Fused_Quanta_l0] at h
    revert h
    refine bnd_i fun r6 c1 => ?_
    refine cb_i (fun c2 => ?_) (fun c2 => ?_)
    · intro h
      simp only [go_sem, *]
      subst hK
      refine ih n (s2 + 1) s4 _ _ _ (by simp only [List.length_cons] at hn; omega) hR ?_ ?_ ?_ h
      all_goals simp only [go_sem, *]
    · refine rq_i fun c3 => ?_
      refine rq_i fun c4 => ?_
      intro h
      simp only [go_sem, *]
      subst hK
      refine ih n (s2 + 1) (s4 ++ [x1]) _ _ _ (by simp only [List.length_cons] at hn; omega) hR ?_ ?_ ?_ h
      all_goals simp only [go_sem, *]
def Q0_p_spyref3_Fused_Quanta_l3 (a1 : Int) (a96 : Int) (a95 : Int) (s10 : Int) (a97 : Int) (s98 : Int) (o7 : List (Int × Int × Bool × Unit)) (s109 : Int) (s110 : Int) (s111 : Bool) (u : Int) (z : Out) : Prop := ∃ env st, z = some (.exit 6, env, st) ∧ env = sp 97 0 [(1, .d (.int .i64 a1)), (4, .p (0, 4) (st (0, 4)).ver 0 []), (5, gl 47 (0, 28) (st (0, 28)).ver (rowV k47.e o7)), (8, .p (0, 8) (st (0, 8)).ver 0 []), (12, .d (.int .i64 a96)), (13, .d (.int .i64 u)), (40, gl 47 (0, 28) (st (0, 28)).ver (rowV k47.e o7)), (41, .d (.int .i64 a95)), (42, .d (.int .i64 s10)), (50, .d (.agg 108 [.int .i64 a96, .int .i64 a97])), (51, .d (.int .i64 s98))] ∧ Bk (st (0, 4)) 47 [.d (.agg 47 [.int .i64 0, .int .i64 0, .bool false])] ∧ Bk (st (0, 8)) 47 [.d (.agg 47 [.int .i64 s109, .int .i64 s110, .bool s111])] ∧ GlB (st (0, 28)) 47 (rowV k47.e o7)
abbrev Q_p_spyref3_Fused_Quanta_l3 (a1 : Int) (a96 : Int) (a95 : Int) (s10 : Int) (a97 : Int) (s98 : Int) (o7 : List (Int × Int × Bool × Unit)) (s109 : Int) (s110 : Int) (s111 : Bool) (o : Int) (z : Out) : Prop := Q0_p_spyref3_Fused_Quanta_l3 a1 a96 a95 s10 a97 s98 o7 s109 s110 s111 o z
theorem l_p_spyref3_Fused_Quanta_l3 (L : Nat) (hL : L ≤ 4611686018427387904) (a1 : Int) (a96 : Int) (a95 : Int) (s10 : Int) (a97 : Int) (s98 : Int) (o7 : List (Int × Int × Bool × Unit)) (s109 : Int) (s110 : Int) (s111 : Bool) : ∀ (tl : List (Int × Int × Bool × Unit)) (n : Nat) (s123 : Int) (s124 : Int) (env : List V) (st : Store) (o : Int), tl.length < n → Rng o7 s123 tl → mask (maskOf en51.ms 6) env = sp 97 0 [(1, .d (.int .i64 a1)), (4, .p (0, 4) (st (0, 4)).ver 0 []), (5, gl 47 (0, 28) (st (0, 28)).ver (rowV k47.e o7)), (8, .p (0, 8) (st (0, 8)).ver 0 []), (12, .d (.int .i64 a96)), (13, .d (.int .i64 s124)), (40, gl 47 (0, 28) (st (0, 28)).ver (rowV k47.e o7)), (41, .d (.int .i64 a95)), (42, .d (.int .i64 s10)), (50, .d (.agg 108 [.int .i64 a96, .int .i64 a97])), (51, .d (.int .i64 s98)), (54, gl 47 (0, 28) (st (0, 28)).ver (rowV k47.e o7)), (55, .d (.int .i64 (o7.length : Int))), (56, .d (.int .i64 s123))] → Bk (st (0, 4)) 47 [.d (.agg 47 [.int .i64 0, .int .i64 0, .bool false])] → Bk (st (0, 8)) 47 [.d (.agg 47 [.int .i64 s109, .int .i64 s110, .bool s111])] → GlB (st (0, 28)) 47 (rowV k47.e o7) → p_spyref3_Fused_Quanta_l3 L a96 tl s124 = some o →
    Q_p_spyref3_Fused_Quanta_l3 a1 a96 a95 s10 a97 s98 o7 s109 s110 s111 o (iter (evC Try.prog (G_spyref3_Fused_Quanta L) (evF Try.prog (G_spyref3_Fused_Quanta L) T_spyref3_Fused_Quanta L 0) L en51.ms 0 6 lb51_6) (maskOf en51.ms 6) n env st) := by
  intro tl
  induction tl with
  | nil =>
    intro n s123 s124 env st o hn hR he hb0 hb1 hb2 h
    obtain ⟨n, rfl⟩ : ∃ m, n = m + 1 := ⟨n - 1, by omega⟩
    obtain ⟨be0, bv0, bl0⟩ := hb0
    obtain ⟨be1, bv1, bl1⟩ := hb1
    generalize hQ : Q_p_spyref3_Fused_Quanta_l3 a1 a96 a95 s10 a97 s98 o7 s109 s110 s111 = Q
    have g0 := rng_nil hR
    rw [iter, he]
    clear he
    generalize hK : iter _ _ n = K
    rw [p_spyref3_Fused_Quanta_l3] at h
    revert h
    rintro ⟨⟩
    simp only [go_sem, *]
    subst hQ
    refine (⟨_, _, rfl, ?_, ?_, ?_, ?_⟩ : Q0_p_spyref3_Fused_Quanta_l3 _ _ _ _ _ _ _ _ _ _ _ _)
    all_goals simp only [go_sem, *]
  | cons x122 tl ih =>
    intro n s123 s124 env st o hn hR he hb0 hb1 hb2 h
    obtain ⟨n, rfl⟩ : ∃ m, n = m + 1 := ⟨n - 1, by omega⟩
    obtain ⟨be0, bv0, bl0⟩ := hb0
    obtain ⟨be1, bv1, bl1⟩ := hb1
    generalize hQ : Q_p_spyref3_Fused_Quanta_l3 a1 a96 a95 s10 a97 s98 o7 s109 s110 s111 = Q at ih ⊢
    replace ih : Hold _ := ih
    replace hR := rng_s hR
    obtain ⟨g0, g1, g2, g3, hR⟩ := hR
    rw [iter, he]
    clear he
    generalize hK : iter _ _ n = K
    rw [p_spyref3_Fused_Quanta_l3] at h
    have gn := gl_ne (f := k47.e) g2
    obtain ⟨gk1, gk2, gk3⟩ := hb2 (row_ne g2)
    revert h
    refine ite_i (fun c1 => ?_) (fun c1 => ?_)
    · refine ite_i (fun c2 => ?_) (fun c2 => ?_)
      · intro h
        simp only [go_sem, *]
        subst hK
        refine ih n (s123 + 1) (i64.wrap (s124 + 1)) _ _ _ (by simp only [List.length_cons] at hn; omega) hR ?_ ?_ ?_ ?_ h
        all_goals simp only [go_sem, *]
      · intro h
        simp only [go_sem, *]
        subst hK
        refine ih n (s123 + 1) s124 _ _ _ (by simp only [List.length_cons] at hn; omega) hR ?_ ?_ ?_ ?_ h
        all_goals simp only [go_sem, *]
    · intro h
      simp only [go_sem, *]
      subst hK
      refine ih n (s123 + 1) s124 _ _ _ (by simp only [List.length_cons] at hn; omega) hR ?_ ?_ ?_ ?_ h
      all_goals simp only [go_sem, *]
def Q0_p_spyref3_Fused_Quanta_l4 (a1 : Int) (a97 : Int) (a95 : Int) (s10 : Int) (a96 : Int) (s98 : Int) (o7 : List (Int × Int × Bool × Unit)) (s109 : Int) (s110 : Int) (s111 : Bool) (u : Int) (z : Out) : Prop := ∃ env st, z = some (.exit 6, env, st) ∧ env = sp 97 0 [(1, .d (.int .i64 a1)), (4, .p (0, 4) (st (0, 4)).ver 0 []), (5, gl 47 (0, 28) (st (0, 28)).ver (rowV k47.e o7)), (8, .p (0, 8) (st (0, 8)).ver 0 []), (12, .d (.int .i64 a97)), (13, .d (.int .i64 u)), (40, gl 47 (0, 28) (st (0, 28)).ver (rowV k47.e o7)), (41, .d (.int .i64 a95)), (42, .d (.int .i64 s10)), (50, .d (.agg 108 [.int .i64 a96, .int .i64 a97])), (51, .d (.int .i64 s98))] ∧ Bk (st (0, 4)) 47 [.d (.agg 47 [.int .i64 0, .int .i64 0, .bool false])] ∧ Bk (st (0, 8)) 47 [.d (.agg 47 [.int .i64 s109, .int .i64 s110, .bool s111])] ∧ GlB (st (0, 28)) 47 (rowV k47.e o7)
abbrev Q_p_spyref3_Fused_Quanta_l4 (a1 : Int) (a97 : Int) (a95 : Int) (s10 : Int) (a96 : Int) (s98 : Int) (o7 : List (Int × Int × Bool × Unit)) (s109 : Int) (s110 : Int) (s111 : Bool) (o : Int) (z : Out) : Prop := Q0_p_spyref3_Fused_Quanta_l4 a1 a97 a95 s10 a96 s98 o7 s109 s110 s111 o z
theorem l_p_spyref3_Fused_Quanta_l4 (L : Nat) (hL : L ≤ 4611686018427387904) (a1 : Int) (a97 : Int) (a95 : Int) (s10 : Int) (a96 : Int) (s98 : Int) (o7 : List (Int × Int × Bool × Unit)) (s109 : Int) (s110 : Int) (s111 : Bool) : ∀ (tl : List (Int × Int × Bool × Unit)) (n : Nat) (s128 : Int) (s129 : Int) (env : List V) (st : Store) (o : Int), tl.length < n → Rng o7 s128 tl → mask (maskOf en51.ms 6) env = sp 97 0 [(1, .d (.int .i64 a1)), (4, .p (0, 4) (st (0, 4)).ver 0 []), (5, gl 47 (0, 28) (st (0, 28)).ver (rowV k47.e o7)), (8, .p (0, 8) (st (0, 8)).ver 0 []), (12, .d (.int .i64 a97)), (13, .d (.int .i64 s129)), (40, gl 47 (0, 28) (st (0, 28)).ver (rowV k47.e o7)), (41, .d (.int .i64 a95)), (42, .d (.int .i64 s10)), (50, .d (.agg 108 [.int .i64 a96, .int .i64 a97])), (51, .d (.int .i64 s98)), (54, gl 47 (0, 28) (st (0, 28)).ver (rowV k47.e o7)), (55, .d (.int .i64 (o7.length : Int))), (56, .d (.int .i64 s128))] → Bk (st (0, 4)) 47 [.d (.agg 47 [.int .i64 0, .int .i64 0, .bool false])] → Bk (st (0, 8)) 47 [.d (.agg 47 [.int .i64 s109, .int .i64 s110, .bool s111])] → GlB (st (0, 28)) 47 (rowV k47.e o7) → p_spyref3_Fused_Quanta_l4 L a97 tl s129 = some o →
    Q_p_spyref3_Fused_Quanta_l4 a1 a97 a95 s10 a96 s98 o7 s109 s110 s111 o (iter (evC Try.prog (G_spyref3_Fused_Quanta L) (evF Try.prog (G_spyref3_Fused_Quanta L) T_spyref3_Fused_Quanta L 0) L en51.ms 0 6 lb51_6) (maskOf en51.ms 6) n env st) := by
  intro tl
  induction tl with
  | nil =>
    intro n s128 s129 env st o hn hR he hb0 hb1 hb2 h
    obtain ⟨n, rfl⟩ : ∃ m, n = m + 1 := ⟨n - 1, by omega⟩
    obtain ⟨be0, bv0, bl0⟩ := hb0
    obtain ⟨be1, bv1, bl1⟩ := hb1
    generalize hQ : Q_p_spyref3_Fused_Quanta_l4 a1 a97 a95 s10 a96 s98 o7 s109 s110 s111 = Q
    have g0 := rng_nil hR
    rw [iter, he]
    clear he
    generalize hK : iter _ _ n = K
    rw [p_spyref3_Fused_Quanta_l4] at h
    revert h
    rintro ⟨⟩
    simp only [go_sem, *]
    subst hQ
    refine (⟨_, _, rfl, ?_, ?_, ?_, ?_⟩ : Q0_p_spyref3_Fused_Quanta_l4 _ _ _ _ _ _ _ _ _ _ _ _)
    all_goals simp only [go_sem, *]
  | cons x127 tl ih =>
    intro n s128 s129 env st o hn hR he hb0 hb1 hb2 h
    obtain ⟨n, rfl⟩ : ∃ m, n = m + 1 := ⟨n - 1, by omega⟩
    obtain ⟨be0, bv0, bl0⟩ := hb0
    obtain ⟨be1, bv1, bl1⟩ := hb1
    generalize hQ : Q_p_spyref3_Fused_Quanta_l4 a1 a97 a95 s10 a96 s98 o7 s109 s110 s111 = Q at ih ⊢
    replace ih : Hold _ := ih
    replace hR := rng_s hR
    obtain ⟨g0, g1, g2, g3, hR⟩ := hR
    rw [iter, he]
    clear he
    generalize hK : iter _ _ n = K
    rw [p_spyref3_Fused_Quanta_l4] at h
    have gn := gl_ne (f := k47.e) g2
    obtain ⟨gk1, gk2, gk3⟩ := hb2 (row_ne g2)
    revert h
    refine ite_i (fun c1 => ?_) (fun c1 => ?_)
    · refine ite_i (fun c2 => ?_) (fun c2 => ?_)
      · intro h
        simp only [go_sem, *]
        subst hK
        refine ih n (s128 + 1) (i64.wrap (s129 + 1)) _ _ _ (by simp only [List.length_cons] at hn; omega) hR ?_ ?_ ?_ ?_ h
        all_goals simp only [go_sem, *]
      · intro h
        simp only [go_sem, *]
        subst hK
        refine ih n (s128 + 1) s129 _ _ _ (by simp only [List.length_cons] at hn; omega) hR ?_ ?_ ?_ ?_ h
        all_goals simp only [go_sem, *]
    · intro h
      simp only [go_sem, *]
      subst hK
      refine ih n (s128 + 1) s129 _ _ _ (by simp only [List.length_cons] at hn; omega) hR ?_ ?_ ?_ ?_ h
      all_goals simp only [go_sem, *]
def Q0_p_spyref3_Fused_Quanta_l2 (a1 : Int) (a95 : Int) (s10 : Int) (a96 : Int) (a97 : Int) (o7 : List (Int × Int × Bool × Unit)) (u : Int × Int × Bool) (z : Out) : Prop := ∃ env st, z = some (.exit 4, env, st) ∧ env = sp 97 0 [(1, .d (.int .i64 a1)), (4, .p (0, 4) (st (0, 4)).ver 0 []), (5, gl 47 (0, 28) (st (0, 28)).ver (rowV k47.e o7)), (8, .p (0, 8) (st (0, 8)).ver 0 []), (40, gl 47 (0, 28) (st (0, 28)).ver (rowV k47.e o7)), (41, .d (.int .i64 a95)), (42, .d (.int .i64 s10))] ∧ Bk (st (0, 4)) 47 [.d (.agg 47 [.int .i64 0, .int .i64 0, .bool false])] ∧ Bk (st (0, 8)) 47 [.d (.agg 47 [.int .i64 u.1, .int .i64 u.2.1, .bool u.2.2])] ∧ GlB (st (0, 28)) 47 (rowV k47.e o7)
abbrev Q_p_spyref3_Fused_Quanta_l2 (a1 : Int) (a95 : Int) (s10 : Int) (a96 : Int) (a97 : Int) (o7 : List (Int × Int × Bool × Unit)) (o : Int × Int × Bool) (z : Out) : Prop := Q0_p_spyref3_Fused_Quanta_l2 a1 a95 s10 a96 a97 o7 o z
theorem l_p_spyref3_Fused_Quanta_l2 (L : Nat) (hL : L ≤ 4611686018427387904) (a1 : Int) (a95 : Int) (s10 : Int) (a96 : Int) (a97 : Int) (o7 : List (Int × Int × Bool × Unit)) : ∀ (tl n : Nat) (s98 : Int) (s109 : Int) (s110 : Int) (s111 : Bool) (env : List V) (st : Store) (o : Int × Int × Bool), tl < n → Cnt 2 s98 tl → mask (maskOf en51.ms 4) env = sp 97 0 [(1, .d (.int .i64 a1)), (4, .p (0, 4) (st (0, 4)).ver 0 []), (5, gl 47 (0, 28) (st (0, 28)).ver (rowV k47.e o7)), (8, .p (0, 8) (st (0, 8)).ver 0 []), (40, gl 47 (0, 28) (st (0, 28)).ver (rowV k47.e o7)), (41, .d (.int .i64 a95)), (42, .d (.int .i64 s10)), (50, .d (.agg 108 [.int .i64 a96, .int .i64 a97])), (51, .d (.int .i64 s98))] → Bk (st (0, 4)) 47 [.d (.agg 47 [.int .i64 0, .int .i64 0, .bool false])] → Bk (st (0, 8)) 47 [.d (.agg 47 [.int .i64 s109, .int .i64 s110, .bool s111])] → GlB (st (0, 28)) 47 (rowV k47.e o7) → p_spyref3_Fused_Quanta_l2 L a1 a96 a97 o7 tl s98 s109 s110 s111 = some o →
    Q_p_spyref3_Fused_Quanta_l2 a1 a95 s10 a96 a97 o7 o (iter (evC Try.prog (G_spyref3_Fused_Quanta L) (evF Try.prog (G_spyref3_Fused_Quanta L) T_spyref3_Fused_Quanta L 0) L en51.ms 0 4 lb51_4) (maskOf en51.ms 4) n env st) := by
  intro tl
  induction tl with
  | zero =>
    intro n s98 s109 s110 s111 env st o hn hR he hb0 hb1 hb2 h
    obtain ⟨n, rfl⟩ : ∃ m, n = m + 1 := ⟨n - 1, by omega⟩
    obtain ⟨be0, bv0, bl0⟩ := hb0
    obtain ⟨be1, bv1, bl1⟩ := hb1
    have g0 := cnt_nil hR
    rw [iter, he]
    clear he
    generalize hK : iter _ _ n = K
    rw [p_spyref3_Fused_Quanta_l2] at h
    revert h
    rintro ⟨⟩
    simp only [go_sem, *]
    refine (⟨_, _, rfl, ?_, ?_, ?_, ?_⟩ : Q0_p_spyref3_Fused_Quanta_l2 _ _ _ _ _ _ _ _)
    all_goals simp only [go_sem, *]
  | succ tl ih =>
    intro n s98 s109 s110 s111 env st o hn hR he hb0 hb1 hb2 h
    obtain ⟨n, rfl⟩ : ∃ m, n = m + 1 := ⟨n - 1, by omega⟩
    obtain ⟨be0, bv0, bl0⟩ := hb0
    obtain ⟨be1, bv1, bl1⟩ := hb1
    replace ih : Hold _ := ih
    replace hR := cnt_s hR
    obtain ⟨g0, g1, g3, hR⟩ := hR
    rw [iter, he]
    clear he
    generalize hK : iter _ _ n = K
    rw [p_spyref3_Fused_Quanta_l2] at h
    revert h
    refine cb_i (fun c1 => ?_) (fun c1 => ?_)
    · have c2 : 0 ≤ s98 := by have := of_decide_eq_true c1; omega
      have c3 : s98 < 2 := by have := of_decide_eq_true c1; omega
      have c4 : s98.toNat = 0 := by have := of_decide_eq_true c1; omega
      refine rq_i fun c5 => ?_
      refine bnd_i fun o125 ho6 => ?_
      intro h
      simp only [go_sem, *]
      generalize hz8 : iter _ _ _ _ _ = z7
      have hq9 : Q_p_spyref3_Fused_Quanta_l3 a1 a96 a95 s10 a97 s98 o7 s109 s110 s111 o125 z7 := by
        rw [← hz8]
        refine l_p_spyref3_Fused_Quanta_l3 L hL a1 a96 a95 s10 a97 s98 o7 s109 s110 s111 o7 L 0 0 _ _ _ c5 (rng_0 c5 hL) ?_ ?_ ?_ ?_ ho6
        all_goals simp only [go_sem, *]
      clear hz8 ho6
      obtain ⟨_, st126, rfl, rfl, ⟨k101, k102, k103⟩, ⟨k111, k112, k113⟩, k12⟩ := hq9
      revert h
      refine ite_i (fun c13 => ?_) (fun c13 => ?_)
      · intro h
        simp only [go_sem, *]
        subst hK
        refine ih n (s98 + 1) s109 s110 s111 _ _ _ (by omega) hR ?_ ?_ ?_ ?_ h
        all_goals simp only [go_sem, *]
      · refine cb_i (fun c14 => ?_) (fun c14 => ?_)
        · intro h
          simp only [go_sem, *]
          subst hK
          refine ih n (s98 + 1) (minI a96 a96) (maxI a96 a96) false _ _ _ (by omega) hR ?_ ?_ ?_ ?_ h
          all_goals simp only [go_sem, *]
        · intro h
          simp only [go_sem, *]
          subst hK
          refine ih n (s98 + 1) (minI s109 a96) (maxI s110 a96) s111 _ _ _ (by omega) hR ?_ ?_ ?_ ?_ h
          all_goals simp only [go_sem, *]
    · refine cb_i (fun c15 => ?_) (fun c15 => ?_)
      · have c16 : 0 ≤ s98 := by have := of_decide_eq_true c15; omega
        have c17 : s98 < 2 := by have := of_decide_eq_true c15; omega
        have c18 : s98.toNat = 1 := by have := of_decide_eq_true c15; omega
        refine rq_i fun c19 => ?_
        refine bnd_i fun o130 ho20 => ?_
        intro h
        simp only [go_sem, *]
        generalize hz22 : iter _ _ _ _ _ = z21
        have hq23 : Q_p_spyref3_Fused_Quanta_l4 a1 a97 a95 s10 a96 s98 o7 s109 s110 s111 o130 z21 := by
          rw [← hz22]
          refine l_p_spyref3_Fused_Quanta_l4 L hL a1 a97 a95 s10 a96 s98 o7 s109 s110 s111 o7 L 0 0 _ _ _ c19 (rng_0 c19 hL) ?_ ?_ ?_ ?_ ho20
          all_goals simp only [go_sem, *]
        clear hz22 ho20
        obtain ⟨_, st131, rfl, rfl, ⟨k241, k242, k243⟩, ⟨k251, k252, k253⟩, k26⟩ := hq23
        revert h
        refine ite_i (fun c27 => ?_) (fun c27 => ?_)
        · intro h
          simp only [go_sem, *]
          subst hK
          refine ih n (s98 + 1) s109 s110 s111 _ _ _ (by omega) hR ?_ ?_ ?_ ?_ h
          all_goals simp only [go_sem, *]
        · refine cb_i (fun c28 => ?_) (fun c28 => ?_)
          · intro h
            simp only [go_sem, *]
            subst hK
            refine ih n (s98 + 1) (minI a97 a97) (maxI a97 a97) false _ _ _ (by omega) hR ?_ ?_ ?_ ?_ h
            all_goals simp only [go_sem, *]
          · intro h
            simp only [go_sem, *]
            subst hK
            refine ih n (s98 + 1) (minI s109 a97) (maxI s110 a97) s111 _ _ _ (by omega) hR ?_ ?_ ?_ ?_ h
            all_goals simp only [go_sem, *]
      · intro h; cases h
def Q0_p_spyref3_Fused_Quanta_l1 (a1 : Int) (o7 : List (Int × Int × Bool × Unit)) (u : Int × Int × Bool) (z : Out) : Prop := ∃ env st, z = some (.exit 2, env, st) ∧ env = sp 97 0 [(4, .p (0, 4) (st (0, 4)).ver 0 []), (8, .p (0, 8) (st (0, 8)).ver 0 [])] ∧ Bk (st (0, 4)) 47 [.d (.agg 47 [.int .i64 0, .int .i64 0, .bool false])] ∧ Bk (st (0, 8)) 47 [.d (.agg 47 [.int .i64 u.1, .int .i64 u.2.1, .bool u.2.2])]
abbrev Q_p_spyref3_Fused_Quanta_l1 (a1 : Int) (o7 : List (Int × Int × Bool × Unit)) (o : Int × Int × Bool) (z : Out) : Prop := Q0_p_spyref3_Fused_Quanta_l1 a1 o7 o z
theorem l_p_spyref3_Fused_Quanta_l1 (L : Nat) (hL : L ≤ 4611686018427387904) (a1 : Int) (o7 : List (Int × Int × Bool × Unit)) : ∀ (tl : List (Int × Int × Bool × Unit)) (n : Nat) (s10 : Int) (s51 : Int) (s52 : Int) (s53 : Bool) (env : List V) (st : Store) (o : Int × Int × Bool), tl.length < n → Rng o7 s10 tl → mask (maskOf en51.ms 2) env = sp 97 0 [(1, .d (.int .i64 a1)), (4, .p (0, 4) (st (0, 4)).ver 0 []), (5, gl 47 (0, 28) (st (0, 28)).ver (rowV k47.e o7)), (8, .p (0, 8) (st (0, 8)).ver 0 []), (40, gl 47 (0, 28) (st (0, 28)).ver (rowV k47.e o7)), (41, .d (.int .i64 (o7.length : Int))), (42, .d (.int .i64 s10))] → Bk (st (0, 4)) 47 [.d (.agg 47 [.int .i64 0, .int .i64 0, .bool false])] → Bk (st (0, 8)) 47 [.d (.agg 47 [.int .i64 s51, .int .i64 s52, .bool s53])] → GlB (st (0, 28)) 47 (rowV k47.e o7) → p_spyref3_Fused_Quanta_l1 L a1 o7 tl s51 s52 s53 = some o →
    Q_p_spyref3_Fused_Quanta_l1 a1 o7 o (iter (evC Try.prog (G_spyref3_Fused_Quanta L) (evF Try.prog (G_spyref3_Fused_Quanta L) T_spyref3_Fused_Quanta L 0) L en51.ms 0 2 lb51_2) (maskOf en51.ms 2) n env st) := by
  intro tl
  induction tl with
  | nil =>
    intro n s10 s51 s52 s53 env st o hn hR he hb0 hb1 hb2 h
    obtain ⟨n, rfl⟩ : ∃ m, n = m + 1 := ⟨n - 1, by omega⟩
    obtain ⟨be0, bv0, bl0⟩ := hb0
    obtain ⟨be1, bv1, bl1⟩ := hb1
    have g0 := rng_nil hR
    rw [iter, he]
    clear he
    generalize hK : iter _ _ n = K
    rw [p_spyref3_Fused_Quanta_l1] at h
    revert h
    rintro ⟨⟩
    simp only [go_sem, *]
    refine (⟨_, _, rfl, ?_, ?_, ?_⟩ : Q0_p_spyref3_Fused_Quanta_l1 _ _ _ _)
    all_goals simp only [go_sem, *]
  | cons x9 tl ih =>
    intro n s10 s51 s52 s53 env st o hn hR he hb0 hb1 hb2 h
    obtain ⟨n, rfl⟩ : ∃ m, n = m + 1 := ⟨n - 1, by omega⟩
    obtain ⟨be0, bv0, bl0⟩ := hb0
    obtain ⟨be1, bv1, bl1⟩ := hb1
    replace ih : Hold _ := ih
    replace hR := rng_s hR
    obtain ⟨g0, g1, g2, g3, hR⟩ := hR
    rw [iter, he]
    clear he
    generalize hK : iter _ _ n = K
    rw [p_spyref3_Fused_Quanta_l1] at h
    have gn := gl_ne (f := k47.e) g2
    obtain ⟨gk1, gk2, gk3⟩ := hb2 (row_ne g2)
    revert h
    refine rq_i fun c1 => ?_
    refine bnd_i fun o132 ho2 => ?_
    intro h
    simp only [go_sem, *]
    generalize hz4 : iter _ _ _ _ _ = z3
    have hq5 : Q_p_spyref3_Fused_Quanta_l2 a1 (o7.length : Int) s10 x9.1 x9.2.1 o7 o132 z3 := by
      rw [← hz4]
      refine l_p_spyref3_Fused_Quanta_l2 L hL a1 (o7.length : Int) s10 x9.1 x9.2.1 o7 _ L 0 s51 s52 s53 _ _ _ c1 (cnt_0 (by decide) (by decide)) ?_ ?_ ?_ ?_ ho2
      all_goals simp only [go_sem, *]
    clear hz4 ho2
    obtain ⟨_, st133, rfl, rfl, ⟨k61, k62, k63⟩, ⟨k71, k72, k73⟩, k8⟩ := hq5
    revert h
    intro h
    simp only [go_sem, *]
    subst hK
    refine ih n (s10 + 1) o132.1 o132.2.1 o132.2.2 _ _ _ (by simp only [List.length_cons] at hn; omega) hR ?_ ?_ ?_ ?_ h
    all_goals simp only [go_sem, *]
theorem e_spyref3_Fused_Quanta (L : Nat) (hL : L ≤ 4611686018427387904) (a0 : List (Int × Int × Bool × Unit)) (a1 : Int) (res : Int × Int × Bool) (h : p_spyref3_Fused_Quanta L a0 a1 = some res) : evTop Try.prog (G_spyref3_Fused_Quanta L) T_spyref3_Fused_Quanta L 1 51 [.sl 47 (a0.map k47.e), .int .i64 a1] = some [.agg 47 [.int .i64 res.1, .int .i64 res.2.1, .bool res.2.2]] := by
  revert h
  unfold p_spyref3_Fused_Quanta evTop
  simp only [List.map]
  rw [evF_s (fn := Try.f51) (msk := en51.ms) (hT := by rfl) (hb := by rfl)]
  refine rq_i fun c1 => ?_
  refine bnd_i fun o7 ho2 => ?_
  intro h
  simp only [go_sem, *]
  generalize hz4 : iter _ _ _ _ _ = z3
  have hq5 : Q_p_spyref3_Fused_Quanta_l0 a1 a0 o7 z3 := by
    rw [← hz4]
    refine l_p_spyref3_Fused_Quanta_l0 L hL a1 a0 a0 L 0 ([]) _ _ _ c1 (rng_0 c1 hL) ?_ ?_ ?_ ho2
    all_goals simp only [go_sem, *]
  clear hz4 ho2
  obtain ⟨_, st8, rfl, rfl, ⟨k61, k62, k63⟩, k7⟩ := hq5
  revert h
  refine ite_i (fun c8 => ?_) (fun c8 => ?_)
  · rintro ⟨⟩
    simp only [go_sem, *]
  · refine ite_i (fun c9 => ?_) (fun c9 => ?_)
    · rintro ⟨⟩
      simp only [go_sem, *]
    · refine rq_i fun c10 => ?_
      refine bnd_i fun o134 ho11 => ?_
      intro h
      simp only [go_sem, *]
      generalize hz13 : iter _ _ _ _ _ = z12
      have hq14 : Q_p_spyref3_Fused_Quanta_l1 a1 o7 o134 z12 := by
        rw [← hz13]
        refine l_p_spyref3_Fused_Quanta_l1 L hL a1 o7 o7 L 0 0 0 true _ _ _ c10 (rng_0 c10 hL) ?_ ?_ ?_ ?_ ho11
        all_goals simp only [go_sem, *]
      clear hz13 ho11
      obtain ⟨_, st135, rfl, rfl, ⟨k151, k152, k153⟩, ⟨k161, k162, k163⟩⟩ := hq14
      revert h
      rintro ⟨⟩
      simp only [go_sem, *]
noncomputable def s_spyref3_Fused_Quanta (L : Nat) : Ev.Spec := specP (cCons k40 (cCons (cI .i64) cNil)) (fun x => p_spyref3_Fused_Quanta L x.1 x.2.1) (fun r => [.agg 47 [.int .i64 r.1, .int .i64 r.2.1, .bool r.2.2]])
theorem s_spyref3_Fused_Quanta_run (L : Nat) (a0 : List (Int × Int × Bool × Unit)) (a1 : Int) : (s_spyref3_Fused_Quanta L).run [.sl 47 (a0.map k47.e), .int .i64 a1] = (p_spyref3_Fused_Quanta L a0 a1).map fun r => [.agg 47 [.int .i64 r.1, .int .i64 r.2.1, .bool r.2.2]] := specP_run (cCons k40 (cCons (cI .i64) cNil)) (fun x => p_spyref3_Fused_Quanta L x.1 x.2.1) (fun r => [.agg 47 [.int .i64 r.1, .int .i64 r.2.1, .bool r.2.2]]) (a0, a1, ())
theorem ok_spyref3_Fused_Quanta (L : Nat) (hL : L ≤ 4611686018427387904) : SpecOk Try.prog 51 (s_spyref3_Fused_Quanta L) := specP_ok mixed (Go_spyref3_Fused_Quanta L hL) (To_spyref3_Fused_Quanta L) fun x r h => ⟨L, 1, e_spyref3_Fused_Quanta L hL x.1 x.2.1 r h⟩
end Go.Proofs.Ytnopgienncmcmaa.P
end
section
set_option linter.unusedVariables false
set_option linter.unusedSimpArgs false
namespace Go.Proofs.Ytnopgienncmcmaa.PlBndQuanta
open Go.Ev Go.IntKind Go.Pl Go.Proofs.Ytnopgienncmcmaa.P Go.Proofs.Ytnopgienncmcmaa.PlBndAQuanta
def inB (b : Bd) (v : Int) : Bool := decide (b.1 ≤ v) && decide (v ≤ b.2.1)
theorem has_eq (L : Nat) (a b : Int) (u : Bool) (v : Int) : p_bound_Has_Quanta L a b u v = some (bad (a, b, u, ()) || inB (a, b, u, ()) v) := by
  unfold p_bound_Has_Quanta inB
  rw [vague_eq, bnd_s, Bool.or_self]
  cases bad (a, b, u, ())
  · rw [cb_f]
    simp only [Bool.false_or]
    split
    · rename_i h; rw [decide_eq_true h, Bool.true_and]
    · rename_i h; rw [decide_eq_false h, Bool.false_and]
  · rfl
theorem bad_eq (L : Nat) (a b : Int) (u : Bool) : p_spyref3_Bad_Quanta L a b u = some (bad (a, b, u, ())) := by
  unfold p_spyref3_Bad_Quanta bad
  cases u
  · simp only [cb_f, Bool.false_or]
    split
    · rename_i h; simp [h]
    · rename_i h
      split
      · rename_i h2; simp [h2]
      · rename_i h2; simp [h, h2]
  · rfl
/-! ### votes -/
def votes (v : Int) : List Bd → Nat
  | [] => 0
  | b :: r => (if !bad b && inB b v then 1 else 0) + votes v r
theorem votes_le (v : Int) : ∀ l : List Bd, votes v l ≤ l.length
  | [] => Nat.le_refl 0
  | b :: r => by
    have := votes_le v r
    rw [votes, List.length_cons]
    split <;> omega
theorem votes_l (L : Nat) (v : Int) : ∀ (l : List Bd) (s : Nat), s + l.length < 4611686018427387904 → p_bound_Votes_Quanta_l0 L v l (s : Int) = some ((s + votes v l : Nat) : Int)
  | [], s, _ => rfl
  | b :: r, s, h => by
    rw [List.length_cons] at h
    have e : i64.wrap ((s : Int) + 1) = ((s + 1 : Nat) : Int) := by rw [w64 (by omega)]; rfl
    have h1 := votes_l L v r s (by omega)
    have h2 := votes_l L v r (s + 1) (by omega)
    obtain ⟨x, y, u, q⟩ := b
    rw [p_bound_Votes_Quanta_l0, vague_eq, has_eq, bnd_s, bnd_s, Bool.or_self, votes, e, h1, h2]
    cases bad (x, y, u, ())
    · cases inB (x, y, u, ()) v
      · simp [cb]
      · simp [cb]; omega
    · simp [cb]
theorem votes_eq (L : Nat) (l : List Bd) (v : Int) (h : l.length < L) (hL : L ≤ 4611686018427387904) : p_bound_Votes_Quanta L l v = some (votes v l : Int) := by
  unfold p_bound_Votes_Quanta
  have := votes_l L v l 0 (by omega)
  rw [rq_t h]
  simp only [Int.natCast_zero, Nat.zero_add] at this
  rw [this, bnd_s]
/-! ### the ends -/
def ends : List Bd → List Int
  | [] => []
  | b :: r => if bad b then ends r else b.1 :: b.2.1 :: ends r
def known : List Bd → Nat
  | [] => 0
  | b :: r => (if bad b then 0 else 1) + known r
theorem ends_len : ∀ l : List Bd, (ends l).length = 2 * known l
  | [] => rfl
  | b :: r => by
    have := ends_len r
    rw [ends, known]
    cases bad b <;> simp <;> omega
theorem known_le : ∀ l : List Bd, known l ≤ l.length
  | [] => Nat.le_refl 0
  | b :: r => by
    have := known_le r
    rw [known, List.length_cons]
    cases bad b <;> simp <;> omega
theorem ends_l (L : Nat) : ∀ (l : List Bd) (s : List Int), (s.length + 2 * l.length) * 8 ≤ 140737488355328 → p_bound_Fuse_Quanta_l0 L l s = some (s ++ ends l)
  | [], s, _ => by rw [p_bound_Fuse_Quanta_l0, ends, List.append_nil]
  | b :: r, s, h => by
    rw [List.length_cons] at h
    obtain ⟨x, y, u, q⟩ := b
    rw [p_bound_Fuse_Quanta_l0, vague_eq, bnd_s, Bool.or_self, ends, rq_t (by rw [maxRow_v]; omega), rq_t (by rw [maxRow_v]; omega), ends_l L r s (by omega), ends_l L r _ (by simp; omega)]
    cases bad (x, y, u, ()) <;> simp [cb]
/-! ### least and greatest -/
def foldm (f : Int → Int → Int) : List Int → Int
  | [] => 0
  | x :: r => r.foldl f x
theorem min_l (L : Nat) : ∀ (s p : List Int) (m : Int) (n : Nat), (p ++ s).length < 4611686018427387904 → s.length < n → p_slices_Min_Quanta_l0 L (p ++ s) n m (p.length : Int) = some (s.foldl minI m)
  | [], p, m, n + 1, _, _ => by rw [p_slices_Min_Quanta_l0, if_neg (by simp)]; rfl
  | x :: s, p, m, n + 1, h, hn => by
    have hl : (p ++ x :: s).length = p.length + (s.length + 1) := by simp
    have e : i64.wrap ((p.length : Int) + 1) = ((p ++ [x]).length : Int) := by rw [w64 (by omega)]; simp
    have := min_l L s (p ++ [x]) (minI m x) n (by simp at h ⊢; omega) (by simp at hn; omega)
    rw [p_slices_Min_Quanta_l0, if_pos (by rw [hl]; omega), idx_app, bnd_s, e]
    simpa using this
theorem max_l (L : Nat) : ∀ (s p : List Int) (m : Int) (n : Nat), (p ++ s).length < 4611686018427387904 → s.length < n → p_slices_Max_Quanta_l0 L (p ++ s) n m (p.length : Int) = some (s.foldl maxI m)
  | [], p, m, n + 1, _, _ => by rw [p_slices_Max_Quanta_l0, if_neg (by simp)]; rfl
  | x :: s, p, m, n + 1, h, hn => by
    have hl : (p ++ x :: s).length = p.length + (s.length + 1) := by simp
    have e : i64.wrap ((p.length : Int) + 1) = ((p ++ [x]).length : Int) := by rw [w64 (by omega)]; simp
    have := max_l L s (p ++ [x]) (maxI m x) n (by simp at h ⊢; omega) (by simp at hn; omega)
    rw [p_slices_Max_Quanta_l0, if_pos (by rw [hl]; omega), idx_app, bnd_s, e]
    simpa using this
theorem min_eq (L : Nat) (l : List Int) (h0 : l ≠ []) (h : l.length < L) (hL : L ≤ 4611686018427387904) : p_slices_Min_Quanta L l = some (foldm minI l) := by
  cases l with
  | nil => exact absurd rfl h0
  | cons x r =>
    unfold p_slices_Min_Quanta
    have := min_l L r [x] x L (by simp at h ⊢; omega) (by simp at h; omega)
    rw [if_neg (by simp; omega), idx_z, bnd_s]
    simp only [List.length_cons, List.length_nil, Nat.zero_add, List.cons_append, List.nil_append] at this
    rw [show ((1 : Nat) : Int) = 1 from rfl] at this
    rw [this]; rfl
theorem max_eq (L : Nat) (l : List Int) (h0 : l ≠ []) (h : l.length < L) (hL : L ≤ 4611686018427387904) : p_slices_Max_Quanta L l = some (foldm maxI l) := by
  cases l with
  | nil => exact absurd rfl h0
  | cons x r =>
    unfold p_slices_Max_Quanta
    have := max_l L r [x] x L (by simp at h ⊢; omega) (by simp at h; omega)
    rw [if_neg (by simp; omega), idx_z, bnd_s]
    simp only [List.length_cons, List.length_nil, Nat.zero_add, List.cons_append, List.nil_append] at this
    rw [show ((1 : Nat) : Int) = 1 from rfl] at this
    rw [this]; rfl
end Go.Proofs.Ytnopgienncmcmaa.PlBndQuanta
end
section
set_option linter.unusedVariables false
set_option linter.unusedSimpArgs false
namespace Go.Proofs.Ytnopgienncmcmaa.PlFuseQuanta
open Go.Ev Go.IntKind Go.Pl Go.Proofs.Ytnopgienncmcmaa.P Go.Proofs.Ytnopgienncmcmaa.PlBndQuanta Go.Proofs.Ytnopgienncmcmaa.PlBndAQuanta
def few (l : List Bd) (need v : Int) : Bool := decide ((votes v l : Int) < need)
def keep (l : List Bd) (need v : Int) : Bool := !few l need v
def fuse (l : List Bd) (f : Int) : Int × Int × Bool :=
  if f < 0 ∨ (known l : Int) - f ≤ 0 then none_ else
    if (ends l).filter (keep l (known l - f)) = [] then none_ else
      norm (foldm minI ((ends l).filter (keep l (known l - f)))) (foldm maxI ((ends l).filter (keep l (known l - f)))) false
theorem few_eq (L : Nat) (hL : L ≤ 4611686018427387904) (l : List Bd) (hl : l.length < L) (need x : Int) : p_bound_Fuse_Quanta_1 L x l need = some (decide ((votes x l : Int) < need)) := by unfold p_bound_Fuse_Quanta_1; rw [votes_eq L l x hl hL, bnd_s]
/-! ### the first that is to go -/
theorem idx_l (L : Nat) (hL : L ≤ 4611686018427387904) (l : List Bd) (hl : l.length < L) (need : Int) : ∀ (s p : List Int), (p.filter (keep l need) = p) →
    (p_bound_Fuse_Quanta_l1 L l need (p ++ s) s.length (p.length : Int) = some (.inl ()) ∧ (p ++ s).filter (keep l need) = p ++ s) ∨
    ∃ q x r, p ++ s = q ++ x :: r ∧ q.filter (keep l need) = q ∧ keep l need x = false ∧ p_bound_Fuse_Quanta_l1 L l need (p ++ s) s.length (p.length : Int) = some (.inr (q.length : Int))
  | [], p, hp => .inl ⟨rfl, by simpa using hp⟩
  | x :: s, p, hp => by
    have e : p_bound_Fuse_Quanta_l1 L l need (p ++ x :: s) (x :: s).length (p.length : Int) = if (votes x l : Int) < need then some (.inr (p.length : Int)) else p_bound_Fuse_Quanta_l1 L l need (p ++ x :: s) s.length ((p.length : Int) + 1) := by
      rw [List.length_cons, p_bound_Fuse_Quanta_l1, idx_app, bnd_s, few_eq L hL l hl need x, bnd_s, cb_d]
    by_cases hc : (votes x l : Int) < need
    · rw [if_pos hc] at e
      exact .inr ⟨p, x, s, rfl, hp, by simp [keep, few, hc], e⟩
    · rw [if_neg hc] at e
      have h2 : p ++ x :: s = (p ++ [x]) ++ s := by simp
      have h3 : ((p.length : Int) + 1) = ((p ++ [x]).length : Int) := by simp
      rw [e, h2, h3]
      exact idx_l L hL l hl need s (p ++ [x]) (by rw [List.filter_append, hp]; simp [keep, few, hc])
/-! ### the others go too -/
theorem del_l (L : Nat) (hL : L ≤ 4611686018427387904) (l : List Bd) (hl : l.length < L) (need : Int) : ∀ (s k m : List Int) (n : Nat), m ≠ [] → s.length < n → (k ++ m ++ s).length < 4611686018427387904 →
    ∃ ws : List Int, p_bound_Fuse_Quanta_l2 L l need n (k.length : Int) ((k.length + m.length : Nat) : Int) (k ++ m ++ s) = some (((k ++ s.filter (keep l need)).length : Int), ws) ∧ ws.length = (k ++ m ++ s).length ∧ ws.take (k ++ s.filter (keep l need)).length = k ++ s.filter (keep l need) ∧ (k ++ s.filter (keep l need)).length ≤ ws.length
  | [], k, m, n + 1, hm, _, _ => by
    refine ⟨k ++ m ++ [], ?_, rfl, by simp, by simp⟩
    rw [p_bound_Fuse_Quanta_l2, if_neg (by simp)]; simp
  | x :: s, k, m, n + 1, hm, hn, hb => by
    simp only [List.length_append, List.length_cons] at hb hn
    have e1 : i64.wrap (((k.length + m.length : Nat) : Int) + 1) = ((k.length + (m ++ [x]).length : Nat) : Int) := by rw [w64 (by omega)]; simp; omega
    have e0 : i64.wrap ((k.length : Int) + 1) = (((k ++ [x]).length : Nat) : Int) := by rw [w64 (by omega)]; simp
    have hi : idx (k ++ m ++ x :: s) ((k.length + m.length : Nat) : Int) = some x := by rw [idx_nat]; simp
    have e : p_bound_Fuse_Quanta_l2 L l need (n + 1) (k.length : Int) ((k.length + m.length : Nat) : Int) (k ++ m ++ x :: s) = if (votes x l : Int) < need then p_bound_Fuse_Quanta_l2 L l need n (k.length : Int) ((k.length + (m ++ [x]).length : Nat) : Int) (k ++ m ++ x :: s)
        else bnd (idx (k ++ m ++ x :: s) (k.length : Int)) fun _ => p_bound_Fuse_Quanta_l2 L l need n (((k ++ [x]).length : Nat) : Int) ((k.length + (m ++ [x]).length : Nat) : Int) ((k ++ m ++ x :: s).set k.length x) := by
      rw [p_bound_Fuse_Quanta_l2, if_pos (by simp; omega), hi, bnd_s, few_eq L hL l hl need x, bnd_s, cb_d, e1, e0, Int.toNat_natCast]
    by_cases hc : (votes x l : Int) < need
    · obtain ⟨ws, h1, h2, h3, h4⟩ := del_l L hL l hl need s k (m ++ [x]) n (by simp) (by omega) (by simp; omega)
      have h2' : k ++ m ++ x :: s = k ++ (m ++ [x]) ++ s := by simp
      have hf : (x :: s).filter (keep l need) = s.filter (keep l need) := by rw [List.filter_cons]; simp [keep, few, hc]
      rw [e, if_pos hc, hf, h2']
      exact ⟨ws, h1, h2, h3, h4⟩
    · cases m with
      | nil => exact absurd rfl hm
      | cons y m =>
        obtain ⟨ws, h1, h2, h3, h4⟩ := del_l L hL l hl need s (k ++ [x]) (m ++ [x]) n (by simp) (by omega) (by simp at hb ⊢; omega)
        have h2' : (k ++ y :: m ++ x :: s).set k.length x = (k ++ [x]) ++ (m ++ [x]) ++ s := by simp
        have h5 : (k.length + (y :: m ++ [x]).length : Nat) = ((k ++ [x]).length + (m ++ [x]).length) := by simp; omega
        have hf : k ++ (x :: s).filter (keep l need) = (k ++ [x]) ++ s.filter (keep l need) := by rw [List.filter_cons]; simp [keep, few, hc]
        have h6 : idx (k ++ y :: m ++ x :: s) (k.length : Int) = some y := by rw [idx_nat]; simp
        rw [e, if_neg hc, h6, bnd_s, h2', h5, hf]
        exact ⟨ws, h1, by rw [h2]; simp, h3, h4⟩
theorem fuse_eq (L : Nat) (l : List Bd) (f : Int) (hf : f < 9223372036854775808) (hl : 2 * l.length < L) (hb : l.length ≤ 4398046511104) (hL : L ≤ 4611686018427387904) : p_bound_Fuse_Quanta L l f = some (fuse l f) := by
  have hk := known_le l
  have he := ends_len l
  unfold p_bound_Fuse_Quanta
  rw [rq_t (by omega), ends_l L l [] (by simp; omega), bnd_s, List.nil_append]
  simp only [none_eq, bnd_s]
  by_cases c1 : f < 0
  · rw [if_pos c1]; unfold fuse; rw [if_pos (.inl c1)]
  rw [if_neg c1]
  have hd : i64.wrap (((ends l).length : Int).tdiv 2) = known l := by
    rw [he, Int.tdiv_eq_ediv_of_nonneg (by omega), w64 (by omega)]; omega
  rw [hd, w64 (x := (known l : Int) - f) (by omega)]
  by_cases c2 : (known l : Int) - f ≤ 0
  · rw [if_pos c2]; unfold fuse; rw [if_pos (.inr c2)]
  rw [if_neg c2, rq_t (by omega), rq_t (by omega), Int.toNat_natCast]
  have hfu : fuse l f = if (ends l).filter (keep l (known l - f)) = [] then none_ else norm (foldm minI ((ends l).filter (keep l (known l - f)))) (foldm maxI ((ends l).filter (keep l (known l - f)))) false := by
    unfold fuse; rw [if_neg (by omega)]
  rw [hfu]
  have tail : ∀ K : List Int, K.length < L → (bnd (p_slices_Min_Quanta L K) fun a => bnd (p_slices_Max_Quanta L K) fun b => bnd (p_bound_Of_Quanta L a b) fun r => some (r.1, r.2.1, r.2.2)) = if K = [] then none else some (norm (foldm minI K) (foldm maxI K) false) := by
    intro K hK
    by_cases h0 : K = []
    · subst h0; rw [if_pos rfl]; unfold p_slices_Min_Quanta; rw [if_pos (by simp)]; rfl
    · rw [min_eq L K h0 hK hL, bnd_s, max_eq L K h0 hK hL, bnd_s, of_eq, bnd_s, if_neg h0]
  rcases idx_l L hL l (by omega) (known l - f) (ends l) [] rfl with ⟨h1, h2⟩ | ⟨q, x, r, h0, h1, h2, h3⟩
  · simp only [List.nil_append, List.length_nil, Int.natCast_zero] at h1 h2
    rw [h1, bnd_s]
    simp only [cb_d]
    rw [h2]
    by_cases c3 : ends l = []
    · rw [if_pos c3, c3, if_pos (by simp)]
    · rw [if_neg c3, if_neg (by simp; exact c3), tail _ (by omega), if_neg c3]
  · simp only [List.nil_append, List.length_nil, Int.natCast_zero] at h0 h3
    rw [h3, bnd_s]
    simp only [cb_d]
    have hlen : (ends l).length = q.length + (r.length + 1) := by rw [h0]; simp
    rw [if_neg (by omega), w64 (x := (q.length : Int) + 1) (by omega)]
    obtain ⟨ws, g1, g2, g3, g4⟩ := del_l L hL l (by omega) (known l - f) r q [x] L (by simp) (by omega) (by simp; omega)
    have g0 : q ++ [x] ++ r = ends l := by rw [h0]; simp
    rw [g0] at g1 g2
    rw [show ((q.length : Int) + 1) = ((q.length + [x].length : Nat) : Int) by simp, g1, bnd_s]
    dsimp only
    have hF : (ends l).filter (keep l (known l - f)) = q ++ r.filter (keep l (known l - f)) := by
      rw [h0, List.filter_append, h1, List.filter_cons, h2]; simp
    rw [hF]
    generalize q ++ r.filter (keep l (known l - f)) = K at *
    rw [rq_t (by omega), rq_t (by omega), rq_t (by omega), Int.toNat_natCast, rq_t (by omega)]
    by_cases c3 : K = []
    · rw [if_pos c3, c3]; rfl
    · have hKl : 0 < K.length := List.length_pos_iff.2 c3
      rw [if_neg c3, if_neg (by omega)]
      have ht : ((ws.take K.length) ++ (List.replicate (ws.length - K.length) 0) ++ (ws.drop (K.length + (ws.length - K.length)))).take K.length = K := by
        rw [List.append_assoc, List.take_append_of_le_length (by rw [List.length_take]; omega), List.take_take, Nat.min_self]
        exact g3
      rw [rq_t (by omega)]
      simp only [ht]
      rw [tail _ (by omega), if_neg c3]
end Go.Proofs.Ytnopgienncmcmaa.PlFuseQuanta
namespace Go.Proofs.Ytnopgienncmcmaa.PlFuseQuanta
open Go.Ev Go.IntKind Go.Pl Go.Proofs.Ytnopgienncmcmaa.P Go.Proofs.Ytnopgienncmcmaa.PlBndQuanta Go.Proofs.Ytnopgienncmcmaa.PlBndAQuanta
/-! ### the document's -/
def kn (l : List Bd) : List Bd := l.filter fun b => !bad b
theorem kn_len (l : List Bd) : (kn l).length = known l := by
  induction l with
  | nil => rfl
  | cons b r ih =>
    unfold kn at ih ⊢
    rw [List.filter_cons, known]
    cases bad b <;> simp [ih] <;> omega
theorem ends_kn (l : List Bd) : ends (kn l) = ends l := by
  induction l with
  | nil => rfl
  | cons b r ih =>
    unfold kn at ih ⊢
    rw [List.filter_cons, ends]
    cases hb : bad b
    · simp [ends, hb, ih]
    · simpa using ih
theorem votes_kn (x : Int) (l : List Bd) : votes x (kn l) = votes x l := by
  induction l with
  | nil => rfl
  | cons b r ih =>
    unfold kn at ih ⊢
    rw [List.filter_cons, votes]
    cases hb : bad b
    · simp [votes, hb, ih]
    · simpa using ih
theorem kn_good {l : List Bd} : ∀ b ∈ kn l, bad b = false := by
  intro b hb
  have := (List.mem_filter.1 hb).2
  simpa using this
abbrev Tr := Int × Int × Bool
def step (g : Int → Bool) (o : Tr) (x : Int) : Tr := if g x then (if o.2.2 then (minI x x, maxI x x, false) else (minI o.1 x, maxI o.2.1 x, false)) else o
theorem step_some (g : Int → Bool) : ∀ (e : List Int) (a b : Int), e.foldl (step g) (a, b, false) = ((e.filter g).foldl minI a, (e.filter g).foldl maxI b, false)
  | [], a, b => rfl
  | x :: r, a, b => by
    rw [List.foldl_cons, List.filter_cons, step]
    cases g x
    · simpa using step_some g r a b
    · simpa using step_some g r (minI a x) (maxI b x)
theorem step_none (g : Int → Bool) : ∀ (e : List Int), e.foldl (step g) none_ = if e.filter g = [] then none_ else (foldm minI (e.filter g), foldm maxI (e.filter g), false)
  | [] => rfl
  | x :: r => by
    rw [List.foldl_cons, List.filter_cons, step]
    have hm : minI x x = x ∧ maxI x x = x := by unfold minI maxI; simp
    cases hg : g x
    · simpa using step_none g r
    · have := step_some g r x x
      simp only [none_, if_true, hm.1, hm.2]
      rw [this]
      simp [foldm]
theorem fold_bd : ∀ (e : List Int) (a b : Int), (∀ x ∈ e, -1152921504606846976 ≤ x ∧ x ≤ 1152921504606846976) → -1152921504606846976 ≤ a → a ≤ b → b ≤ 1152921504606846976 → -1152921504606846976 ≤ e.foldl minI a ∧ e.foldl minI a ≤ e.foldl maxI b ∧ e.foldl maxI b ≤ 1152921504606846976
  | [], a, b, _, h1, h2, h3 => ⟨h1, h2, h3⟩
  | x :: r, a, b, he, h1, h2, h3 => by
    have hx := he x (by simp)
    refine fold_bd r (minI a x) (maxI b x) (fun y hy => he y (by simp [hy])) ?_ ?_ ?_ <;> (try unfold minI) <;> (try unfold maxI) <;> (repeat' split) <;> omega
theorem ends_bd : ∀ (l : List Bd), ∀ x ∈ ends l, -1152921504606846976 ≤ x ∧ x ≤ 1152921504606846976
  | [], x, h => by simp [ends] at h
  | b :: r, x, h => by
    rw [ends] at h
    cases hb : bad b with
    | true => rw [hb] at h; exact ends_bd r x h
    | false =>
      rw [hb] at h
      obtain ⟨y, z, u, q⟩ := b
      unfold bad at hb
      simp only [Bool.or_eq_false_iff, decide_eq_false_iff_not] at hb
      simp only [Bool.false_eq_true, if_false, List.mem_cons] at h
      rcases h with rfl | rfl | h
      · omega
      · omega
      · exact ends_bd r x h
def fused (l : List Bd) (f : Int) : Tr := if f < 0 ∨ f ≥ (kn l).length then none_ else (ends (kn l)).foldl (step fun x => !decide ((votes x (kn l) : Int) < (kn l).length - f)) none_
theorem fused_fuse (l : List Bd) (f : Int) : fused l f = fuse l f := by
  unfold fused fuse
  rw [kn_len, ends_kn]
  by_cases c : f < 0 ∨ f ≥ (known l : Int)
  · rw [if_pos c, if_pos (by omega)]
  rw [if_neg c, if_neg (by omega), step_none]
  have hg : (fun x => !decide ((votes x (kn l) : Int) < (known l : Int) - f)) = keep l (known l - f) := by
    funext x
    rw [votes_kn]; rfl
  rw [hg]
  by_cases c2 : (ends l).filter (keep l (known l - f)) = []
  · rw [if_pos c2, if_pos c2]
  rw [if_neg c2, if_neg c2, norm_good]
  have hb : ∀ x ∈ (ends l).filter (keep l (known l - f)), -1152921504606846976 ≤ x ∧ x ≤ 1152921504606846976 := fun x hx => ends_bd l x (List.mem_filter.1 hx).1
  generalize (ends l).filter (keep l (known l - f)) = K at *
  cases K with
  | nil => exact absurd rfl c2
  | cons x r =>
    have hx := hb x (by simp)
    have := fold_bd r x x (fun y hy => hb y (by simp [hy])) hx.1 (Int.le_refl x) hx.2
    unfold foldm bad
    simp only [Bool.false_or, Bool.or_eq_false_iff, decide_eq_false_iff_not]
    omega
theorem kn_l (L : Nat) : ∀ (l s : List Bd), (s.length + l.length) * 24 ≤ 140737488355328 → p_spyref3_Fused_Quanta_l0 L l s = some (s ++ kn l)
  | [], s, _ => by rw [p_spyref3_Fused_Quanta_l0]; simp [kn]
  | b :: r, s, h => by
    rw [List.length_cons] at h
    obtain ⟨x, y, u, q⟩ := b
    rw [p_spyref3_Fused_Quanta_l0, bad_eq, bnd_s, rq_t (by rw [maxRow_v]; omega), rq_t (by rw [maxRow_v]; omega), kn_l L r s (by omega), kn_l L r _ (by simp; omega)]
    unfold kn
    rw [List.filter_cons]
    cases bad (x, y, u, ()) <;> simp [cb]
theorem in_l (L : Nat) (v : Int) : ∀ (l : List Bd) (s : Nat), (∀ b ∈ l, bad b = false) → s + l.length < 4611686018427387904 → p_spyref3_Fused_Quanta_l3 L v l (s : Int) = some ((s + votes v l : Nat) : Int)
  | [], s, _, _ => rfl
  | b :: r, s, hg, h => by
    rw [List.length_cons] at h
    have e : i64.wrap ((s : Int) + 1) = ((s + 1 : Nat) : Int) := by rw [w64 (by omega)]; rfl
    have h1 := in_l L v r s (fun b hb => hg b (by simp [hb])) (by omega)
    have h2 := in_l L v r (s + 1) (fun b hb => hg b (by simp [hb])) (by omega)
    have hb := hg b (by simp)
    rw [p_spyref3_Fused_Quanta_l3, votes, e, h1, h2, hb]
    unfold inB
    by_cases c1 : b.1 ≤ v
    · by_cases c2 : v ≤ b.2.1
      · simp [c1, c2]; omega
      · simp [c1, c2]
    · simp [c1]
theorem l4_l3 (L : Nat) (v : Int) : ∀ (l : List Bd) (s : Int), p_spyref3_Fused_Quanta_l4 L v l s = p_spyref3_Fused_Quanta_l3 L v l s
  | [], s => rfl
  | b :: r, s => by rw [p_spyref3_Fused_Quanta_l4, p_spyref3_Fused_Quanta_l3]; simp only [l4_l3 L v r]
theorem two_l (L : Nat) (hL : L ≤ 4611686018427387904) (f : Int) (hf : 0 ≤ f) (x y : Int) (l : List Bd) (hl : l.length < L) (hg : ∀ b ∈ l, bad b = false) (o : Tr) (hfl : f < l.length) :
    p_spyref3_Fused_Quanta_l2 L f x y l 2 0 o.1 o.2.1 o.2.2 = some (step (fun v => !decide ((votes v l : Int) < l.length - f)) (step (fun v => !decide ((votes v l : Int) < l.length - f)) o x) y) := by
  have h1 := in_l L x l 0 hg (by omega)
  have h2 := in_l L y l 0 hg (by omega)
  rw [Nat.zero_add, Int.natCast_zero] at h1 h2
  have hw : i64.wrap ((l.length : Int) - f) = l.length - f := w64 (by omega)
  obtain ⟨a, b, u⟩ := o
  rw [p_spyref3_Fused_Quanta_l2]
  simp only [cb_d, if_true, rq_t hl, h1, bnd_s, hw, p_spyref3_Fused_Quanta_l2, l4_l3, h2, Int.zero_add, show ¬ (1 : Int) = 0 by decide, if_false]
  unfold step
  by_cases c1 : (votes x l : Int) < l.length - f <;> by_cases c2 : (votes y l : Int) < l.length - f <;> cases u <;> simp [c1, c2, cb]
theorem all_l (L : Nat) (hL : L ≤ 4611686018427387904) (h2L : 2 < L) (f : Int) (hf : 0 ≤ f) (l : List Bd) (hl : l.length < L) (hg : ∀ b ∈ l, bad b = false) (hfl : f < l.length) : ∀ (r : List Bd) (o : Tr), (∀ b ∈ r, bad b = false) →
    p_spyref3_Fused_Quanta_l1 L f l r o.1 o.2.1 o.2.2 = some ((ends r).foldl (step fun v => !decide ((votes v l : Int) < l.length - f)) o)
  | [], o, _ => rfl
  | b :: r, o, hr => by
    rw [p_spyref3_Fused_Quanta_l1, rq_t h2L, two_l L hL f hf b.1 b.2.1 l hl hg o hfl, bnd_s, ends, hr b (by simp)]
    simp only [Bool.false_eq_true, if_false, List.foldl_cons]
    exact all_l L hL h2L f hf l hl hg hfl r _ fun b hb => hr b (by simp [hb])
theorem fused_eq (L : Nat) (l : List Bd) (f : Int) (h2L : 2 < L) (hl : l.length < L) (hb : l.length ≤ 4398046511104) (hL : L ≤ 4611686018427387904) : p_spyref3_Fused_Quanta L l f = some (fuse l f) := by
  rw [← fused_fuse]
  unfold p_spyref3_Fused_Quanta fused
  rw [rq_t hl, kn_l L l [] (by simp; omega), bnd_s, List.nil_append]
  by_cases c1 : f < 0
  · rw [if_pos c1, if_pos (.inl c1)]; rfl
  rw [if_neg c1]
  by_cases c2 : f ≥ ((kn l).length : Int)
  · rw [if_pos c2, if_pos (.inr c2)]; rfl
  have := known_le l
  have hk := kn_len l
  rw [if_neg c2, if_neg (by omega), rq_t (by omega)]
  have := all_l L hL h2L f (by omega) (kn l) (by omega) kn_good (by omega) (kn l) none_ kn_good
  unfold none_ at this
  simp only at this
  rw [this, bnd_s]; rfl
end Go.Proofs.Ytnopgienncmcmaa.PlFuseQuanta
end
section
set_option linter.unusedVariables false
set_option linter.unusedSimpArgs false
set_option maxRecDepth 100000
namespace Go.Proofs.Ytnopgienncmcmaa.E
open Go.Ev
noncomputable def en41 : Entry := ⟨Try.f41, [(0, mb 52 0 [32, 33, 34]), (1000001, mb 52 0 []), (1000002, mb 52 0 [32, 33, 34]), (1000000, mb 52 0 [2])]⟩
theorem mk41_0 (vs : List V) : mask (maskOf en41.ms 0) vs = km 52 0 [32, 33, 34] vs := mask_mb _ _ _ _
theorem mk41_1000001 (vs : List V) : mask (maskOf en41.ms 1000001) vs = km 52 0 [] vs := mask_mb _ _ _ _
theorem mk41_1000002 (vs : List V) : mask (maskOf en41.ms 1000002) vs = km 52 0 [32, 33, 34] vs := mask_mb _ _ _ _
theorem mk41_1000000 (vs : List V) : mask (maskOf en41.ms 1000000) vs = km 52 0 [2] vs := mask_mb _ _ _ _
theorem fz41_0 (lv : Nat) (f : Run) : frzF en41.ms lv 0 f = f := nr rfl
theorem fi41_0 (lv : Nat) (env : List V) (st : Store) (q : Store → Out) : frzI en41.ms lv 0 env st q = q st := nr rfl
noncomputable def lb41_0 : Code := loopN Try.f41 0
end Go.Proofs.Ytnopgienncmcmaa.E
end
section
set_option linter.unusedVariables false
set_option linter.unusedSimpArgs false
set_option maxRecDepth 100000
namespace Go.Proofs.Ytnopgienncmcmaa.P
open Go.Ev Go.IntKind Go.Proofs.Ytnopgienncmcmaa Go.Proofs.Ytnopgienncmcmaa.Ty Go.Proofs.Ytnopgienncmcmaa.E
def p_clean_Check_l0 (L : Nat)  : List (Int × Int × Bool × Unit) → Option (Sum Unit Int)
  | [] => some (.inl ())
  | x1 :: tl => bnd (p_bound_Check_Quanta L x1.1 x1.2.1 x1.2.2.1) fun r4 => cb (decide (r4 = 0)) (if x1.1 < (-1099511627776) then (some (.inr 4)) else (if x1.2.1 > 1099511627776 then (some (.inr 4)) else (p_clean_Check_l0 L  tl))) (some (.inr r4))
def p_clean_Check (L : Nat) (a0_0 : Int) (a0_1 : Int) (a0_2 : List (Int × Int × Bool × Unit)) : Option Int := if (minI a0_0 a0_1) < 1 then (some 3) else (if (maxI a0_0 a0_1) > 32 then (some 3) else (cb (decide ((a0_2.length : Int) = (i64.wrap (a0_0 * a0_1)))) (rq (a0_2.length < L) <| bnd (p_clean_Check_l0 L a0_2) fun o5 => match o5 with | (.inl o5_0) => (some 0) | (.inr o5_1) => (some o5_1)) (some 3)))
attribute [local go_sem] Ev.putR_s Ev.putR_0 Ev.thenO_s Ev.thenO_0 Ev.seqR_n Ev.seqR_e Ev.seqR_r Ev.seqR_0 Ev.blkR_e Ev.blkR_n Ev.blkR_r Ev.blkR_0 Ev.normR_s Ev.normR_0 Ev.outR_r Ev.outR_n Ev.outR_0 Ev.retS_s Ev.retS_0 Ev.pureO_s Ev.pureO_0 Ev.topR_0 Ev.topR_t Ev.topR_t0 Ev.oneL_0 Ev.oneL_s Ev.topR_d Ev.topR_nils Ev.topR_agg Ev.topR_rs Ev.evOp_move Ev.evOp_assign Ev.evOp_pick Ev.evOp_alloc Ev.evOp_box Ev.evOp_build Ev.evOp_buildSlice Ev.evOp_load Ev.evOp_store Ev.evOp_makeMap Ev.evOp_lookup Ev.evOp_mapUpdate Ev.evOp_insert Ev.evOp_nilCheck Ev.evOp_binOp Ev.evOp_unOp Ev.evOp_convert Ev.evOp_makeFunc Ev.evOp_makeSlice Ev.evOp_slice Ev.evOp_fieldAddr Ev.evOp_field Ev.evOp_indexAddr Ev.evOp_index Ev.evOp_extract Ev.evOp_call Ev.evOp_append Ev.evOp_clear Ev.evOp_len Ev.evLen_d Ev.evLen_rs Ev.evLen_nils Ev.evLen_nila Ev.evLen_mp Ev.evOp_min Ev.evOp_max Ev.condR_b Ev.condR_t Ev.evOps_nil Ev.evOps_plain Ev.evOps_guard Ev.runG_eq Ev.skipG_eq Ev.condL_tt Ev.condL_ff Ev.condL_tf Ev.condL_ft Ev.condL_u Ev.condC_t Ev.condC_f Ev.evC_skip Ev.evC_ret Ev.evC_exit Ev.evC_label Ev.evC_region Ev.evC_draw Ev.evC_seq Ev.evC_cond Ev.evC_block Ev.evC_loop Ev.fin_d Ev.fin_nila Ev.fin_nils Ev.fin_agg_ Ev.fin_rs Ev.finS_s Ev.mapO_fin Ev.upd_upd Ev.argv_d Ev.argv_nila Ev.argv_nils Ev.argv_agg Ev.argv_rs Ev.argv_p Ev.fk_low Ev.appendTo_nils Ev.appendTo_nila Ev.appendTo_rs Ev.consV_d Ev.consV_agg Ev.consV_p Ev.consV_rs Ev.consV_nila Ev.consV_nils Ev.consV_fn Ev.consV_und Ev.consV_jk Ev.consV_grown Ev.topR_grown Ev.len_grown Ev.consV_mp Ev.sameK_i Ev.sameK_s Ev.mget_0 Ev.mget_hit Ev.mget_miss Ev.mput_0 Ev.mput_hit Ev.mput_miss Ev.apartAll Ev.apartL Ev.apartV Ev.freeAll Ev.sel Ev.keyOfV Ev.evLookup Ev.evPut Ev.hintOk Ev.keyOk Ev.consP Ev.lookV Ev.guardV Ev.dstAt Ev.evPure Ev.evStore Ev.evBin Ev.evBinO Ev.evNil Ev.isNilC Ev.evUn Ev.evConv Ev.evSlice Ev.optI Ev.foldI Ev.capsOk Ev.noTup Ev.nth Ev.setN Ev.killAt Ev.pad Ev.V.get Ev.V.put Ev.putD Ev.newBlk Ev.upd Ev.keq Ev.empty Ev.evCall Ev.V.args Ev.argP Ev.callOf Ev.evNilP Ev.isNilP Ev.look Ev.V.view.views Ev.V.view Ev.V.toD Ev.V.toD.V.toDs Ev.V.pure.pures Ev.V.pure Ev.D.flat.flats Ev.D.flat Ev.mkAgg Ev.allD Ev.aggParts Ev.setParts Ev.setElems Ev.getPath Ev.setPath Ev.subL Ev.eqD Ev.eqD.eqDs Ev.and2 Ev.strCut Ev.evalT Ev.constT Ev.evArgs Ev.mask Ev.maskOf Ev.tableOf Ev.compT Ev.resV Ev.retV Ev.mapO Ev.hT_nila Ev.eO_nila Ev.pL_nila Ev.evLen_gl Ev.r_nila Ev.frzO_n Ev.frzO_e Ev.frzO_r Ev.frzO_0 Ev.mb_z Ev.mb_0 Ev.mb_s Ev.frzL_t Ev.frzL_f Ev.frzL_0 Ev.frzT_nils Ev.frzT_rs Ev.frzT_p Ev.frzK_i Ev.keyIn_i Ev.rI_nil Ev.rI_cons Ev.rI_row Ev.rI_app Ev.r_d Ev.r_nils Ev.r_agg Ev.r_rs Ev.r_gl Ev.vw_row Ev.vw_app Ev.appO_s Ev.frzT_gl Ev.allD_gl Ev.killAt_i Ev.tkOne_i Ev.hT_agg Ev.hT_vagg Ev.hT_int Ev.hT_bool Ev.hT_str Ev.hT_sl Ev.hT_ptr Ev.hT_np Ev.hT_p Ev.hT_rs Ev.hT_mp Ev.hT_nils Ev.hT_fn Ev.hT_jk Ev.hT_gl Ev.eO_sl Ev.eO_nils Ev.eO_rs Ev.eT_sl Ev.eT_rs Ev.pL_str Ev.pL_sl Ev.pL_rs Ev.pL_nils Ev.pL_min Ev.pL_max Ev.len_glB Ev.noTup_gl Ev.rowV_len Ev.rowV_nil Ev.rowV_cons Ev.rowV_append Ev.rowV_set Ev.rowV_replicate Ev.nth_row Ev.row_take Ev.row_drop Ev.toDs_row Ev.fin_row Ev.map_row Ev.map_take_ Ev.map_drop_ Ev.Bk_i Ev.GlB_0 Ev.GlB_mk Ev.gl_nil Ev.gl_cons Ev.gl_snoc Ev.gl_setN Ev.appendTo_gl Ev.consV_gl Ev.elems_gl Ev.fin_gl Ev.view_gl Ev.argv_gl Ev.topR_gl Ev.sp_z Ev.sp_0 Ev.sp_s Ev.km_z Ev.km_0 Ev.km_s Ev.beq_toList Ev.nc0 Ev.bq_t Ev.bq_f Ev.bodyN Ev.le_maxRow Int.cast_ofNat_Int IntWalk.i64_in IntWalk.u64_in IntWalk.u8_in beq_self_eq_true Bool.true_beq Bool.false_beq Bool.and_true Bool.true_and Bool.false_and Bool.and_false Bool.and_self Bool.not_true Bool.not_false Bool.not_eq_true cond_true cond_false if_true if_false and_true true_and and_self decide_true decide_false Bool.or_true Bool.true_or Bool.or_false Bool.false_or List.isEmpty List.isEmpty_nil List.size_toArray List.map List.length_map List.length_cons List.length_nil Option.map Option.bind Option.getD Option.isSome List.replicate Bool.false_eq_true implies_true false_implies forall_const Array.toList Array.isEmpty List.append List.nil_append List.cons_append List.drop_zero List.take_length List.take_succ_cons List.take_zero List.take_nil List.getElem?_map List.getElem?_cons_zero List.getElem?_cons_succ List.getElem?_nil List.append_nil eq_self Int.toNat_natCast List.length_append Nat.zero_add Nat.add_zero List.length_replicate Nat.sub_zero Option.map_some Option.map_none Int.le_refl Nat.le_refl Int.natCast_nonneg List.map_append
attribute [local go_sem_proc] Nat.reduceAdd Nat.reduceSub Nat.reduceMul Nat.reduceEqDiff Nat.reduceBEq Nat.reduceLT Nat.reduceLeDiff Nat.reducePow Int.reduceToNat Int.reduceLT Int.reduceLE Int.reduceGT Int.reduceGE Int.reduceEq Int.reduceNeg Int.reduceAdd Int.reduceSub Int.reduceMul reduceCtorEq
attribute [local go_sem_proc ↓] reduceIte
noncomputable def G_clean_Check (L : Nat) : Specs := [(49, s_bound_Check_Quanta L)]
noncomputable def T_clean_Check : Table := tableOf [(41, en41)]
theorem Go_clean_Check (L : Nat) (hL : L ≤ 4611686018427387904) : ∀ g s, Ev.look (G_clean_Check L) g = some s → SpecOk Try.prog g s := (specs_cons (ok_bound_Check_Quanta L hL) specs_nil)
theorem To_clean_Check (L : Nat) : TableOk Try.prog ((G_clean_Check L).map (·.1)) T_clean_Check := (table_cons Try.func41 (by kernel_rfl) (by kernel_rfl) table_nil)
theorem lk_clean_Check_49 (L : Nat) : Ev.look (G_clean_Check L) 49 = some (s_bound_Check_Quanta L) := nr rfl
attribute [local go_sem] Ty.tk3 Ty.ik3 Ty.ek3 Ty.zv3 Ty.by3 Ty.so3 Ty.tk4 Ty.ub4 Ty.ek4 Ty.zv4 Ty.by4 Ty.so4 Ty.tk24 Ty.ik24 Ty.ek24 Ty.zv24 Ty.by24 Ty.so24 Ty.tk40 Ty.zv40 Ty.by40 Ty.so40 Ty.tk42 Ty.ct42 Ty.zv42 Ty.by42 Ty.so42 Ty.tk45 Ty.ik45 Ty.ek45 Ty.zv45 Ty.by45 Ty.so45 Ty.tk47 Ty.ct47 Ty.ek47 Ty.zv47 Ty.by47 Ty.so47 Ty.k40_e Ty.k42_e Ty.k47_e E.mk41_0 E.mk41_1000001 E.mk41_1000002 E.mk41_1000000 E.fz41_0 E.fi41_0 E.lb41_0 lk_clean_Check_49 s_bound_Check_Quanta_run loopN loops Try.f41
def Q0_p_clean_Check_l0 (a0_2 : List (Int × Int × Bool × Unit)) (u : Unit) (z : Out) : Prop := ∃ env st, z = some (.exit 0, env, st) ∧ env = sp 52 0 []
def Q1_p_clean_Check_l0 (a0_2 : List (Int × Int × Bool × Unit)) (u : Int) (z : Out) : Prop := ∃ env st, z = some (.ret, env, st) ∧ env = sp 52 0 [(2, .d (.int .i64 u))]
def Q_p_clean_Check_l0 (a0_2 : List (Int × Int × Bool × Unit)) (o : Sum Unit Int) (z : Out) : Prop := match o with | (.inl u) => Q0_p_clean_Check_l0 a0_2 u z | (.inr u) => Q1_p_clean_Check_l0 a0_2 u z
theorem l_p_clean_Check_l0 (L : Nat) (hL : L ≤ 4611686018427387904) (a0_2 : List (Int × Int × Bool × Unit)) : ∀ (tl : List (Int × Int × Bool × Unit)) (n : Nat) (s2 : Int) (env : List V) (st : Store) (o : Sum Unit Int), tl.length < n → Rng a0_2 s2 tl → mask (maskOf en41.ms 0) env = sp 52 0 [(32, .d (.sl 47 (a0_2.map k47.e))), (33, .d (.int .i64 (a0_2.length : Int))), (34, .d (.int .i64 s2))] → p_clean_Check_l0 L  tl  = some o →
    Q_p_clean_Check_l0 a0_2 o (iter (evC Try.prog (G_clean_Check L) (evF Try.prog (G_clean_Check L) T_clean_Check L 0) L en41.ms 0 0 lb41_0) (maskOf en41.ms 0) n env st) := by
  intro tl
  induction tl with
  | nil =>
    intro n s2  env st o hn hR he  h
    obtain ⟨n, rfl⟩ : ∃ m, n = m + 1 := ⟨n - 1, by omega⟩
    have g0 := rng_nil hR
    rw [iter, he]
    clear he
    generalize hK : iter _ _ n = K
    rw [p_clean_Check_l0] at h
    revert h
    rintro ⟨⟩
    simp only [go_sem, *]
    refine (⟨_, _, rfl, ?_⟩ : Q0_p_clean_Check_l0 _ _ _)
    all_goals simp only [go_sem, *]
  | cons x1 tl ih =>
    intro n s2  env st o hn hR he  h
    obtain ⟨n, rfl⟩ : ∃ m, n = m + 1 := ⟨n - 1, by omega⟩
    replace ih : Hold _ := ih
    replace hR := rng_s hR
    obtain ⟨g0, g1, g2, g3, hR⟩ := hR
    rw [iter, he]
    clear he
    generalize hK : iter _ _ n = K
    rw [p_clean_Check_l0] at h
    revert h
    refine bnd_i fun r4 c1 => ?_
    refine cb_i (fun c2 => ?_) (fun c2 => ?_)
    · refine ite_i (fun c3 => ?_) (fun c3 => ?_)
      · rintro ⟨⟩
        simp only [go_sem, *]
        refine (⟨_, _, rfl, ?_⟩ : Q1_p_clean_Check_l0 _ _ _)
        all_goals simp only [go_sem, *]
      · refine ite_i (fun c4 => ?_) (fun c4 => ?_)
        · rintro ⟨⟩
          simp only [go_sem, *]
          refine (⟨_, _, rfl, ?_⟩ : Q1_p_clean_Check_l0 _ _ _)
          all_goals simp only [go_sem, *]
        · intro h
          simp only [go_sem, *]
          subst hK
          refine ih n (s2 + 1)  _ _ _ (by simp only [List.length_cons] at hn; omega) hR ?_ h
          all_goals simp only [go_sem, *]
    · rintro ⟨⟩
      simp only [go_sem, *]
      refine (⟨_, _, rfl, ?_⟩ : Q1_p_clean_Check_l0 _ _ _)
      all_goals simp only [go_sem, *]
theorem e_clean_Check (L : Nat) (hL : L ≤ 4611686018427387904) (a0_0 : Int) (a0_1 : Int) (a0_2 : List (Int × Int × Bool × Unit)) (res : Int) (h : p_clean_Check L a0_0 a0_1 a0_2 = some res) : evTop Try.prog (G_clean_Check L) T_clean_Check L 1 41 [.agg 42 [.int .i64 a0_0, .int .i64 a0_1, .sl 47 (a0_2.map k47.e)]] = some [.int .i64 res] := by
  revert h
  unfold p_clean_Check evTop
  simp only [List.map]
  rw [evF_s (fn := Try.f41) (msk := en41.ms) (hT := by rfl) (hb := by rfl)]
  refine ite_i (fun c1 => ?_) (fun c1 => ?_)
  · rintro ⟨⟩
    simp only [go_sem, *]
  · refine ite_i (fun c2 => ?_) (fun c2 => ?_)
    · rintro ⟨⟩
      simp only [go_sem, *]
    · refine cb_i (fun c3 => ?_) (fun c3 => ?_)
      · refine rq_i fun c4 => ?_
        refine bnd_i fun o5 ho5 => ?_
        intro h
        simp only [go_sem, *]
        generalize hz7 : iter _ _ _ _ _ = z6
        have hq8 : Q_p_clean_Check_l0 a0_2 o5 z6 := by
          rw [← hz7]
          refine l_p_clean_Check_l0 L hL a0_2 a0_2 L 0  _ _ _ c4 (rng_0 c4 hL) ?_ ho5
          all_goals simp only [go_sem, *]
        clear hz7 ho5
        rcases o5 with o5_0 | o5_1
        · obtain ⟨_, st6, rfl, rfl⟩ := hq8
          dsimp only at h
          revert h
          rintro ⟨⟩
          simp only [go_sem, *]
        · obtain ⟨_, st7, rfl, rfl⟩ := hq8
          dsimp only at h
          revert h
          rintro ⟨⟩
          simp only [go_sem, *]
      · rintro ⟨⟩
        simp only [go_sem, *]
noncomputable def s_clean_Check (L : Nat) : Ev.Spec := specP (cCons k42 cNil) (fun x => p_clean_Check L x.1.1 x.1.2.1 x.1.2.2.1) (fun r => [.int .i64 r])
theorem s_clean_Check_run (L : Nat) (a0_0 : Int) (a0_1 : Int) (a0_2 : List (Int × Int × Bool × Unit)) : (s_clean_Check L).run [.agg 42 [.int .i64 a0_0, .int .i64 a0_1, .sl 47 (a0_2.map k47.e)]] = (p_clean_Check L a0_0 a0_1 a0_2).map fun r => [.int .i64 r] := specP_run (cCons k42 cNil) (fun x => p_clean_Check L x.1.1 x.1.2.1 x.1.2.2.1) (fun r => [.int .i64 r]) ((a0_0, a0_1, a0_2, ()), ())
theorem ok_clean_Check (L : Nat) (hL : L ≤ 4611686018427387904) : SpecOk Try.prog 41 (s_clean_Check L) := specP_ok mixed (Go_clean_Check L hL) (To_clean_Check L) fun x r h => ⟨L, 1, e_clean_Check L hL x.1.1 x.1.2.1 x.1.2.2.1 r h⟩
end Go.Proofs.Ytnopgienncmcmaa.P
end
section
set_option linter.unusedVariables false
set_option linter.unusedSimpArgs false
set_option maxRecDepth 100000
namespace Go.Proofs.Ytnopgienncmcmaa.E
open Go.Ev
noncomputable def en30 : Entry := ⟨Try.f30, [(0, mb 48 0 [36, 37, 38]), (1000001, mb 48 0 []), (1000002, mb 48 0 [36, 37, 38]), (1000000, mb 48 0 [2])]⟩
theorem mk30_0 (vs : List V) : mask (maskOf en30.ms 0) vs = km 48 0 [36, 37, 38] vs := mask_mb _ _ _ _
theorem mk30_1000001 (vs : List V) : mask (maskOf en30.ms 1000001) vs = km 48 0 [] vs := mask_mb _ _ _ _
theorem mk30_1000002 (vs : List V) : mask (maskOf en30.ms 1000002) vs = km 48 0 [36, 37, 38] vs := mask_mb _ _ _ _
theorem mk30_1000000 (vs : List V) : mask (maskOf en30.ms 1000000) vs = km 48 0 [2] vs := mask_mb _ _ _ _
theorem fz30_0 (lv : Nat) (f : Run) : frzF en30.ms lv 0 f = f := nr rfl
theorem fi30_0 (lv : Nat) (env : List V) (st : Store) (q : Store → Out) : frzI en30.ms lv 0 env st q = q st := nr rfl
noncomputable def lb30_0 : Code := loopN Try.f30 0
end Go.Proofs.Ytnopgienncmcmaa.E
end
section
set_option linter.unusedVariables false
set_option linter.unusedSimpArgs false
set_option maxRecDepth 100000
namespace Go.Proofs.Ytnopgienncmcmaa.P
open Go.Ev Go.IntKind Go.Proofs.Ytnopgienncmcmaa Go.Proofs.Ytnopgienncmcmaa.Ty Go.Proofs.Ytnopgienncmcmaa.E
def p_spyref3_FieldFault_l0 (L : Nat)  : List (Int × Int × Bool × Unit) → Option (Sum Unit Int)
  | [] => some (.inl ())
  | x1 :: tl => bnd (p_spyref3_BoundFault_Quanta L x1.1 x1.2.1 x1.2.2.1 (-1099511627776) 1099511627776) fun r4 => cb (decide (r4 = 0)) (p_spyref3_FieldFault_l0 L  tl) (some (.inr r4))
def p_spyref3_FieldFault (L : Nat) (a0_0 : Int) (a0_1 : Int) (a0_2 : List (Int × Int × Bool × Unit)) : Option Int := if a0_0 < 1 then (some 3) else (if a0_0 > 32 then (some 3) else (if a0_1 < 1 then (some 3) else (if a0_1 > 32 then (some 3) else (cb (decide ((a0_2.length : Int) = (i64.wrap (a0_0 * a0_1)))) (rq (a0_2.length < L) <| bnd (p_spyref3_FieldFault_l0 L a0_2) fun o5 => match o5 with | (.inl o5_0) => (some 0) | (.inr o5_1) => (some o5_1)) (some 3)))))
attribute [local go_sem] Ev.putR_s Ev.putR_0 Ev.thenO_s Ev.thenO_0 Ev.seqR_n Ev.seqR_e Ev.seqR_r Ev.seqR_0 Ev.blkR_e Ev.blkR_n Ev.blkR_r Ev.blkR_0 Ev.normR_s Ev.normR_0 Ev.outR_r Ev.outR_n Ev.outR_0 Ev.retS_s Ev.retS_0 Ev.pureO_s Ev.pureO_0 Ev.topR_0 Ev.topR_t Ev.topR_t0 Ev.oneL_0 Ev.oneL_s Ev.topR_d Ev.topR_nils Ev.topR_agg Ev.topR_rs Ev.evOp_move Ev.evOp_assign Ev.evOp_pick Ev.evOp_alloc Ev.evOp_box Ev.evOp_build Ev.evOp_buildSlice Ev.evOp_load Ev.evOp_store Ev.evOp_makeMap Ev.evOp_lookup Ev.evOp_mapUpdate Ev.evOp_insert Ev.evOp_nilCheck Ev.evOp_binOp Ev.evOp_unOp Ev.evOp_convert Ev.evOp_makeFunc Ev.evOp_makeSlice Ev.evOp_slice Ev.evOp_fieldAddr Ev.evOp_field Ev.evOp_indexAddr Ev.evOp_index Ev.evOp_extract Ev.evOp_call Ev.evOp_append Ev.evOp_clear Ev.evOp_len Ev.evLen_d Ev.evLen_rs Ev.evLen_nils Ev.evLen_nila Ev.evLen_mp Ev.evOp_min Ev.evOp_max Ev.condR_b Ev.condR_t Ev.evOps_nil Ev.evOps_plain Ev.evOps_guard Ev.runG_eq Ev.skipG_eq Ev.condL_tt Ev.condL_ff Ev.condL_tf Ev.condL_ft Ev.condL_u Ev.condC_t Ev.condC_f Ev.evC_skip Ev.evC_ret Ev.evC_exit Ev.evC_label Ev.evC_region Ev.evC_draw Ev.evC_seq Ev.evC_cond Ev.evC_block Ev.evC_loop Ev.fin_d Ev.fin_nila Ev.fin_nils Ev.fin_agg_ Ev.fin_rs Ev.finS_s Ev.mapO_fin Ev.upd_upd Ev.argv_d Ev.argv_nila Ev.argv_nils Ev.argv_agg Ev.argv_rs Ev.argv_p Ev.fk_low Ev.appendTo_nils Ev.appendTo_nila Ev.appendTo_rs Ev.consV_d Ev.consV_agg Ev.consV_p Ev.consV_rs Ev.consV_nila Ev.consV_nils Ev.consV_fn Ev.consV_und Ev.consV_jk Ev.consV_grown Ev.topR_grown Ev.len_grown Ev.consV_mp Ev.sameK_i Ev.sameK_s Ev.mget_0 Ev.mget_hit Ev.mget_miss Ev.mput_0 Ev.mput_hit Ev.mput_miss Ev.apartAll Ev.apartL Ev.apartV Ev.freeAll Ev.sel Ev.keyOfV Ev.evLookup Ev.evPut Ev.hintOk Ev.keyOk Ev.consP Ev.lookV Ev.guardV Ev.dstAt Ev.evPure Ev.evStore Ev.evBin Ev.evBinO Ev.evNil Ev.isNilC Ev.evUn Ev.evConv Ev.evSlice Ev.optI Ev.foldI Ev.capsOk Ev.noTup Ev.nth Ev.setN Ev.killAt Ev.pad Ev.V.get Ev.V.put Ev.putD Ev.newBlk Ev.upd Ev.keq Ev.empty Ev.evCall Ev.V.args Ev.argP Ev.callOf Ev.evNilP Ev.isNilP Ev.look Ev.V.view.views Ev.V.view Ev.V.toD Ev.V.toD.V.toDs Ev.V.pure.pures Ev.V.pure Ev.D.flat.flats Ev.D.flat Ev.mkAgg Ev.allD Ev.aggParts Ev.setParts Ev.setElems Ev.getPath Ev.setPath Ev.subL Ev.eqD Ev.eqD.eqDs Ev.and2 Ev.strCut Ev.evalT Ev.constT Ev.evArgs Ev.mask Ev.maskOf Ev.tableOf Ev.compT Ev.resV Ev.retV Ev.mapO Ev.hT_nila Ev.eO_nila Ev.pL_nila Ev.evLen_gl Ev.r_nila Ev.frzO_n Ev.frzO_e Ev.frzO_r Ev.frzO_0 Ev.mb_z Ev.mb_0 Ev.mb_s Ev.frzL_t Ev.frzL_f Ev.frzL_0 Ev.frzT_nils Ev.frzT_rs Ev.frzT_p Ev.frzK_i Ev.keyIn_i Ev.rI_nil Ev.rI_cons Ev.rI_row Ev.rI_app Ev.r_d Ev.r_nils Ev.r_agg Ev.r_rs Ev.r_gl Ev.vw_row Ev.vw_app Ev.appO_s Ev.frzT_gl Ev.allD_gl Ev.killAt_i Ev.tkOne_i Ev.hT_agg Ev.hT_vagg Ev.hT_int Ev.hT_bool Ev.hT_str Ev.hT_sl Ev.hT_ptr Ev.hT_np Ev.hT_p Ev.hT_rs Ev.hT_mp Ev.hT_nils Ev.hT_fn Ev.hT_jk Ev.hT_gl Ev.eO_sl Ev.eO_nils Ev.eO_rs Ev.eT_sl Ev.eT_rs Ev.pL_str Ev.pL_sl Ev.pL_rs Ev.pL_nils Ev.pL_min Ev.pL_max Ev.len_glB Ev.noTup_gl Ev.rowV_len Ev.rowV_nil Ev.rowV_cons Ev.rowV_append Ev.rowV_set Ev.rowV_replicate Ev.nth_row Ev.row_take Ev.row_drop Ev.toDs_row Ev.fin_row Ev.map_row Ev.map_take_ Ev.map_drop_ Ev.Bk_i Ev.GlB_0 Ev.GlB_mk Ev.gl_nil Ev.gl_cons Ev.gl_snoc Ev.gl_setN Ev.appendTo_gl Ev.consV_gl Ev.elems_gl Ev.fin_gl Ev.view_gl Ev.argv_gl Ev.topR_gl Ev.sp_z Ev.sp_0 Ev.sp_s Ev.km_z Ev.km_0 Ev.km_s Ev.beq_toList Ev.nc0 Ev.bq_t Ev.bq_f Ev.bodyN Ev.le_maxRow Int.cast_ofNat_Int IntWalk.i64_in IntWalk.u64_in IntWalk.u8_in beq_self_eq_true Bool.true_beq Bool.false_beq Bool.and_true Bool.true_and Bool.false_and Bool.and_false Bool.and_self Bool.not_true Bool.not_false Bool.not_eq_true cond_true cond_false if_true if_false and_true true_and and_self decide_true decide_false Bool.or_true Bool.true_or Bool.or_false Bool.false_or List.isEmpty List.isEmpty_nil List.size_toArray List.map List.length_map List.length_cons List.length_nil Option.map Option.bind Option.getD Option.isSome List.replicate Bool.false_eq_true implies_true false_implies forall_const Array.toList Array.isEmpty List.append List.nil_append List.cons_append List.drop_zero List.take_length List.take_succ_cons List.take_zero List.take_nil List.getElem?_map List.getElem?_cons_zero List.getElem?_cons_succ List.getElem?_nil List.append_nil eq_self Int.toNat_natCast List.length_append Nat.zero_add Nat.add_zero List.length_replicate Nat.sub_zero Option.map_some Option.map_none Int.le_refl Nat.le_refl Int.natCast_nonneg List.map_append
attribute [local go_sem_proc] Nat.reduceAdd Nat.reduceSub Nat.reduceMul Nat.reduceEqDiff Nat.reduceBEq Nat.reduceLT Nat.reduceLeDiff Nat.reducePow Int.reduceToNat Int.reduceLT Int.reduceLE Int.reduceGT Int.reduceGE Int.reduceEq Int.reduceNeg Int.reduceAdd Int.reduceSub Int.reduceMul reduceCtorEq
attribute [local go_sem_proc ↓] reduceIte
noncomputable def G_spyref3_FieldFault (L : Nat) : Specs := [(50, s_spyref3_BoundFault_Quanta L)]
noncomputable def T_spyref3_FieldFault : Table := tableOf [(30, en30)]
theorem Go_spyref3_FieldFault (L : Nat) (hL : L ≤ 4611686018427387904) : ∀ g s, Ev.look (G_spyref3_FieldFault L) g = some s → SpecOk Try.prog g s := (specs_cons (ok_spyref3_BoundFault_Quanta L hL) specs_nil)
theorem To_spyref3_FieldFault (L : Nat) : TableOk Try.prog ((G_spyref3_FieldFault L).map (·.1)) T_spyref3_FieldFault := (table_cons Try.func30 (by kernel_rfl) (by kernel_rfl) table_nil)
theorem lk_spyref3_FieldFault_50 (L : Nat) : Ev.look (G_spyref3_FieldFault L) 50 = some (s_spyref3_BoundFault_Quanta L) := nr rfl
attribute [local go_sem] Ty.tk3 Ty.ik3 Ty.ek3 Ty.zv3 Ty.by3 Ty.so3 Ty.tk4 Ty.ub4 Ty.ek4 Ty.zv4 Ty.by4 Ty.so4 Ty.tk24 Ty.ik24 Ty.ek24 Ty.zv24 Ty.by24 Ty.so24 Ty.tk40 Ty.zv40 Ty.by40 Ty.so40 Ty.tk42 Ty.ct42 Ty.zv42 Ty.by42 Ty.so42 Ty.tk45 Ty.ik45 Ty.ek45 Ty.zv45 Ty.by45 Ty.so45 Ty.tk47 Ty.ct47 Ty.ek47 Ty.zv47 Ty.by47 Ty.so47 Ty.k40_e Ty.k42_e Ty.k47_e E.mk30_0 E.mk30_1000001 E.mk30_1000002 E.mk30_1000000 E.fz30_0 E.fi30_0 E.lb30_0 lk_spyref3_FieldFault_50 s_spyref3_BoundFault_Quanta_run loopN loops Try.f30
def Q0_p_spyref3_FieldFault_l0 (a0_2 : List (Int × Int × Bool × Unit)) (u : Unit) (z : Out) : Prop := ∃ env st, z = some (.exit 0, env, st) ∧ env = sp 48 0 []
def Q1_p_spyref3_FieldFault_l0 (a0_2 : List (Int × Int × Bool × Unit)) (u : Int) (z : Out) : Prop := ∃ env st, z = some (.ret, env, st) ∧ env = sp 48 0 [(2, .d (.int .i64 u))]
def Q_p_spyref3_FieldFault_l0 (a0_2 : List (Int × Int × Bool × Unit)) (o : Sum Unit Int) (z : Out) : Prop := match o with | (.inl u) => Q0_p_spyref3_FieldFault_l0 a0_2 u z | (.inr u) => Q1_p_spyref3_FieldFault_l0 a0_2 u z
theorem l_p_spyref3_FieldFault_l0 (L : Nat) (hL : L ≤ 4611686018427387904) (a0_2 : List (Int × Int × Bool × Unit)) : ∀ (tl : List (Int × Int × Bool × Unit)) (n : Nat) (s2 : Int) (env : List V) (st : Store) (o : Sum Unit Int), tl.length < n → Rng a0_2 s2 tl → mask (maskOf en30.ms 0) env = sp 48 0 [(36, .d (.sl 47 (a0_2.map k47.e))), (37, .d (.int .i64 (a0_2.length : Int))), (38, .d (.int .i64 s2))] → p_spyref3_FieldFault_l0 L  tl  = some o →
    Q_p_spyref3_FieldFault_l0 a0_2 o (iter (evC Try.prog (G_spyref3_FieldFault L) (evF Try.prog (G_spyref3_FieldFault L) T_spyref3_FieldFault L 0) L en30.ms 0 0 lb30_0) (maskOf en30.ms 0) n env st) := by
  intro tl
  induction tl with
  | nil =>
    intro n s2  env st o hn hR he  h
    obtain ⟨n, rfl⟩ : ∃ m, n = m + 1 := ⟨n - 1, by omega⟩
    have g0 := rng_nil hR
    rw [iter, he]
    clear he
    generalize hK : iter _ _ n = K
    rw [p_spyref3_FieldFault_l0] at h
    revert h
    rintro ⟨⟩
    simp only [go_sem, *]
    refine (⟨_, _, rfl, ?_⟩ : Q0_p_spyref3_FieldFault_l0 _ _ _)
    all_goals simp only [go_sem, *]
  | cons x1 tl ih =>
    intro n s2  env st o hn hR he  h
    obtain ⟨n, rfl⟩ : ∃ m, n = m + 1 := ⟨n - 1, by omega⟩
    replace ih : Hold _ := ih
    replace hR := rng_s hR
    obtain ⟨g0, g1, g2, g3, hR⟩ := hR
    rw [iter, he]
    clear he
    generalize hK : iter _ _ n = K
    rw [p_spyref3_FieldFault_l0] at h
    revert h
    refine bnd_i fun r4 c1 => ?_
    refine cb_i (fun c2 => ?_) (fun c2 => ?_)
    · intro h
      simp only [go_sem, *]
      subst hK
      refine ih n (s2 + 1)  _ _ _ (by simp only [List.length_cons] at hn; omega) hR ?_ h
      all_goals simp only [go_sem, *]
    · rintro ⟨⟩
      simp only [go_sem, *]
      refine (⟨_, _, rfl, ?_⟩ : Q1_p_spyref3_FieldFault_l0 _ _ _)
      all_goals simp only [go_sem, *]
theorem e_spyref3_FieldFault (L : Nat) (hL : L ≤ 4611686018427387904) (a0_0 : Int) (a0_1 : Int) (a0_2 : List (Int × Int × Bool × Unit)) (res : Int) (h : p_spyref3_FieldFault L a0_0 a0_1 a0_2 = some res) : evTop Try.prog (G_spyref3_FieldFault L) T_spyref3_FieldFault L 1 30 [.agg 42 [.int .i64 a0_0, .int .i64 a0_1, .sl 47 (a0_2.map k47.e)]] = some [.int .i64 res] := by
  revert h
  unfold p_spyref3_FieldFault evTop
  simp only [List.map]
  rw [evF_s (fn := Try.f30) (msk := en30.ms) (hT := by rfl) (hb := by rfl)]
  refine ite_i (fun c1 => ?_) (fun c1 => ?_)
  · rintro ⟨⟩
    simp only [go_sem, *]
  · refine ite_i (fun c2 => ?_) (fun c2 => ?_)
    · rintro ⟨⟩
      simp only [go_sem, *]
    · refine ite_i (fun c3 => ?_) (fun c3 => ?_)
      · rintro ⟨⟩
        simp only [go_sem, *]
      · refine ite_i (fun c4 => ?_) (fun c4 => ?_)
        · rintro ⟨⟩
          simp only [go_sem, *]
        · refine cb_i (fun c5 => ?_) (fun c5 => ?_)
          · refine rq_i fun c6 => ?_
            refine bnd_i fun o5 ho7 => ?_
            intro h
            simp only [go_sem, *]
            generalize hz9 : iter _ _ _ _ _ = z8
            have hq10 : Q_p_spyref3_FieldFault_l0 a0_2 o5 z8 := by
              rw [← hz9]
              refine l_p_spyref3_FieldFault_l0 L hL a0_2 a0_2 L 0  _ _ _ c6 (rng_0 c6 hL) ?_ ho7
              all_goals simp only [go_sem, *]
            clear hz9 ho7
            rcases o5 with o5_0 | o5_1
            · obtain ⟨_, st6, rfl, rfl⟩ := hq10
              dsimp only at h
              revert h
              rintro ⟨⟩
              simp only [go_sem, *]
            · obtain ⟨_, st7, rfl, rfl⟩ := hq10
              dsimp only at h
              revert h
              rintro ⟨⟩
              simp only [go_sem, *]
          · rintro ⟨⟩
            simp only [go_sem, *]
noncomputable def s_spyref3_FieldFault (L : Nat) : Ev.Spec := specP (cCons k42 cNil) (fun x => p_spyref3_FieldFault L x.1.1 x.1.2.1 x.1.2.2.1) (fun r => [.int .i64 r])
theorem s_spyref3_FieldFault_run (L : Nat) (a0_0 : Int) (a0_1 : Int) (a0_2 : List (Int × Int × Bool × Unit)) : (s_spyref3_FieldFault L).run [.agg 42 [.int .i64 a0_0, .int .i64 a0_1, .sl 47 (a0_2.map k47.e)]] = (p_spyref3_FieldFault L a0_0 a0_1 a0_2).map fun r => [.int .i64 r] := specP_run (cCons k42 cNil) (fun x => p_spyref3_FieldFault L x.1.1 x.1.2.1 x.1.2.2.1) (fun r => [.int .i64 r]) ((a0_0, a0_1, a0_2, ()), ())
theorem ok_spyref3_FieldFault (L : Nat) (hL : L ≤ 4611686018427387904) : SpecOk Try.prog 30 (s_spyref3_FieldFault L) := specP_ok mixed (Go_spyref3_FieldFault L hL) (To_spyref3_FieldFault L) fun x r h => ⟨L, 1, e_spyref3_FieldFault L hL x.1.1 x.1.2.1 x.1.2.2.1 r h⟩
end Go.Proofs.Ytnopgienncmcmaa.P
end
section
set_option linter.unusedVariables false
set_option linter.unusedSimpArgs false
namespace Go.Proofs.Ytnopgienncmcmaa.PlField
open Go.Ev Go.IntKind Go.Pl Go.Proofs.Ytnopgienncmcmaa.P Go.Proofs.Ytnopgienncmcmaa.PlBndAQuanta
def cellsF : List Bd → Int
  | [] => 0
  | b :: r => if fault b.1 b.2.1 b.2.2.1 (-1099511627776) 1099511627776 = 0 then cellsF r else fault b.1 b.2.1 b.2.2.1 (-1099511627776) 1099511627776
def fieldF (w h : Int) (l : List Bd) : Int := if w < 1 ∨ w > 32 ∨ h < 1 ∨ h > 32 ∨ ¬ (l.length : Int) = w * h then 3 else cellsF l
theorem ff_l (L : Nat) : ∀ l : List Bd, p_spyref3_FieldFault_l0 L l = some (if cellsF l = 0 then .inl () else .inr (cellsF l))
  | [] => rfl
  | b :: r => by
    have ih := ff_l L r
    rw [p_spyref3_FieldFault_l0, fault_eq, bnd_s, cb_d, ih, cellsF]
    by_cases c : fault b.1 b.2.1 b.2.2.1 (-1099511627776) 1099511627776 = 0
    · rw [if_pos c, if_pos c]
    · rw [if_neg c, if_neg c, if_neg c]
theorem fault_chk (b : Bd) : fault b.1 b.2.1 b.2.2.1 (-1099511627776) 1099511627776 = if chk b.1 b.2.1 b.2.2.1 = 0 then (if b.1 < -1099511627776 ∨ b.2.1 > 1099511627776 then 4 else 0) else chk b.1 b.2.1 b.2.2.1 := by
  unfold fault
  by_cases c : chk b.1 b.2.1 b.2.2.1 = 0
  · rw [if_neg (by simpa using c), if_pos c]
  · rw [if_pos c, if_neg c]
theorem ck_l (L : Nat) : ∀ l : List Bd, p_clean_Check_l0 L l = some (if cellsF l = 0 then .inl () else .inr (cellsF l))
  | [] => rfl
  | b :: r => by
    have ih := ck_l L r
    have h := fault_chk b
    rw [p_clean_Check_l0, check_eq, bnd_s, cb_d, ih, cellsF]
    generalize fault b.1 b.2.1 b.2.2.1 (-1099511627776) 1099511627776 = q at *
    grind
theorem w_mul {w h : Int} (h1 : 1 ≤ w) (h2 : w ≤ 32) (h3 : 1 ≤ h) (h4 : h ≤ 32) : 1 ≤ w * h ∧ w * h ≤ 1024 := by
  have a : w * h ≤ 32 * 32 := Int.mul_le_mul h2 h4 (by omega) (by omega)
  have b : 1 * 1 ≤ w * h := Int.mul_le_mul h1 h3 (by omega) (by omega)
  omega
theorem ff_eq (L : Nat) (w h : Int) (l : List Bd) (hl : l.length < L) : p_spyref3_FieldFault L w h l = some (fieldF w h l) := by
  unfold p_spyref3_FieldFault fieldF
  rw [rq_t hl, ff_l, bnd_s, cb_d]
  by_cases c : 1 ≤ w ∧ w ≤ 32 ∧ 1 ≤ h ∧ h ≤ 32
  · have hm := w_mul c.1 c.2.1 c.2.2.1 c.2.2.2
    rw [w64 (x := w * h) (by omega)]
    generalize w * h = m at *
    grind
  · grind
theorem ck_eq (L : Nat) (w h : Int) (l : List Bd) (hl : l.length < L) : p_clean_Check L w h l = some (fieldF w h l) := by
  unfold p_clean_Check fieldF
  rw [rq_t hl, ck_l, bnd_s, cb_d, min_v, max_v]
  by_cases c : 1 ≤ w ∧ w ≤ 32 ∧ 1 ≤ h ∧ h ≤ 32
  · have hm := w_mul c.1 c.2.1 c.2.2.1 c.2.2.2
    rw [w64 (x := w * h) (by omega)]
    generalize w * h = m at *
    grind
  · grind (splits := 40)
theorem field_len {w h : Int} {l : List Bd} (hf : fieldF w h l = 0) : l.length ≤ 1024 := by
  unfold fieldF at hf
  split at hf
  · cases hf
  · rename_i hc
    have := w_mul (w := w) (h := h) (by omega) (by omega) (by omega) (by omega)
    omega
end Go.Proofs.Ytnopgienncmcmaa.PlField
end
section
set_option linter.unusedVariables false
set_option linter.unusedSimpArgs false
set_option maxRecDepth 100000
namespace Go.Proofs.Ytnopgienncmcmaa.E
open Go.Ev
noncomputable def en14 : Entry := ⟨Try.f14, [(0, mb 61 0 [0, 1, 4, 7, 32, 33]), (2, mb 61 0 [0, 1, 4, 7, 8, 9, 32, 33, 36, 37, 38]), (1000001, mb 61 0 [4, 7]), (1000002, mb 61 0 [0, 1, 4, 7, 32, 33]), (1000003, mb 61 0 [0, 1, 4, 7, 9, 32, 33]), (1000004, mb 61 0 [0, 1, 4, 7, 8, 9, 32, 33, 36, 37, 38]), (1000000, mb 61 0 [4, 5]), (5000004, mb 61 0 [7]), (5000014, mb 61 0 [56])]⟩
theorem dw14_4 (lv : Nat) (env : List V) (st : Store) (o : Option (List V × Store)) : drawR en14.ms 4 lv env st o = if lv < 1000000000000000000000000000000 then (if (!(st (lv, 7)).live && true) = true then (o) else none) else none := nr rfl
theorem kl14_4 (lv : Nat) (st : Store) : killR en14.ms 4 lv st = killAt (st) (lv, 7) := nr rfl
theorem nc14_4 : ncOf en14.ms 4 = false := nr rfl
theorem dw14_14 (lv : Nat) (env : List V) (st : Store) (o : Option (List V × Store)) : drawR en14.ms 14 lv env st o = if lv < 1000000000000000000000000000000 then (if (!(st (lv, 56)).live && true) = true then (o) else none) else none := nr rfl
theorem kl14_14 (lv : Nat) (st : Store) : killR en14.ms 14 lv st = killAt (st) (lv, 56) := nr rfl
theorem nc14_14 : ncOf en14.ms 14 = false := nr rfl
theorem mk14_0 (vs : List V) : mask (maskOf en14.ms 0) vs = km 61 0 [0, 1, 4, 7, 32, 33] vs := mask_mb _ _ _ _
theorem mk14_2 (vs : List V) : mask (maskOf en14.ms 2) vs = km 61 0 [0, 1, 4, 7, 8, 9, 32, 33, 36, 37, 38] vs := mask_mb _ _ _ _
theorem mk14_1000001 (vs : List V) : mask (maskOf en14.ms 1000001) vs = km 61 0 [4, 7] vs := mask_mb _ _ _ _
theorem mk14_1000002 (vs : List V) : mask (maskOf en14.ms 1000002) vs = km 61 0 [0, 1, 4, 7, 32, 33] vs := mask_mb _ _ _ _
theorem mk14_1000003 (vs : List V) : mask (maskOf en14.ms 1000003) vs = km 61 0 [0, 1, 4, 7, 9, 32, 33] vs := mask_mb _ _ _ _
theorem mk14_1000004 (vs : List V) : mask (maskOf en14.ms 1000004) vs = km 61 0 [0, 1, 4, 7, 8, 9, 32, 33, 36, 37, 38] vs := mask_mb _ _ _ _
theorem mk14_1000000 (vs : List V) : mask (maskOf en14.ms 1000000) vs = km 61 0 [4, 5] vs := mask_mb _ _ _ _
theorem fz14_0 (lv : Nat) (f : Run) : frzF en14.ms lv 0 f = f := nr rfl
theorem fi14_0 (lv : Nat) (env : List V) (st : Store) (q : Store → Out) : frzI en14.ms lv 0 env st q = q st := nr rfl
theorem fz14_2 (lv : Nat) (f : Run) : frzF en14.ms lv 2 f = f := nr rfl
theorem fi14_2 (lv : Nat) (env : List V) (st : Store) (q : Store → Out) : frzI en14.ms lv 2 env st q = q st := nr rfl
noncomputable def lb14_0 : Code := loopN Try.f14 0
noncomputable def lb14_2 : Code := loopN Try.f14 1
end Go.Proofs.Ytnopgienncmcmaa.E
end
section
set_option linter.unusedVariables false
set_option linter.unusedSimpArgs false
set_option maxRecDepth 100000
namespace Go.Proofs.Ytnopgienncmcmaa.E
open Go.Ev
noncomputable def en26 : Entry := ⟨Try.f26, [(0, mb 62 0 [0, 1, 13, 14, 15]), (2, mb 62 0 [0, 1, 25, 26, 27]), (1000001, mb 62 0 [0, 1]), (1000002, mb 62 0 [0, 1, 13, 14, 15]), (1000003, mb 62 0 [0, 1]), (1000004, mb 62 0 [0, 1, 25, 26, 27]), (1000005, mb 62 0 []), (1000000, mb 62 0 [4])]⟩
theorem dw26_13 (lv : Nat) (env : List V) (st : Store) (o : Option (List V × Store)) : drawR en26.ms 13 lv env st o = if lv < 1000000000000000000000000000000 then (o) else none := nr rfl
theorem kl26_13 (lv : Nat) (st : Store) : killR en26.ms 13 lv st = st := nr rfl
theorem nc26_13 : ncOf en26.ms 13 = false := nr rfl
theorem mk26_0 (vs : List V) : mask (maskOf en26.ms 0) vs = km 62 0 [0, 1, 13, 14, 15] vs := mask_mb _ _ _ _
theorem mk26_2 (vs : List V) : mask (maskOf en26.ms 2) vs = km 62 0 [0, 1, 25, 26, 27] vs := mask_mb _ _ _ _
theorem mk26_1000001 (vs : List V) : mask (maskOf en26.ms 1000001) vs = km 62 0 [0, 1] vs := mask_mb _ _ _ _
theorem mk26_1000002 (vs : List V) : mask (maskOf en26.ms 1000002) vs = km 62 0 [0, 1, 13, 14, 15] vs := mask_mb _ _ _ _
theorem mk26_1000003 (vs : List V) : mask (maskOf en26.ms 1000003) vs = km 62 0 [0, 1] vs := mask_mb _ _ _ _
theorem mk26_1000004 (vs : List V) : mask (maskOf en26.ms 1000004) vs = km 62 0 [0, 1, 25, 26, 27] vs := mask_mb _ _ _ _
theorem mk26_1000005 (vs : List V) : mask (maskOf en26.ms 1000005) vs = km 62 0 [] vs := mask_mb _ _ _ _
theorem mk26_1000000 (vs : List V) : mask (maskOf en26.ms 1000000) vs = km 62 0 [4] vs := mask_mb _ _ _ _
theorem fz26_0 (lv : Nat) (f : Run) : frzF en26.ms lv 0 f = f := nr rfl
theorem fi26_0 (lv : Nat) (env : List V) (st : Store) (q : Store → Out) : frzI en26.ms lv 0 env st q = q st := nr rfl
theorem fz26_2 (lv : Nat) (f : Run) : frzF en26.ms lv 2 f = f := nr rfl
theorem fi26_2 (lv : Nat) (env : List V) (st : Store) (q : Store → Out) : frzI en26.ms lv 2 env st q = q st := nr rfl
noncomputable def lb26_0 : Code := loopN Try.f26 0
noncomputable def lb26_2 : Code := loopN Try.f26 1
end Go.Proofs.Ytnopgienncmcmaa.E
end
