/- Parts of one proof, joined: G61, G45, G44, E47, G47, E48, G48, G27, E51, E63, G63. -/
import Derived.Test.YtnopgienncmcmaaMCleanStrikes6
import Derived.Test.YtnopgienncmcmaaProg
section
attribute [local go_sem] Go.Ev.putR_s Go.Ev.putR_0 Go.Ev.thenO_s Go.Ev.thenO_0 Go.Ev.seqR_n Go.Ev.seqR_e Go.Ev.seqR_r Go.Ev.seqR_0 Go.Ev.blkR_e Go.Ev.blkR_n Go.Ev.blkR_r Go.Ev.blkR_0 Go.Ev.normR_s Go.Ev.normR_0 Go.Ev.outR_r Go.Ev.outR_n Go.Ev.outR_0 Go.Ev.retS_s Go.Ev.retS_0 Go.Ev.pureO_s Go.Ev.pureO_0 Go.Ev.topR_0 Go.Ev.topR_t Go.Ev.topR_t0 Go.Ev.oneL_0 Go.Ev.oneL_s Go.Ev.topR_d Go.Ev.topR_nils Go.Ev.topR_agg Go.Ev.topR_rs Go.Ev.evOp_move Go.Ev.evOp_assign Go.Ev.evOp_pick Go.Ev.evOp_alloc Go.Ev.evOp_box Go.Ev.evOp_build Go.Ev.evOp_buildSlice Go.Ev.evOp_load Go.Ev.evOp_store Go.Ev.evOp_makeMap Go.Ev.evOp_lookup Go.Ev.evOp_mapUpdate Go.Ev.evOp_insert Go.Ev.evOp_nilCheck Go.Ev.evOp_binOp Go.Ev.evOp_unOp Go.Ev.evOp_convert Go.Ev.evOp_makeFunc Go.Ev.evOp_makeSlice Go.Ev.evOp_slice Go.Ev.evOp_fieldAddr Go.Ev.evOp_field Go.Ev.evOp_indexAddr Go.Ev.evOp_index Go.Ev.evOp_extract Go.Ev.evOp_call Go.Ev.evOp_append Go.Ev.evOp_clear Go.Ev.evOp_len Go.Ev.evLen_d Go.Ev.evLen_rs Go.Ev.evLen_nils Go.Ev.evLen_nila Go.Ev.evLen_mp Go.Ev.evOp_min Go.Ev.evOp_max Go.Ev.condR_b Go.Ev.condR_t Go.Ev.evOps_nil Go.Ev.evOps_plain Go.Ev.evOps_guard Go.Ev.runG_eq Go.Ev.skipG_eq Go.Ev.condL_tt Go.Ev.condL_ff Go.Ev.condL_tf Go.Ev.condL_ft Go.Ev.condL_u Go.Ev.condC_t Go.Ev.condC_f Go.Ev.evC_skip Go.Ev.evC_ret Go.Ev.evC_exit Go.Ev.evC_label Go.Ev.evC_region Go.Ev.evC_draw Go.Ev.evC_seq Go.Ev.evC_cond Go.Ev.evC_block Go.Ev.evC_loop Go.Ev.fin_d Go.Ev.fin_nila Go.Ev.fin_nils Go.Ev.fin_agg_ Go.Ev.fin_rs Go.Ev.finS_s Go.Ev.mapO_fin Go.Ev.upd_upd Go.Ev.argv_d Go.Ev.argv_nila Go.Ev.argv_nils Go.Ev.argv_agg Go.Ev.argv_rs Go.Ev.argv_p Go.Ev.fk_low Go.Ev.appendTo_nils Go.Ev.appendTo_nila Go.Ev.appendTo_rs Go.Ev.consV_d Go.Ev.consV_agg Go.Ev.consV_p Go.Ev.consV_rs Go.Ev.consV_nila Go.Ev.consV_nils Go.Ev.consV_fn Go.Ev.consV_und Go.Ev.consV_jk Go.Ev.consV_grown Go.Ev.topR_grown Go.Ev.len_grown Go.Ev.consV_mp Go.Ev.sameK_i Go.Ev.sameK_s Go.Ev.mget_0 Go.Ev.mget_hit Go.Ev.mget_miss Go.Ev.mput_0 Go.Ev.mput_hit Go.Ev.mput_miss Go.Ev.apartAll Go.Ev.apartL Go.Ev.apartV Go.Ev.freeAll Go.Ev.sel Go.Ev.keyOfV Go.Ev.evLookup Go.Ev.evPut Go.Ev.hintOk Go.Ev.keyOk Go.Ev.consP Go.Ev.lookV Go.Ev.guardV Go.Ev.dstAt Go.Ev.evPure Go.Ev.evStore Go.Ev.evBin Go.Ev.evBinO Go.Ev.evNil Go.Ev.isNilC Go.Ev.evUn Go.Ev.evConv Go.Ev.evSlice Go.Ev.optI Go.Ev.foldI Go.Ev.capsOk Go.Ev.noTup Go.Ev.nth Go.Ev.setN Go.Ev.killAt Go.Ev.pad Go.Ev.V.get Go.Ev.V.put Go.Ev.putD Go.Ev.newBlk Go.Ev.upd Go.Ev.keq Go.Ev.empty Go.Ev.evCall Go.Ev.V.args Go.Ev.argP Go.Ev.callOf Go.Ev.evNilP Go.Ev.isNilP Go.Ev.look Go.Ev.V.view.views Go.Ev.V.view Go.Ev.V.toD Go.Ev.V.toD.V.toDs Go.Ev.V.pure.pures Go.Ev.V.pure Go.Ev.D.flat.flats Go.Ev.D.flat Go.Ev.mkAgg Go.Ev.allD Go.Ev.aggParts Go.Ev.setParts Go.Ev.setElems Go.Ev.getPath Go.Ev.setPath Go.Ev.subL Go.Ev.eqD Go.Ev.eqD.eqDs Go.Ev.and2 Go.Ev.strCut Go.Ev.evalT Go.Ev.constT Go.Ev.evArgs Go.Ev.mask Go.Ev.maskOf Go.Ev.tableOf Go.Ev.compT Go.Ev.resV Go.Ev.retV Go.Ev.mapO Go.Ev.hT_nila Go.Ev.eO_nila Go.Ev.pL_nila Go.Ev.evLen_gl Go.Ev.r_nila Go.Ev.frzO_n Go.Ev.frzO_e Go.Ev.frzO_r Go.Ev.frzO_0 Go.Ev.mb_z Go.Ev.mb_0 Go.Ev.mb_s Go.Ev.frzL_t Go.Ev.frzL_f Go.Ev.frzL_0 Go.Ev.frzT_nils Go.Ev.frzT_rs Go.Ev.frzT_p Go.Ev.frzK_i Go.Ev.keyIn_i Go.Ev.rI_nil Go.Ev.rI_cons Go.Ev.rI_row Go.Ev.rI_app Go.Ev.r_d Go.Ev.r_nils Go.Ev.r_agg Go.Ev.r_rs Go.Ev.r_gl Go.Ev.vw_row Go.Ev.vw_app Go.Ev.appO_s Go.Ev.frzT_gl Go.Ev.allD_gl Go.Ev.killAt_i Go.Ev.tkOne_i Go.Ev.hT_agg Go.Ev.hT_vagg Go.Ev.hT_int Go.Ev.hT_bool Go.Ev.hT_str Go.Ev.hT_sl Go.Ev.hT_ptr Go.Ev.hT_np Go.Ev.hT_p Go.Ev.hT_rs Go.Ev.hT_mp Go.Ev.hT_nils Go.Ev.hT_fn Go.Ev.hT_jk Go.Ev.hT_gl Go.Ev.eO_sl Go.Ev.eO_nils Go.Ev.eO_rs Go.Ev.eT_sl Go.Ev.eT_rs Go.Ev.pL_str Go.Ev.pL_sl Go.Ev.pL_rs Go.Ev.pL_nils Go.Ev.pL_min Go.Ev.pL_max Go.Ev.len_glB Go.Ev.noTup_gl Go.Ev.rowV_len Go.Ev.rowV_nil Go.Ev.rowV_cons Go.Ev.rowV_append Go.Ev.rowV_set Go.Ev.rowV_replicate Go.Ev.nth_row Go.Ev.row_take Go.Ev.row_drop Go.Ev.toDs_row Go.Ev.fin_row Go.Ev.map_row Go.Ev.map_take_ Go.Ev.map_drop_ Go.Ev.Bk_i Go.Ev.GlB_0 Go.Ev.GlB_mk Go.Ev.gl_nil Go.Ev.gl_cons Go.Ev.gl_snoc Go.Ev.gl_setN Go.Ev.appendTo_gl Go.Ev.consV_gl Go.Ev.elems_gl Go.Ev.fin_gl Go.Ev.view_gl Go.Ev.argv_gl Go.Ev.topR_gl Go.Ev.sp_z Go.Ev.sp_0 Go.Ev.sp_s Go.Ev.km_z Go.Ev.km_0 Go.Ev.km_s Go.Ev.beq_toList Go.Ev.nc0 Go.Ev.bq_t Go.Ev.bq_f Go.Ev.bodyN Go.Ev.le_maxRow Int.cast_ofNat_Int Go.IntWalk.i64_in Go.IntWalk.u64_in Go.IntWalk.u8_in beq_self_eq_true Bool.true_beq Bool.false_beq Bool.and_true Bool.true_and Bool.false_and Bool.and_false Bool.and_self Bool.not_true Bool.not_false Bool.not_eq_true cond_true cond_false if_true if_false and_true true_and and_self decide_true decide_false Bool.or_true Bool.true_or Bool.or_false Bool.false_or List.isEmpty List.isEmpty_nil List.size_toArray List.map List.length_map List.length_cons List.length_nil Option.map Option.bind Option.getD Option.isSome List.replicate Bool.false_eq_true implies_true false_implies forall_const Array.toList Array.isEmpty List.append List.nil_append List.cons_append List.drop_zero List.take_length List.take_succ_cons List.take_zero List.take_nil List.getElem?_map List.getElem?_cons_zero List.getElem?_cons_succ List.getElem?_nil List.append_nil eq_self Int.toNat_natCast List.length_append Nat.zero_add Nat.add_zero List.length_replicate Nat.sub_zero Option.map_some Option.map_none Int.le_refl Nat.le_refl Int.natCast_nonneg List.map_append
attribute [local go_sem_proc] Nat.reduceAdd Nat.reduceSub Nat.reduceMul Nat.reduceEqDiff Nat.reduceBEq Nat.reduceLT Nat.reduceLeDiff Nat.reducePow Int.reduceToNat Int.reduceLT Int.reduceLE Int.reduceGT Int.reduceGE Int.reduceEq Int.reduceNeg Int.reduceAdd Int.reduceSub Int.reduceMul reduceCtorEq
attribute [local go_sem_proc ↓] reduceIte
section
set_option linter.unusedVariables false
set_option linter.unusedSimpArgs false
set_option maxRecDepth 100000
namespace Go.Proofs.Ytnopgienncmcmaa.P
open Go.Ev Go.IntKind Go.Proofs.Ytnopgienncmcmaa Go.Proofs.Ytnopgienncmcmaa.Ty Go.Proofs.Ytnopgienncmcmaa.E
def p_bound_Has_Quanta (L : Nat) (a0_0 : Int) (a0_1 : Int) (a0_2 : Bool) (a1 : Int) : Option Bool := bnd (p_bound_vague_Quanta L a0_0 a0_1 a0_2 a0_0 a0_1 a0_2) fun r1 => cb r1 (some true) (if a0_0 ≤ a1 then (some (decide (a1 ≤ a0_1))) else (some false))
noncomputable def G_bound_Has_Quanta (L : Nat) : Specs := [(42, s_bound_vague_Quanta L)]
noncomputable def T_bound_Has_Quanta : Table := tableOf [(61, en61)]
theorem Go_bound_Has_Quanta (L : Nat) (hL : L ≤ 4611686018427387904) : ∀ g s, Ev.look (G_bound_Has_Quanta L) g = some s → SpecOk Try.prog g s := (specs_cons (ok_bound_vague_Quanta L hL) specs_nil)
theorem To_bound_Has_Quanta (L : Nat) : TableOk Try.prog ((G_bound_Has_Quanta L).map (·.1)) T_bound_Has_Quanta := (table_cons Try.func61 (by kernel_rfl) (by kernel_rfl) table_nil)
theorem lk_bound_Has_Quanta_42 (L : Nat) : Ev.look (G_bound_Has_Quanta L) 42 = some (s_bound_vague_Quanta L) := nr rfl
attribute [local go_sem] Ty.tk4 Ty.ub4 Ty.ek4 Ty.zv4 Ty.by4 Ty.so4 Ty.tk45 Ty.ik45 Ty.ek45 Ty.zv45 Ty.by45 Ty.so45 Ty.tk47 Ty.ct47 Ty.ek47 Ty.zv47 Ty.by47 Ty.so47 Ty.k47_e E.mk61_1000000 lk_bound_Has_Quanta_42 s_bound_vague_Quanta_run loopN loops Try.f61
theorem e_bound_Has_Quanta (L : Nat) (hL : L ≤ 4611686018427387904) (a0_0 : Int) (a0_1 : Int) (a0_2 : Bool) (a1 : Int) (res : Bool) (h : p_bound_Has_Quanta L a0_0 a0_1 a0_2 a1 = some res) : evTop Try.prog (G_bound_Has_Quanta L) T_bound_Has_Quanta L 1 61 [.agg 47 [.int .i64 a0_0, .int .i64 a0_1, .bool a0_2], .int .i64 a1] = some [.bool res] := by
  revert h
  unfold p_bound_Has_Quanta evTop
  simp only [List.map]
  rw [evF_s (fn := Try.f61) (msk := en61.ms) (hT := by rfl) (hb := by rfl)]
  refine bnd_i fun r1 c1 => ?_
  refine cb_i (fun c2 => ?_) (fun c2 => ?_)
  · rintro ⟨⟩
    simp only [go_sem, *]
  · refine ite_i (fun c3 => ?_) (fun c3 => ?_)
    · rintro ⟨⟩
      simp only [go_sem, *]
    · rintro ⟨⟩
      simp only [go_sem, *]
noncomputable def s_bound_Has_Quanta (L : Nat) : Ev.Spec := specP (cCons k47 (cCons (cI .i64) cNil)) (fun x => p_bound_Has_Quanta L x.1.1 x.1.2.1 x.1.2.2.1 x.2.1) (fun r => [.bool r])
theorem s_bound_Has_Quanta_run (L : Nat) (a0_0 : Int) (a0_1 : Int) (a0_2 : Bool) (a1 : Int) : (s_bound_Has_Quanta L).run [.agg 47 [.int .i64 a0_0, .int .i64 a0_1, .bool a0_2], .int .i64 a1] = (p_bound_Has_Quanta L a0_0 a0_1 a0_2 a1).map fun r => [.bool r] := specP_run (cCons k47 (cCons (cI .i64) cNil)) (fun x => p_bound_Has_Quanta L x.1.1 x.1.2.1 x.1.2.2.1 x.2.1) (fun r => [.bool r]) ((a0_0, a0_1, a0_2, ()), a1, ())
theorem ok_bound_Has_Quanta (L : Nat) (hL : L ≤ 4611686018427387904) : SpecOk Try.prog 61 (s_bound_Has_Quanta L) := specP_ok mixed (Go_bound_Has_Quanta L hL) (To_bound_Has_Quanta L) fun x r h => ⟨L, 1, e_bound_Has_Quanta L hL x.1.1 x.1.2.1 x.1.2.2.1 x.2.1 r h⟩
end Go.Proofs.Ytnopgienncmcmaa.P
end
section
set_option linter.unusedVariables false
set_option linter.unusedSimpArgs false
set_option maxRecDepth 100000
namespace Go.Proofs.Ytnopgienncmcmaa.P
open Go.Ev Go.IntKind Go.Proofs.Ytnopgienncmcmaa Go.Proofs.Ytnopgienncmcmaa.Ty Go.Proofs.Ytnopgienncmcmaa.E
def p_bound_Votes_Quanta_l0 (L : Nat) (a1 : Int) : List (Int × Int × Bool × Unit) → Int → Option Int
  | [], s5 => some s5
  | x1 :: tl, s5 => bnd (p_bound_vague_Quanta L x1.1 x1.2.1 x1.2.2.1 x1.1 x1.2.1 x1.2.2.1) fun r8 => cb r8 (p_bound_Votes_Quanta_l0 L a1 tl s5) (bnd (p_bound_Has_Quanta L x1.1 x1.2.1 x1.2.2.1 a1) fun r9 => cb r9 (p_bound_Votes_Quanta_l0 L a1 tl (i64.wrap (s5 + 1))) (p_bound_Votes_Quanta_l0 L a1 tl s5))
def p_bound_Votes_Quanta (L : Nat) (a0 : List (Int × Int × Bool × Unit)) (a1 : Int) : Option Int := rq (a0.length < L) <| bnd (p_bound_Votes_Quanta_l0 L a1 a0 0) fun o10 => some o10
noncomputable def G_bound_Votes_Quanta (L : Nat) : Specs := [(42, s_bound_vague_Quanta L), (61, s_bound_Has_Quanta L)]
noncomputable def T_bound_Votes_Quanta : Table := tableOf [(45, en45)]
theorem Go_bound_Votes_Quanta (L : Nat) (hL : L ≤ 4611686018427387904) : ∀ g s, Ev.look (G_bound_Votes_Quanta L) g = some s → SpecOk Try.prog g s := (specs_cons (ok_bound_vague_Quanta L hL) (specs_cons (ok_bound_Has_Quanta L hL) specs_nil))
theorem To_bound_Votes_Quanta (L : Nat) : TableOk Try.prog ((G_bound_Votes_Quanta L).map (·.1)) T_bound_Votes_Quanta := (table_cons Try.func45 (by kernel_rfl) (by kernel_rfl) table_nil)
theorem lk_bound_Votes_Quanta_42 (L : Nat) : Ev.look (G_bound_Votes_Quanta L) 42 = some (s_bound_vague_Quanta L) := nr rfl
theorem lk_bound_Votes_Quanta_61 (L : Nat) : Ev.look (G_bound_Votes_Quanta L) 61 = some (s_bound_Has_Quanta L) := nr rfl
attribute [local go_sem] Ty.tk3 Ty.ik3 Ty.ek3 Ty.zv3 Ty.by3 Ty.so3 Ty.tk4 Ty.ub4 Ty.ek4 Ty.zv4 Ty.by4 Ty.so4 Ty.tk40 Ty.zv40 Ty.by40 Ty.so40 Ty.tk45 Ty.ik45 Ty.ek45 Ty.zv45 Ty.by45 Ty.so45 Ty.tk47 Ty.ct47 Ty.ek47 Ty.zv47 Ty.by47 Ty.so47 Ty.k40_e Ty.k47_e E.mk45_0 E.mk45_1000001 E.mk45_1000002 E.mk45_1000000 E.fz45_0 E.fi45_0 E.lb45_0 lk_bound_Votes_Quanta_42 lk_bound_Votes_Quanta_61 s_bound_vague_Quanta_run s_bound_Has_Quanta_run loopN loops Try.f45
def Q0_p_bound_Votes_Quanta_l0 (a1 : Int) (a0 : List (Int × Int × Bool × Unit)) (u : Int) (z : Out) : Prop := ∃ env st, z = some (.exit 0, env, st) ∧ env = sp 27 0 [(5, .d (.int .i64 u))]
abbrev Q_p_bound_Votes_Quanta_l0 (a1 : Int) (a0 : List (Int × Int × Bool × Unit)) (o : Int) (z : Out) : Prop := Q0_p_bound_Votes_Quanta_l0 a1 a0 o z
theorem l_p_bound_Votes_Quanta_l0 (L : Nat) (hL : L ≤ 4611686018427387904) (a1 : Int) (a0 : List (Int × Int × Bool × Unit)) : ∀ (tl : List (Int × Int × Bool × Unit)) (n : Nat) (s2 : Int) (s5 : Int) (env : List V) (st : Store) (o : Int), tl.length < n → Rng a0 s2 tl → mask (maskOf en45.ms 0) env = sp 27 0 [(1, .d (.int .i64 a1)), (5, .d (.int .i64 s5)), (8, .d (.sl 47 (a0.map k47.e))), (9, .d (.int .i64 (a0.length : Int))), (10, .d (.int .i64 s2))] → p_bound_Votes_Quanta_l0 L a1 tl s5 = some o →
    Q_p_bound_Votes_Quanta_l0 a1 a0 o (iter (evC Try.prog (G_bound_Votes_Quanta L) (evF Try.prog (G_bound_Votes_Quanta L) T_bound_Votes_Quanta L 0) L en45.ms 0 0 lb45_0) (maskOf en45.ms 0) n env st) := by
  intro tl
  induction tl with
  | nil =>
    intro n s2 s5 env st o hn hR he  h
    obtain ⟨n, rfl⟩ : ∃ m, n = m + 1 := ⟨n - 1, by omega⟩
    have g0 := rng_nil hR
    rw [iter, he]
    clear he
    generalize hK : iter _ _ n = K
    rw [p_bound_Votes_Quanta_l0] at h
    revert h
    rintro ⟨⟩
    simp only [go_sem, *]
    refine (⟨_, _, rfl, ?_⟩ : Q0_p_bound_Votes_Quanta_l0 _ _ _ _)
    all_goals simp only [go_sem, *]
  | cons x1 tl ih =>
    intro n s2 s5 env st o hn hR he  h
    obtain ⟨n, rfl⟩ : ∃ m, n = m + 1 := ⟨n - 1, by omega⟩
    replace ih : Hold _ := ih
    replace hR := rng_s hR
    obtain ⟨g0, g1, g2, g3, hR⟩ := hR
    rw [iter, he]
    clear he
    generalize hK : iter _ _ n = K
    rw [p_bound_Votes_Quanta_l0] at h
    revert h
    refine bnd_i fun r8 c1 => ?_
    refine cb_i (fun c2 => ?_) (fun c2 => ?_)
    · intro h
      simp only [go_sem, *]
      subst hK
      refine ih n (s2 + 1) s5 _ _ _ (by simp only [List.length_cons] at hn; omega) hR ?_ h
      all_goals simp only [go_sem, *]
    · refine bnd_i fun r9 c3 => ?_
      refine cb_i (fun c4 => ?_) (fun c4 => ?_)
      · intro h
        simp only [go_sem, *]
        subst hK
        refine ih n (s2 + 1) (i64.wrap (s5 + 1)) _ _ _ (by simp only [List.length_cons] at hn; omega) hR ?_ h
        all_goals simp only [go_sem, *]
      · intro h
        simp only [go_sem, *]
        subst hK
        refine ih n (s2 + 1) s5 _ _ _ (by simp only [List.length_cons] at hn; omega) hR ?_ h
        all_goals simp only [go_sem, *]
theorem e_bound_Votes_Quanta (L : Nat) (hL : L ≤ 4611686018427387904) (a0 : List (Int × Int × Bool × Unit)) (a1 : Int) (res : Int) (h : p_bound_Votes_Quanta L a0 a1 = some res) : evTop Try.prog (G_bound_Votes_Quanta L) T_bound_Votes_Quanta L 1 45 [.sl 47 (a0.map k47.e), .int .i64 a1] = some [.int .i64 res] := by
  revert h
  unfold p_bound_Votes_Quanta evTop
  simp only [List.map]
  rw [evF_s (fn := Try.f45) (msk := en45.ms) (hT := by rfl) (hb := by rfl)]
  refine rq_i fun c1 => ?_
  refine bnd_i fun o10 ho2 => ?_
  intro h
  simp only [go_sem, *]
  generalize hz4 : iter _ _ _ _ _ = z3
  have hq5 : Q_p_bound_Votes_Quanta_l0 a1 a0 o10 z3 := by
    rw [← hz4]
    refine l_p_bound_Votes_Quanta_l0 L hL a1 a0 a0 L 0 0 _ _ _ c1 (rng_0 c1 hL) ?_ ho2
    all_goals simp only [go_sem, *]
  clear hz4 ho2
  obtain ⟨_, st11, rfl, rfl⟩ := hq5
  revert h
  rintro ⟨⟩
  simp only [go_sem, *]
noncomputable def s_bound_Votes_Quanta (L : Nat) : Ev.Spec := specP (cCons k40 (cCons (cI .i64) cNil)) (fun x => p_bound_Votes_Quanta L x.1 x.2.1) (fun r => [.int .i64 r])
theorem s_bound_Votes_Quanta_run (L : Nat) (a0 : List (Int × Int × Bool × Unit)) (a1 : Int) : (s_bound_Votes_Quanta L).run [.sl 47 (a0.map k47.e), .int .i64 a1] = (p_bound_Votes_Quanta L a0 a1).map fun r => [.int .i64 r] := specP_run (cCons k40 (cCons (cI .i64) cNil)) (fun x => p_bound_Votes_Quanta L x.1 x.2.1) (fun r => [.int .i64 r]) (a0, a1, ())
theorem ok_bound_Votes_Quanta (L : Nat) (hL : L ≤ 4611686018427387904) : SpecOk Try.prog 45 (s_bound_Votes_Quanta L) := specP_ok mixed (Go_bound_Votes_Quanta L hL) (To_bound_Votes_Quanta L) fun x r h => ⟨L, 1, e_bound_Votes_Quanta L hL x.1 x.2.1 r h⟩
end Go.Proofs.Ytnopgienncmcmaa.P
end
section
set_option linter.unusedVariables false
set_option linter.unusedSimpArgs false
set_option maxRecDepth 100000
namespace Go.Proofs.Ytnopgienncmcmaa.P
open Go.Ev Go.IntKind Go.Proofs.Ytnopgienncmcmaa Go.Proofs.Ytnopgienncmcmaa.Ty Go.Proofs.Ytnopgienncmcmaa.E
def p_bound_Fuse_Quanta_1 (L : Nat) (a0 : Int) (a1 : List (Int × Int × Bool × Unit)) (a2 : Int) : Option Bool := bnd (p_bound_Votes_Quanta L a1 a0) fun r1 => some (decide (r1 < a2))
noncomputable def G_bound_Fuse_Quanta_1 (L : Nat) : Specs := [(45, s_bound_Votes_Quanta L)]
noncomputable def T_bound_Fuse_Quanta_1 : Table := tableOf [(44, en44)]
theorem Go_bound_Fuse_Quanta_1 (L : Nat) (hL : L ≤ 4611686018427387904) : ∀ g s, Ev.look (G_bound_Fuse_Quanta_1 L) g = some s → SpecOk Try.prog g s := (specs_cons (ok_bound_Votes_Quanta L hL) specs_nil)
theorem To_bound_Fuse_Quanta_1 (L : Nat) : TableOk Try.prog ((G_bound_Fuse_Quanta_1 L).map (·.1)) T_bound_Fuse_Quanta_1 := (table_cons Try.func44 (by kernel_rfl) (by kernel_rfl) table_nil)
theorem lk_bound_Fuse_Quanta_1_45 (L : Nat) : Ev.look (G_bound_Fuse_Quanta_1 L) 45 = some (s_bound_Votes_Quanta L) := nr rfl
attribute [local go_sem] Ty.tk3 Ty.ik3 Ty.ek3 Ty.zv3 Ty.by3 Ty.so3 Ty.tk4 Ty.ub4 Ty.ek4 Ty.zv4 Ty.by4 Ty.so4 Ty.tk40 Ty.zv40 Ty.by40 Ty.so40 Ty.tk45 Ty.ik45 Ty.ek45 Ty.zv45 Ty.by45 Ty.so45 Ty.tk47 Ty.ct47 Ty.ek47 Ty.zv47 Ty.by47 Ty.so47 Ty.k40_e Ty.k47_e E.dw44_1 E.kl44_1 E.nc44_1 E.mk44_1000000 lk_bound_Fuse_Quanta_1_45 s_bound_Votes_Quanta_run loopN loops Try.f44
theorem e_bound_Fuse_Quanta_1 (L : Nat) (hL : L ≤ 4611686018427387904) (a0 : Int) (a1 : List (Int × Int × Bool × Unit)) (a2 : Int) (res : Bool) (h : p_bound_Fuse_Quanta_1 L a0 a1 a2 = some res) : evTop Try.prog (G_bound_Fuse_Quanta_1 L) T_bound_Fuse_Quanta_1 L 1 44 [.int .i64 a0, .ptr (.sl 47 (a1.map k47.e)), .ptr (.int .i64 a2)] = some [.bool res] := by
  revert h
  unfold p_bound_Fuse_Quanta_1 evTop
  simp only [List.map]
  rw [evF_s (fn := Try.f44) (msk := en44.ms) (hT := by rfl) (hb := by rfl)]
  refine bnd_i fun r1 c1 => ?_
  rintro ⟨⟩
  simp only [go_sem, *]
noncomputable def s_bound_Fuse_Quanta_1 (L : Nat) : Ev.Spec := specP (cCons (cI .i64) (cCons (cP k40) (cCons (cP (cI .i64)) cNil))) (fun x => p_bound_Fuse_Quanta_1 L x.1 x.2.1 x.2.2.1) (fun r => [.bool r])
theorem s_bound_Fuse_Quanta_1_run (L : Nat) (a0 : Int) (a1 : List (Int × Int × Bool × Unit)) (a2 : Int) : (s_bound_Fuse_Quanta_1 L).run [.int .i64 a0, .ptr (.sl 47 (a1.map k47.e)), .ptr (.int .i64 a2)] = (p_bound_Fuse_Quanta_1 L a0 a1 a2).map fun r => [.bool r] := specP_run (cCons (cI .i64) (cCons (cP k40) (cCons (cP (cI .i64)) cNil))) (fun x => p_bound_Fuse_Quanta_1 L x.1 x.2.1 x.2.2.1) (fun r => [.bool r]) (a0, a1, a2, ())
theorem ok_bound_Fuse_Quanta_1 (L : Nat) (hL : L ≤ 4611686018427387904) : SpecOk Try.prog 44 (s_bound_Fuse_Quanta_1 L) := specP_ok mixed (Go_bound_Fuse_Quanta_1 L hL) (To_bound_Fuse_Quanta_1 L) fun x r h => ⟨L, 1, e_bound_Fuse_Quanta_1 L hL x.1 x.2.1 x.2.2.1 r h⟩
end Go.Proofs.Ytnopgienncmcmaa.P
end
section
set_option linter.unusedVariables false
set_option linter.unusedSimpArgs false
set_option maxRecDepth 100000
namespace Go.Proofs.Ytnopgienncmcmaa.E
open Go.Ev
noncomputable def en47 : Entry := ⟨Try.f47, [(0, mb 25 0 [0, 3, 4]), (1000001, mb 25 0 [3]), (1000002, mb 25 0 [0, 3, 4]), (1000000, mb 25 0 [2])]⟩
theorem mk47_0 (vs : List V) : mask (maskOf en47.ms 0) vs = km 25 0 [0, 3, 4] vs := mask_mb _ _ _ _
theorem mk47_1000001 (vs : List V) : mask (maskOf en47.ms 1000001) vs = km 25 0 [3] vs := mask_mb _ _ _ _
theorem mk47_1000002 (vs : List V) : mask (maskOf en47.ms 1000002) vs = km 25 0 [0, 3, 4] vs := mask_mb _ _ _ _
theorem mk47_1000000 (vs : List V) : mask (maskOf en47.ms 1000000) vs = km 25 0 [2] vs := mask_mb _ _ _ _
theorem fz47_0 (lv : Nat) (f : Run) : frzF en47.ms lv 0 f = f := nr rfl
theorem fi47_0 (lv : Nat) (env : List V) (st : Store) (q : Store → Out) : frzI en47.ms lv 0 env st q = q st := nr rfl
noncomputable def lb47_0 : Code := loopN Try.f47 0
end Go.Proofs.Ytnopgienncmcmaa.E
end
section
set_option linter.unusedVariables false
set_option linter.unusedSimpArgs false
set_option maxRecDepth 100000
namespace Go.Proofs.Ytnopgienncmcmaa.P
open Go.Ev Go.IntKind Go.Proofs.Ytnopgienncmcmaa Go.Proofs.Ytnopgienncmcmaa.Ty Go.Proofs.Ytnopgienncmcmaa.E
def p_slices_Min_Quanta_l0 (L : Nat) (a0 : List Int) : Nat → Int → Int → Option Int
  | 0, _, _ => none
  | tl + 1, s4, s5 => if s5 < (a0.length : Int) then (bnd (idx a0 s5) fun x7 => p_slices_Min_Quanta_l0 L a0 tl (minI s4 x7) (i64.wrap (s5 + 1))) else (some s4)
def p_slices_Min_Quanta (L : Nat) (a0 : List Int) : Option Int := if (a0.length : Int) < 1 then (none) else (bnd (idx a0 0) fun x1 => bnd (p_slices_Min_Quanta_l0 L a0 L x1 1) fun o8 => some o8)
noncomputable def G_slices_Min_Quanta (L : Nat) : Specs := []
noncomputable def T_slices_Min_Quanta : Table := tableOf [(47, en47)]
theorem Go_slices_Min_Quanta (L : Nat) (hL : L ≤ 4611686018427387904) : ∀ g s, Ev.look (G_slices_Min_Quanta L) g = some s → SpecOk Try.prog g s := specs_nil
theorem To_slices_Min_Quanta (L : Nat) : TableOk Try.prog ((G_slices_Min_Quanta L).map (·.1)) T_slices_Min_Quanta := (table_cons Try.func47 (by kernel_rfl) (by kernel_rfl) table_nil)
attribute [local go_sem] Ty.tk3 Ty.ik3 Ty.ek3 Ty.zv3 Ty.by3 Ty.so3 Ty.tk4 Ty.ub4 Ty.ek4 Ty.zv4 Ty.by4 Ty.so4 Ty.tk20 Ty.by20 Ty.so20 Ty.tk45 Ty.ik45 Ty.ek45 Ty.zv45 Ty.by45 Ty.so45 Ty.tk85 Ty.zv85 Ty.by85 Ty.so85 Ty.k85_e E.mk47_0 E.mk47_1000001 E.mk47_1000002 E.mk47_1000000 E.fz47_0 E.fi47_0 E.lb47_0 loopN loops Try.f47
def Q0_p_slices_Min_Quanta_l0 (a0 : List Int) (u : Int) (z : Out) : Prop := ∃ env st, z = some (.exit 0, env, st) ∧ env = sp 25 0 [(3, .d (.int .i64 u))]
abbrev Q_p_slices_Min_Quanta_l0 (a0 : List Int) (o : Int) (z : Out) : Prop := Q0_p_slices_Min_Quanta_l0 a0 o z
theorem l_p_slices_Min_Quanta_l0 (L : Nat) (hL : L ≤ 4611686018427387904) (a0 : List Int) : ∀ (n : Nat) (s4 : Int) (s5 : Int) (env : List V) (st : Store) (o : Int), mask (maskOf en47.ms 0) env = sp 25 0 [(0, .d (.sl 45 (a0.map (D.int .i64)))), (3, .d (.int .i64 s4)), (4, .d (.int .i64 s5))] → p_slices_Min_Quanta_l0 L a0 n s4 s5 = some o →
    Q_p_slices_Min_Quanta_l0 a0 o (iter (evC Try.prog (G_slices_Min_Quanta L) (evF Try.prog (G_slices_Min_Quanta L) T_slices_Min_Quanta L 0) L en47.ms 0 0 lb47_0) (maskOf en47.ms 0) n env st) := by
  intro n
  induction n with
  | zero => intro s4 s5 env st o he  h; cases h
  | succ n ih =>
    intro s4 s5 env st o he  h
    replace ih : Hold _ := ih
    rw [iter, he]
    clear he
    generalize hK : iter _ _ n = K
    rw [p_slices_Min_Quanta_l0] at h
    revert h
    refine ite_i (fun c1 => ?_) (fun c1 => ?_)
    · refine idx_i fun x7 c2 c3 c4 => ?_
      intro h
      simp only [go_sem, *]
      subst hK
      refine ih  (minI s4 x7) (i64.wrap (s5 + 1)) _ _ _ ?_ h
      all_goals simp only [go_sem, *]
    · rintro ⟨⟩
      simp only [go_sem, *]
      refine (⟨_, _, rfl, ?_⟩ : Q0_p_slices_Min_Quanta_l0 _ _ _)
      all_goals simp only [go_sem, *]
theorem e_slices_Min_Quanta (L : Nat) (hL : L ≤ 4611686018427387904) (a0 : List Int) (res : Int) (h : p_slices_Min_Quanta L a0 = some res) : evTop Try.prog (G_slices_Min_Quanta L) T_slices_Min_Quanta L 1 47 [.sl 45 (a0.map (D.int .i64))] = some [.int .i64 res] := by
  revert h
  unfold p_slices_Min_Quanta evTop
  simp only [List.map]
  rw [evF_s (fn := Try.f47) (msk := en47.ms) (hT := by rfl) (hb := by rfl)]
  refine ite_i (fun c1 => ?_) (fun c1 => ?_)
  · intro h; cases h
  · refine idx_i fun x1 c2 c3 c4 => ?_
    have c4 : a0[0]? = some x1 := c4
    refine bnd_i fun o8 ho5 => ?_
    intro h
    simp only [go_sem, *]
    generalize hz7 : iter _ _ _ _ _ = z6
    have hq8 : Q_p_slices_Min_Quanta_l0 a0 o8 z6 := by
      rw [← hz7]
      refine l_p_slices_Min_Quanta_l0 L hL a0 L x1 1 _ _ _  ?_ ho5
      all_goals simp only [go_sem, *]
    clear hz7 ho5
    obtain ⟨_, st9, rfl, rfl⟩ := hq8
    revert h
    rintro ⟨⟩
    simp only [go_sem, *]
noncomputable def s_slices_Min_Quanta (L : Nat) : Ev.Spec := specP (cCons k85 cNil) (fun x => p_slices_Min_Quanta L x.1) (fun r => [.int .i64 r])
theorem s_slices_Min_Quanta_run (L : Nat) (a0 : List Int) : (s_slices_Min_Quanta L).run [.sl 45 (a0.map (D.int .i64))] = (p_slices_Min_Quanta L a0).map fun r => [.int .i64 r] := specP_run (cCons k85 cNil) (fun x => p_slices_Min_Quanta L x.1) (fun r => [.int .i64 r]) (a0, ())
theorem ok_slices_Min_Quanta (L : Nat) (hL : L ≤ 4611686018427387904) : SpecOk Try.prog 47 (s_slices_Min_Quanta L) := specP_ok mixed (Go_slices_Min_Quanta L hL) (To_slices_Min_Quanta L) fun x r h => ⟨L, 1, e_slices_Min_Quanta L hL x.1 r h⟩
end Go.Proofs.Ytnopgienncmcmaa.P
end
section
set_option linter.unusedVariables false
set_option linter.unusedSimpArgs false
set_option maxRecDepth 100000
namespace Go.Proofs.Ytnopgienncmcmaa.E
open Go.Ev
noncomputable def en48 : Entry := ⟨Try.f48, [(0, mb 25 0 [0, 3, 4]), (1000001, mb 25 0 [3]), (1000002, mb 25 0 [0, 3, 4]), (1000000, mb 25 0 [2])]⟩
theorem mk48_0 (vs : List V) : mask (maskOf en48.ms 0) vs = km 25 0 [0, 3, 4] vs := mask_mb _ _ _ _
theorem mk48_1000001 (vs : List V) : mask (maskOf en48.ms 1000001) vs = km 25 0 [3] vs := mask_mb _ _ _ _
theorem mk48_1000002 (vs : List V) : mask (maskOf en48.ms 1000002) vs = km 25 0 [0, 3, 4] vs := mask_mb _ _ _ _
theorem mk48_1000000 (vs : List V) : mask (maskOf en48.ms 1000000) vs = km 25 0 [2] vs := mask_mb _ _ _ _
theorem fz48_0 (lv : Nat) (f : Run) : frzF en48.ms lv 0 f = f := nr rfl
theorem fi48_0 (lv : Nat) (env : List V) (st : Store) (q : Store → Out) : frzI en48.ms lv 0 env st q = q st := nr rfl
noncomputable def lb48_0 : Code := loopN Try.f48 0
end Go.Proofs.Ytnopgienncmcmaa.E
end
section
set_option linter.unusedVariables false
set_option linter.unusedSimpArgs false
set_option maxRecDepth 100000
namespace Go.Proofs.Ytnopgienncmcmaa.P
open Go.Ev Go.IntKind Go.Proofs.Ytnopgienncmcmaa Go.Proofs.Ytnopgienncmcmaa.Ty Go.Proofs.Ytnopgienncmcmaa.E
def p_slices_Max_Quanta_l0 (L : Nat) (a0 : List Int) : Nat → Int → Int → Option Int
  | 0, _, _ => none
  | tl + 1, s4, s5 => if s5 < (a0.length : Int) then (bnd (idx a0 s5) fun x7 => p_slices_Max_Quanta_l0 L a0 tl (maxI s4 x7) (i64.wrap (s5 + 1))) else (some s4)
def p_slices_Max_Quanta (L : Nat) (a0 : List Int) : Option Int := if (a0.length : Int) < 1 then (none) else (bnd (idx a0 0) fun x1 => bnd (p_slices_Max_Quanta_l0 L a0 L x1 1) fun o8 => some o8)
noncomputable def G_slices_Max_Quanta (L : Nat) : Specs := []
noncomputable def T_slices_Max_Quanta : Table := tableOf [(48, en48)]
theorem Go_slices_Max_Quanta (L : Nat) (hL : L ≤ 4611686018427387904) : ∀ g s, Ev.look (G_slices_Max_Quanta L) g = some s → SpecOk Try.prog g s := specs_nil
theorem To_slices_Max_Quanta (L : Nat) : TableOk Try.prog ((G_slices_Max_Quanta L).map (·.1)) T_slices_Max_Quanta := (table_cons Try.func48 (by kernel_rfl) (by kernel_rfl) table_nil)
attribute [local go_sem] Ty.tk3 Ty.ik3 Ty.ek3 Ty.zv3 Ty.by3 Ty.so3 Ty.tk4 Ty.ub4 Ty.ek4 Ty.zv4 Ty.by4 Ty.so4 Ty.tk20 Ty.by20 Ty.so20 Ty.tk45 Ty.ik45 Ty.ek45 Ty.zv45 Ty.by45 Ty.so45 Ty.tk85 Ty.zv85 Ty.by85 Ty.so85 Ty.k85_e E.mk48_0 E.mk48_1000001 E.mk48_1000002 E.mk48_1000000 E.fz48_0 E.fi48_0 E.lb48_0 loopN loops Try.f48
def Q0_p_slices_Max_Quanta_l0 (a0 : List Int) (u : Int) (z : Out) : Prop := ∃ env st, z = some (.exit 0, env, st) ∧ env = sp 25 0 [(3, .d (.int .i64 u))]
abbrev Q_p_slices_Max_Quanta_l0 (a0 : List Int) (o : Int) (z : Out) : Prop := Q0_p_slices_Max_Quanta_l0 a0 o z
theorem l_p_slices_Max_Quanta_l0 (L : Nat) (hL : L ≤ 4611686018427387904) (a0 : List Int) : ∀ (n : Nat) (s4 : Int) (s5 : Int) (env : List V) (st : Store) (o : Int), mask (maskOf en48.ms 0) env = sp 25 0 [(0, .d (.sl 45 (a0.map (D.int .i64)))), (3, .d (.int .i64 s4)), (4, .d (.int .i64 s5))] → p_slices_Max_Quanta_l0 L a0 n s4 s5 = some o →
    Q_p_slices_Max_Quanta_l0 a0 o (iter (evC Try.prog (G_slices_Max_Quanta L) (evF Try.prog (G_slices_Max_Quanta L) T_slices_Max_Quanta L 0) L en48.ms 0 0 lb48_0) (maskOf en48.ms 0) n env st) := by
  intro n
  induction n with
  | zero => intro s4 s5 env st o he  h; cases h
  | succ n ih =>
    intro s4 s5 env st o he  h
    replace ih : Hold _ := ih
    rw [iter, he]
    clear he
    generalize hK : iter _ _ n = K
    rw [p_slices_Max_Quanta_l0] at h
    revert h
    refine ite_i (fun c1 => ?_) (fun c1 => ?_)
    · refine idx_i fun x7 c2 c3 c4 => ?_
      intro h
      simp only [go_sem, *]
      subst hK
      refine ih  (maxI s4 x7) (i64.wrap (s5 + 1)) _ _ _ ?_ h
      all_goals simp only [go_sem, *]
    · rintro ⟨⟩
      simp only [go_sem, *]
      refine (⟨_, _, rfl, ?_⟩ : Q0_p_slices_Max_Quanta_l0 _ _ _)
      all_goals simp only [go_sem, *]
theorem e_slices_Max_Quanta (L : Nat) (hL : L ≤ 4611686018427387904) (a0 : List Int) (res : Int) (h : p_slices_Max_Quanta L a0 = some res) : evTop Try.prog (G_slices_Max_Quanta L) T_slices_Max_Quanta L 1 48 [.sl 45 (a0.map (D.int .i64))] = some [.int .i64 res] := by
  revert h
  unfold p_slices_Max_Quanta evTop
  simp only [List.map]
  rw [evF_s (fn := Try.f48) (msk := en48.ms) (hT := by rfl) (hb := by rfl)]
  refine ite_i (fun c1 => ?_) (fun c1 => ?_)
  · intro h; cases h
  · refine idx_i fun x1 c2 c3 c4 => ?_
    have c4 : a0[0]? = some x1 := c4
    refine bnd_i fun o8 ho5 => ?_
    intro h
    simp only [go_sem, *]
    generalize hz7 : iter _ _ _ _ _ = z6
    have hq8 : Q_p_slices_Max_Quanta_l0 a0 o8 z6 := by
      rw [← hz7]
      refine l_p_slices_Max_Quanta_l0 L hL a0 L x1 1 _ _ _  ?_ ho5
      all_goals simp only [go_sem, *]
    clear hz7 ho5
    obtain ⟨_, st9, rfl, rfl⟩ := hq8
    revert h
    rintro ⟨⟩
    simp only [go_sem, *]
noncomputable def s_slices_Max_Quanta (L : Nat) : Ev.Spec := specP (cCons k85 cNil) (fun x => p_slices_Max_Quanta L x.1) (fun r => [.int .i64 r])
theorem s_slices_Max_Quanta_run (L : Nat) (a0 : List Int) : (s_slices_Max_Quanta L).run [.sl 45 (a0.map (D.int .i64))] = (p_slices_Max_Quanta L a0).map fun r => [.int .i64 r] := specP_run (cCons k85 cNil) (fun x => p_slices_Max_Quanta L x.1) (fun r => [.int .i64 r]) (a0, ())
theorem ok_slices_Max_Quanta (L : Nat) (hL : L ≤ 4611686018427387904) : SpecOk Try.prog 48 (s_slices_Max_Quanta L) := specP_ok mixed (Go_slices_Max_Quanta L hL) (To_slices_Max_Quanta L) fun x r h => ⟨L, 1, e_slices_Max_Quanta L hL x.1 r h⟩
end Go.Proofs.Ytnopgienncmcmaa.P
end
section
set_option linter.unusedVariables false
set_option linter.unusedSimpArgs false
set_option maxRecDepth 100000
namespace Go.Proofs.Ytnopgienncmcmaa.P
open Go.Ev Go.IntKind Go.Proofs.Ytnopgienncmcmaa Go.Proofs.Ytnopgienncmcmaa.Ty Go.Proofs.Ytnopgienncmcmaa.E
def p_bound_Fuse_Quanta_l0 (L : Nat)  : List (Int × Int × Bool × Unit) → (List Int) → Option (List Int)
  | [], s4 => some s4
  | x1 :: tl, s4 => bnd (p_bound_vague_Quanta L x1.1 x1.2.1 x1.2.2.1 x1.1 x1.2.1 x1.2.2.1) fun r6 => cb r6 (p_bound_Fuse_Quanta_l0 L  tl s4) (rq (s4.length + 2 ≤ maxRow) <| rq ((s4.length + 2) * 8 ≤ maxRow) <| p_bound_Fuse_Quanta_l0 L  tl (s4 ++ [x1.1, x1.2.1]))
def p_bound_Fuse_Quanta_l1 (L : Nat) (a0 : List (Int × Int × Bool × Unit)) (a18 : Int) (o7 : List Int) : Nat → Int → Option (Sum Unit Int)
  | 0, s17 => some (.inl ())
  | tl + 1, s17 => bnd (idx o7 s17) fun x21 => bnd (p_bound_Fuse_Quanta_1 L x21 a0 a18) fun r22 => cb r22 (some (.inr s17)) (p_bound_Fuse_Quanta_l1 L a0 a18 o7 tl (s17 + 1))
def p_bound_Fuse_Quanta_l2 (L : Nat) (a0 : List (Int × Int × Bool × Unit)) (a40 : Int) : Nat → Int → Int → (List Int) → Option (Int × (List Int))
  | 0, _, _, _ => none
  | tl + 1, s44, s45, s46 => if s45 < (s46.length : Int) then (bnd (idx s46 s45) fun x50 => bnd (p_bound_Fuse_Quanta_1 L x50 a0 a40) fun r51 => cb r51 (p_bound_Fuse_Quanta_l2 L a0 a40 tl s44 (i64.wrap (s45 + 1)) s46) (bnd (idx s46 s44) fun x52 => p_bound_Fuse_Quanta_l2 L a0 a40 tl (i64.wrap (s44 + 1)) (i64.wrap (s45 + 1)) (s46.set s44.toNat x50))) else (some (s44, s46))
def p_bound_Fuse_Quanta (L : Nat) (a0 : List (Int × Int × Bool × Unit)) (a1 : Int) : Option (Int × Int × Bool) := rq (a0.length < L) <| bnd (p_bound_Fuse_Quanta_l0 L a0 ([])) fun o7 => if a1 < 0 then (bnd (p_bound_None_Quanta L) fun r9 => some (r9.1, r9.2.1, r9.2.2)) else (if (i64.wrap ((i64.wrap ((o7.length : Int).tdiv 2)) - a1)) ≤ 0 then (bnd (p_bound_None_Quanta L) fun r10 => some (r10.1, r10.2.1, r10.2.2)) else (rq ((o7.length : Int).toNat < L) <| rq ((o7.length : Int) < 4611686018427387904) <| bnd (p_bound_Fuse_Quanta_l1 L a0 (i64.wrap ((i64.wrap ((o7.length : Int).tdiv 2)) - a1)) o7 (o7.length : Int).toNat 0) fun o23 => match o23 with | (.inl o23_0) => (cb (decide ((o7.length : Int) = 0)) (bnd (p_bound_None_Quanta L) fun r25 => some (r25.1, r25.2.1, r25.2.2)) (bnd (p_slices_Min_Quanta L o7) fun r26 => bnd (p_slices_Max_Quanta L o7) fun r27 => bnd (p_bound_Of_Quanta L r26 r27) fun r28 => some (r28.1, r28.2.1, r28.2.2))) | (.inr o23_1) => (cb (decide (o23_1 = (-1))) (cb (decide ((o7.length : Int) = 0)) (bnd (p_bound_None_Quanta L) fun r30 => some (r30.1, r30.2.1, r30.2.2)) (bnd (p_slices_Min_Quanta L o7) fun r31 => bnd (p_slices_Max_Quanta L o7) fun r32 => bnd (p_bound_Of_Quanta L r31 r32) fun r33 => some (r33.1, r33.2.1, r33.2.2))) (bnd (p_bound_Fuse_Quanta_l2 L a0 (i64.wrap ((i64.wrap ((o7.length : Int).tdiv 2)) - a1)) L o23_1 (i64.wrap (o23_1 + 1)) o7) fun o53 => rq (¬ o53.2.length = 0) <| rq (0 ≤ o53.1) <| rq (o53.1 ≤ (o53.2.length : Int)) <| rq (o53.1.toNat + (o53.2.length - o53.1.toNat) ≤ o53.2.length) <| cb (decide (((o53.1.toNat : Nat) : Int) = 0)) (bnd (p_bound_None_Quanta L) fun r55 => some (r55.1, r55.2.1, r55.2.2)) (bnd (some ((o53.2.take o53.1.toNat) ++ (List.replicate (o53.2.length - o53.1.toNat) 0) ++ (o53.2.drop (o53.1.toNat + (o53.2.length - o53.1.toNat))))) fun v56 => rq (o53.1.toNat ≤ o53.2.length) <| bnd (p_slices_Min_Quanta L (v56.take o53.1.toNat)) fun r57 => bnd (p_slices_Max_Quanta L (v56.take o53.1.toNat)) fun r58 => bnd (p_bound_Of_Quanta L r57 r58) fun r59 => some (r59.1, r59.2.1, r59.2.2))))))
noncomputable def G_bound_Fuse_Quanta (L : Nat) : Specs := [(29, s_bound_Of_Quanta L), (42, s_bound_vague_Quanta L), (43, s_bound_None_Quanta L), (44, s_bound_Fuse_Quanta_1 L), (47, s_slices_Min_Quanta L), (48, s_slices_Max_Quanta L)]
noncomputable def T_bound_Fuse_Quanta : Table := tableOf [(27, en27), (46, en46), (62, en62)]
theorem Go_bound_Fuse_Quanta (L : Nat) (hL : L ≤ 4611686018427387904) : ∀ g s, Ev.look (G_bound_Fuse_Quanta L) g = some s → SpecOk Try.prog g s := (specs_cons (ok_bound_Of_Quanta L hL) (specs_cons (ok_bound_vague_Quanta L hL) (specs_cons (ok_bound_None_Quanta L hL) (specs_cons (ok_bound_Fuse_Quanta_1 L hL) (specs_cons (ok_slices_Min_Quanta L hL) (specs_cons (ok_slices_Max_Quanta L hL) specs_nil))))))
theorem To_bound_Fuse_Quanta (L : Nat) : TableOk Try.prog ((G_bound_Fuse_Quanta L).map (·.1)) T_bound_Fuse_Quanta := (table_cons Try.func27 (by kernel_rfl) (by kernel_rfl) (table_cons Try.func46 (by kernel_rfl) (by kernel_rfl) (table_cons Try.func62 (by kernel_rfl) (by kernel_rfl) table_nil)))
theorem lk_bound_Fuse_Quanta_29 (L : Nat) : Ev.look (G_bound_Fuse_Quanta L) 29 = some (s_bound_Of_Quanta L) := nr rfl
theorem lk_bound_Fuse_Quanta_42 (L : Nat) : Ev.look (G_bound_Fuse_Quanta L) 42 = some (s_bound_vague_Quanta L) := nr rfl
theorem lk_bound_Fuse_Quanta_43 (L : Nat) : Ev.look (G_bound_Fuse_Quanta L) 43 = some (s_bound_None_Quanta L) := nr rfl
theorem lk_bound_Fuse_Quanta_44 (L : Nat) : Ev.look (G_bound_Fuse_Quanta L) 44 = some (s_bound_Fuse_Quanta_1 L) := nr rfl
theorem lk_bound_Fuse_Quanta_47 (L : Nat) : Ev.look (G_bound_Fuse_Quanta L) 47 = some (s_slices_Min_Quanta L) := nr rfl
theorem lk_bound_Fuse_Quanta_48 (L : Nat) : Ev.look (G_bound_Fuse_Quanta L) 48 = some (s_slices_Max_Quanta L) := nr rfl
theorem lk_bound_Fuse_Quanta_46 (L : Nat) : Ev.look (G_bound_Fuse_Quanta L) 46 = none := nr rfl
theorem in_bound_Fuse_Quanta_46 (L c lv : Nat) (xs : List V) (st : Store) : evF Try.prog (G_bound_Fuse_Quanta L) T_bound_Fuse_Quanta L (c + 1) 46 xs lv st = outR Try.prog Try.f46.results.toList (evC Try.prog (G_bound_Fuse_Quanta L) (evF Try.prog (G_bound_Fuse_Quanta L) T_bound_Fuse_Quanta L c) L en46.ms lv 0 (bodyN Try.f46) (pad xs Try.f46.ntmps) st) := evF_s (hT := by rfl) (hb := by rfl) ..
theorem lk_bound_Fuse_Quanta_62 (L : Nat) : Ev.look (G_bound_Fuse_Quanta L) 62 = none := nr rfl
theorem in_bound_Fuse_Quanta_62 (L c lv : Nat) (xs : List V) (st : Store) : evF Try.prog (G_bound_Fuse_Quanta L) T_bound_Fuse_Quanta L (c + 1) 62 xs lv st = outR Try.prog Try.f62.results.toList (evC Try.prog (G_bound_Fuse_Quanta L) (evF Try.prog (G_bound_Fuse_Quanta L) T_bound_Fuse_Quanta L c) L en62.ms lv 0 (bodyN Try.f62) (pad xs Try.f62.ntmps) st) := evF_s (hT := by rfl) (hb := by rfl) ..
attribute [local go_sem] Ty.tk3 Ty.ik3 Ty.ek3 Ty.zv3 Ty.by3 Ty.so3 Ty.tk4 Ty.ub4 Ty.ek4 Ty.zv4 Ty.by4 Ty.so4 Ty.tk40 Ty.zv40 Ty.by40 Ty.so40 Ty.tk45 Ty.ik45 Ty.ek45 Ty.zv45 Ty.by45 Ty.so45 Ty.tk47 Ty.ct47 Ty.ek47 Ty.zv47 Ty.by47 Ty.so47 Ty.tk85 Ty.zv85 Ty.by85 Ty.so85 Ty.tk89 Ty.zv89 Ty.by89 Ty.so89 Ty.k40_e Ty.k47_e Ty.k85_e E.mk27_0 E.mk27_1000001 E.mk27_1000002 E.mk27_1000000 E.fz27_0 E.fi27_0 E.mk46_0 E.mk46_1000001 E.mk46_1000002 E.mk46_1000000 E.fz46_0 E.fi46_0 E.mk62_0 E.mk62_1000001 E.mk62_1000002 E.mk62_1000000 E.fz62_0 E.fi62_0 E.lb27_0 E.lb46_0 E.lb62_0 lk_bound_Fuse_Quanta_29 lk_bound_Fuse_Quanta_42 lk_bound_Fuse_Quanta_43 lk_bound_Fuse_Quanta_44 lk_bound_Fuse_Quanta_47 lk_bound_Fuse_Quanta_48 lk_bound_Fuse_Quanta_46 in_bound_Fuse_Quanta_46 lk_bound_Fuse_Quanta_62 in_bound_Fuse_Quanta_62 s_bound_Of_Quanta_run s_bound_vague_Quanta_run s_bound_None_Quanta_run s_bound_Fuse_Quanta_1_run s_slices_Min_Quanta_run s_slices_Max_Quanta_run loopN loops Try.f27 Try.f46 Try.f62
def Q0_p_bound_Fuse_Quanta_l0 (a1 : Int) (a0 : List (Int × Int × Bool × Unit)) (u : List Int) (z : Out) : Prop := ∃ env st, z = some (.exit 0, env, st) ∧ env = sp 53 0 [(1, .d (.int .i64 a1)), (2, .p (0, 2) (st (0, 2)).ver 0 []), (4, .p (0, 4) (st (0, 4)).ver 0 []), (5, gl 45 (0, 26) (st (0, 26)).ver (rowV (D.int .i64) u))] ∧ Bk (st (0, 2)) 40 [.d (.sl 47 (a0.map k47.e))] ∧ Bk (st (0, 4)) 47 [.d (.agg 47 [.int .i64 0, .int .i64 0, .bool false])] ∧ GlB (st (0, 26)) 45 (rowV (D.int .i64) u)
abbrev Q_p_bound_Fuse_Quanta_l0 (a1 : Int) (a0 : List (Int × Int × Bool × Unit)) (o : List Int) (z : Out) : Prop := Q0_p_bound_Fuse_Quanta_l0 a1 a0 o z
theorem l_p_bound_Fuse_Quanta_l0 (L : Nat) (hL : L ≤ 4611686018427387904) (a1 : Int) (a0 : List (Int × Int × Bool × Unit)) : ∀ (tl : List (Int × Int × Bool × Unit)) (n : Nat) (s2 : Int) (s4 : List Int) (env : List V) (st : Store) (o : List Int), tl.length < n → Rng a0 s2 tl → mask (maskOf en27.ms 0) env = sp 53 0 [(1, .d (.int .i64 a1)), (2, .p (0, 2) (st (0, 2)).ver 0 []), (4, .p (0, 4) (st (0, 4)).ver 0 []), (5, gl 45 (0, 26) (st (0, 26)).ver (rowV (D.int .i64) s4)), (10, .d (.sl 47 (a0.map k47.e))), (11, .d (.int .i64 (a0.length : Int))), (12, .d (.int .i64 s2))] → Bk (st (0, 2)) 40 [.d (.sl 47 (a0.map k47.e))] → Bk (st (0, 4)) 47 [.d (.agg 47 [.int .i64 0, .int .i64 0, .bool false])] → GlB (st (0, 26)) 45 (rowV (D.int .i64) s4) → p_bound_Fuse_Quanta_l0 L  tl s4 = some o →
    Q_p_bound_Fuse_Quanta_l0 a1 a0 o (iter (evC Try.prog (G_bound_Fuse_Quanta L) (evF Try.prog (G_bound_Fuse_Quanta L) T_bound_Fuse_Quanta L 2) L en27.ms 0 0 lb27_0) (maskOf en27.ms 0) n env st) := by
  intro tl
  induction tl with
  | nil =>
    intro n s2 s4 env st o hn hR he hb0 hb1 hb2 h
    obtain ⟨n, rfl⟩ : ∃ m, n = m + 1 := ⟨n - 1, by omega⟩
    obtain ⟨be0, bv0, bl0⟩ := hb0
    obtain ⟨be1, bv1, bl1⟩ := hb1
    have g0 := rng_nil hR
    rw [iter, he]
    clear he
    generalize hK : iter _ _ n = K
    rw [p_bound_Fuse_Quanta_l0] at h
    revert h
    rintro ⟨⟩
    simp only [go_sem, *]
    refine (⟨_, _, rfl, ?_, ?_, ?_, ?_⟩ : Q0_p_bound_Fuse_Quanta_l0 _ _ _ _)
    all_goals simp only [go_sem, *]
  | cons x1 tl ih =>
    intro n s2 s4 env st o hn hR he hb0 hb1 hb2 h
    obtain ⟨n, rfl⟩ : ∃ m, n = m + 1 := ⟨n - 1, by omega⟩
    obtain ⟨be0, bv0, bl0⟩ := hb0
    obtain ⟨be1, bv1, bl1⟩ := hb1
    replace ih : Hold _ := ih
    replace hR := rng_s hR
    obtain ⟨g0, g1, g2, g3, hR⟩ := hR
    rw [iter, he]
    clear he
    generalize hK : iter _ _ n = K
    rw [p_bound_Fuse_Quanta_l0] at h
    revert h
    refine bnd_i fun r6 c1 => ?_
    refine cb_i (fun c2 => ?_) (fun c2 => ?_)
    · intro h
      simp only [go_sem, *]
      subst hK
      refine ih n (s2 + 1) s4 _ _ _ (by simp only [List.length_cons] at hn; omega) hR ?_ ?_ ?_ ?_ h
      all_goals simp only [go_sem, *]
    · refine rq_i fun c3 => ?_
      refine rq_i fun c4 => ?_
      intro h
      simp only [go_sem, *]
      subst hK
      refine ih n (s2 + 1) (s4 ++ [x1.1, x1.2.1]) _ _ _ (by simp only [List.length_cons] at hn; omega) hR ?_ ?_ ?_ ?_ h
      all_goals simp only [go_sem, *]
def Q0_p_bound_Fuse_Quanta_l1 (w11 : Nat) (w12 : Nat) (w13 : Nat) (w14 : Nat) (a16 : Int) (a0 : List (Int × Int × Bool × Unit)) (a18 : Int) (o7 : List Int) (u : Unit) (z : Out) : Prop := ∃ env st, z = some (.exit 0, env, st) ∧ env = sp 19 0 [] ∧ Bk (st (0, 2)) 40 [.d (.sl 47 (a0.map k47.e))] ∧ Bk (st (0, 4)) 47 [.d (.agg 47 [.int .i64 0, .int .i64 0, .bool false])] ∧ Bk (st (0, 8)) 3 [.d (.int .i64 a18)] ∧ GlB (st (0, 26)) 45 (rowV (D.int .i64) o7) ∧ (st (0, 2)).ver = w11 ∧ (st (0, 4)).ver = w12 ∧ (st (0, 8)).ver = w13 ∧ (st (0, 26)).ver = w14
def Q1_p_bound_Fuse_Quanta_l1 (w11 : Nat) (w12 : Nat) (w13 : Nat) (w14 : Nat) (a16 : Int) (a0 : List (Int × Int × Bool × Unit)) (a18 : Int) (o7 : List Int) (u : Int) (z : Out) : Prop := ∃ env st, z = some (.ret, env, st) ∧ env = sp 19 0 [(4, .d (.int .i64 u))] ∧ Bk (st (0, 2)) 40 [.d (.sl 47 (a0.map k47.e))] ∧ Bk (st (0, 4)) 47 [.d (.agg 47 [.int .i64 0, .int .i64 0, .bool false])] ∧ Bk (st (0, 8)) 3 [.d (.int .i64 a18)] ∧ Bk (st (0, 26)) 45 (rowV (D.int .i64) o7) ∧ (st (0, 2)).ver = w11 ∧ (st (0, 4)).ver = w12 ∧ (st (0, 8)).ver = w13 ∧ (st (0, 26)).ver = w14
def Q_p_bound_Fuse_Quanta_l1 (w11 : Nat) (w12 : Nat) (w13 : Nat) (w14 : Nat) (a16 : Int) (a0 : List (Int × Int × Bool × Unit)) (a18 : Int) (o7 : List Int) (o : Sum Unit Int) (z : Out) : Prop := match o with | (.inl u) => Q0_p_bound_Fuse_Quanta_l1 w11 w12 w13 w14 a16 a0 a18 o7 u z | (.inr u) => Q1_p_bound_Fuse_Quanta_l1 w11 w12 w13 w14 a16 a0 a18 o7 u z
theorem l_p_bound_Fuse_Quanta_l1 (L : Nat) (hL : L ≤ 4611686018427387904) (w11 : Nat) (w12 : Nat) (w13 : Nat) (w14 : Nat) (a16 : Int) (a0 : List (Int × Int × Bool × Unit)) (a18 : Int) (o7 : List Int) : ∀ (tl n : Nat) (s17 : Int) (env : List V) (st : Store) (o : Sum Unit Int), tl < n → Cnt a16 s17 tl → mask (maskOf en62.ms 0) env = sp 19 0 [(0, gl 45 (0, 26) (st (0, 26)).ver (rowV (D.int .i64) o7)), (1, .fn 44 [.p (0, 2) (st (0, 2)).ver 0 [], .p (0, 8) (st (0, 8)).ver 0 []]), (7, .d (.int .i64 a16)), (8, .d (.int .i64 s17))] → Bk (st (0, 2)) 40 [.d (.sl 47 (a0.map k47.e))] → Bk (st (0, 4)) 47 [.d (.agg 47 [.int .i64 0, .int .i64 0, .bool false])] → Bk (st (0, 8)) 3 [.d (.int .i64 a18)] → GlB (st (0, 26)) 45 (rowV (D.int .i64) o7) → (st (0, 2)).ver = w11 → (st (0, 4)).ver = w12 → (st (0, 8)).ver = w13 → (st (0, 26)).ver = w14 → p_bound_Fuse_Quanta_l1 L a0 a18 o7 tl s17  = some o →
    Q_p_bound_Fuse_Quanta_l1 w11 w12 w13 w14 a16 a0 a18 o7 o (iter (evC Try.prog (G_bound_Fuse_Quanta L) (evF Try.prog (G_bound_Fuse_Quanta L) T_bound_Fuse_Quanta L 0) L en62.ms 180235 0 lb62_0) (maskOf en62.ms 0) n env st) := by
  intro tl
  induction tl with
  | zero =>
    intro n s17  env st o hn hR he hb0 hb1 hb2 hb3 hw0 hw1 hw2 hw3 h
    obtain ⟨n, rfl⟩ : ∃ m, n = m + 1 := ⟨n - 1, by omega⟩
    obtain ⟨be0, bv0, bl0⟩ := hb0
    obtain ⟨be1, bv1, bl1⟩ := hb1
    obtain ⟨be2, bv2, bl2⟩ := hb2
    have g0 := cnt_nil hR
    rw [iter, he]
    clear he
    generalize hK : iter _ _ n = K
    rw [p_bound_Fuse_Quanta_l1] at h
    revert h
    rintro ⟨⟩
    simp only [go_sem, *]
    refine (⟨_, _, rfl, ?_, ?_, ?_, ?_, ?_, ?_, ?_, ?_, ?_⟩ : Q0_p_bound_Fuse_Quanta_l1 _ _ _ _ _ _ _ _ _ _)
    all_goals simp only [go_sem, *]
  | succ tl ih =>
    intro n s17  env st o hn hR he hb0 hb1 hb2 hb3 hw0 hw1 hw2 hw3 h
    obtain ⟨n, rfl⟩ : ∃ m, n = m + 1 := ⟨n - 1, by omega⟩
    obtain ⟨be0, bv0, bl0⟩ := hb0
    obtain ⟨be1, bv1, bl1⟩ := hb1
    obtain ⟨be2, bv2, bl2⟩ := hb2
    replace ih : Hold _ := ih
    replace hR := cnt_s hR
    obtain ⟨g0, g1, g3, hR⟩ := hR
    rw [iter, he]
    clear he
    generalize hK : iter _ _ n = K
    rw [p_bound_Fuse_Quanta_l1] at h
    revert h
    refine idx_i fun x21 c1 c2 c3 => ?_
    have c4 := gl_ne (f := (D.int .i64)) c3
    obtain ⟨k51, k52, k53⟩ := hb3 (row_ne c3)
    refine bnd_i fun r22 c6 => ?_
    refine cb_i (fun c7 => ?_) (fun c7 => ?_)
    · rintro ⟨⟩
      simp only [go_sem, *]
      refine (⟨_, _, rfl, ?_, ?_, ?_, ?_, ?_, ?_, ?_, ?_, ?_⟩ : Q1_p_bound_Fuse_Quanta_l1 _ _ _ _ _ _ _ _ _ _)
      all_goals simp only [go_sem, *]
    · intro h
      simp only [go_sem, *]
      subst hK
      refine ih n (s17 + 1)  _ _ _ (by omega) hR ?_ ?_ ?_ ?_ ?_ ?_ ?_ ?_ ?_ h
      all_goals simp only [go_sem, *]
def Q0_p_bound_Fuse_Quanta_l2 (w34 : Nat) (w35 : Nat) (w36 : Nat) (w37 : Nat) (a0 : List (Int × Int × Bool × Unit)) (a40 : Int) (u : Int × (List Int)) (z : Out) : Prop := ∃ env st, z = some (.exit 0, env, st) ∧ env = sp 42 0 [(0, gl 45 (0, 26) (st (0, 26)).ver (rowV (D.int .i64) u.2)), (5, .d (.int .i64 u.1))] ∧ Bk (st (0, 2)) 40 [.d (.sl 47 (a0.map k47.e))] ∧ Bk (st (0, 4)) 47 [.d (.agg 47 [.int .i64 0, .int .i64 0, .bool false])] ∧ Bk (st (0, 8)) 3 [.d (.int .i64 a40)] ∧ Bk (st (0, 26)) 45 (rowV (D.int .i64) u.2) ∧ (st (0, 2)).ver = w34 ∧ (st (0, 4)).ver = w35 ∧ (st (0, 8)).ver = w36 ∧ (st (0, 26)).ver = w37
abbrev Q_p_bound_Fuse_Quanta_l2 (w34 : Nat) (w35 : Nat) (w36 : Nat) (w37 : Nat) (a0 : List (Int × Int × Bool × Unit)) (a40 : Int) (o : Int × (List Int)) (z : Out) : Prop := Q0_p_bound_Fuse_Quanta_l2 w34 w35 w36 w37 a0 a40 o z
theorem l_p_bound_Fuse_Quanta_l2 (L : Nat) (hL : L ≤ 4611686018427387904) (w34 : Nat) (w35 : Nat) (w36 : Nat) (w37 : Nat) (a0 : List (Int × Int × Bool × Unit)) (a40 : Int) : ∀ (n : Nat) (s44 : Int) (s45 : Int) (s46 : List Int) (env : List V) (st : Store) (o : Int × (List Int)), mask (maskOf en46.ms 0) env = sp 42 0 [(0, gl 45 (0, 26) (st (0, 26)).ver (rowV (D.int .i64) s46)), (1, .fn 44 [.p (0, 2) (st (0, 2)).ver 0 [], .p (0, 8) (st (0, 8)).ver 0 []]), (5, .d (.int .i64 s44)), (6, .d (.int .i64 s45))] → Bk (st (0, 2)) 40 [.d (.sl 47 (a0.map k47.e))] → Bk (st (0, 4)) 47 [.d (.agg 47 [.int .i64 0, .int .i64 0, .bool false])] → Bk (st (0, 8)) 3 [.d (.int .i64 a40)] → Bk (st (0, 26)) 45 (rowV (D.int .i64) s46) → (st (0, 2)).ver = w34 → (st (0, 4)).ver = w35 → (st (0, 8)).ver = w36 → (st (0, 26)).ver = w37 → p_bound_Fuse_Quanta_l2 L a0 a40 n s44 s45 s46 = some o →
    Q_p_bound_Fuse_Quanta_l2 w34 w35 w36 w37 a0 a40 o (iter (evC Try.prog (G_bound_Fuse_Quanta L) (evF Try.prog (G_bound_Fuse_Quanta L) T_bound_Fuse_Quanta L 1) L en46.ms 44 0 lb46_0) (maskOf en46.ms 0) n env st) := by
  intro n
  induction n with
  | zero => intro s44 s45 s46 env st o he hb0 hb1 hb2 hb3 hw0 hw1 hw2 hw3 h; cases h
  | succ n ih =>
    intro s44 s45 s46 env st o he hb0 hb1 hb2 hb3 hw0 hw1 hw2 hw3 h
    replace ih : Hold _ := ih
    obtain ⟨be0, bv0, bl0⟩ := hb0
    obtain ⟨be1, bv1, bl1⟩ := hb1
    obtain ⟨be2, bv2, bl2⟩ := hb2
    obtain ⟨be3, bv3, bl3⟩ := hb3
    have bg3 := GlB_of be3 bv3 bl3
    rw [iter, he]
    clear he
    generalize hK : iter _ _ n = K
    rw [p_bound_Fuse_Quanta_l2] at h
    revert h
    refine ite_i (fun c1 => ?_) (fun c1 => ?_)
    · refine idx_i fun x50 c2 c3 c4 => ?_
      have c5 := gl_ne (f := (D.int .i64)) c4
      refine bnd_i fun r51 c6 => ?_
      refine cb_i (fun c7 => ?_) (fun c7 => ?_)
      · intro h
        simp only [go_sem, *]
        subst hK
        refine ih  s44 (i64.wrap (s45 + 1)) s46 _ _ _ ?_ ?_ ?_ ?_ ?_ ?_ ?_ ?_ ?_ h
        all_goals simp only [go_sem, *]
      · refine idx_i fun x52 c8 c9 c10 => ?_
        intro h
        simp only [go_sem, *]
        subst hK
        refine ih  (i64.wrap (s44 + 1)) (i64.wrap (s45 + 1)) (s46.set s44.toNat x50) _ _ _ ?_ ?_ ?_ ?_ ?_ ?_ ?_ ?_ ?_ h
        all_goals simp only [go_sem, *]
    · rintro ⟨⟩
      simp only [go_sem, *]
      refine (⟨_, _, rfl, ?_, ?_, ?_, ?_, ?_, ?_, ?_, ?_, ?_⟩ : Q0_p_bound_Fuse_Quanta_l2 _ _ _ _ _ _ _ _)
      all_goals simp only [go_sem, *]
theorem e_bound_Fuse_Quanta (L : Nat) (hL : L ≤ 4611686018427387904) (a0 : List (Int × Int × Bool × Unit)) (a1 : Int) (res : Int × Int × Bool) (h : p_bound_Fuse_Quanta L a0 a1 = some res) : evTop Try.prog (G_bound_Fuse_Quanta L) T_bound_Fuse_Quanta L 3 27 [.sl 47 (a0.map k47.e), .int .i64 a1] = some [.agg 47 [.int .i64 res.1, .int .i64 res.2.1, .bool res.2.2]] := by
  revert h
  unfold p_bound_Fuse_Quanta evTop
  simp only [List.map]
  rw [evF_s (fn := Try.f27) (msk := en27.ms) (hT := by rfl) (hb := by rfl)]
  refine rq_i fun c1 => ?_
  refine bnd_i fun o7 ho2 => ?_
  intro h
  simp only [go_sem, *]
  generalize hz4 : iter _ _ _ _ _ = z3
  have hq5 : Q_p_bound_Fuse_Quanta_l0 a1 a0 o7 z3 := by
    rw [← hz4]
    refine l_p_bound_Fuse_Quanta_l0 L hL a1 a0 a0 L 0 ([]) _ _ _ c1 (rng_0 c1 hL) ?_ ?_ ?_ ?_ ho2
    all_goals simp only [go_sem, *]
  clear hz4 ho2
  obtain ⟨_, st8, rfl, rfl, ⟨k61, k62, k63⟩, ⟨k71, k72, k73⟩, k8⟩ := hq5
  revert h
  refine ite_i (fun c9 => ?_) (fun c9 => ?_)
  · refine bnd_i fun r9 c10 => ?_
    rintro ⟨⟩
    simp only [go_sem, *]
  · refine ite_i (fun c11 => ?_) (fun c11 => ?_)
    · refine bnd_i fun r10 c12 => ?_
      rintro ⟨⟩
      simp only [go_sem, *]
    · refine rq_i fun c13 => ?_
      refine rq_i fun c14 => ?_
      refine bnd_i fun o23 ho15 => ?_
      intro h
      simp only [go_sem, *]
      generalize hz17 : iter _ _ _ _ _ = z16
      have hq18 : Q_p_bound_Fuse_Quanta_l1 ((st8 (0, 2)).ver) ((st8 (0, 4)).ver) ((st8 (0, 8)).ver + 1) ((st8 (0, 26)).ver) (o7.length : Int) a0 (i64.wrap ((i64.wrap ((o7.length : Int).tdiv 2)) - a1)) o7 o23 z16 := by
        rw [← hz17]
        refine l_p_bound_Fuse_Quanta_l1 L hL ((st8 (0, 2)).ver) ((st8 (0, 4)).ver) ((st8 (0, 8)).ver + 1) ((st8 (0, 26)).ver) (o7.length : Int) a0 (i64.wrap ((i64.wrap ((o7.length : Int).tdiv 2)) - a1)) o7 _ L 0  _ _ _ c13 (cnt_00 (by decide) c14) ?_ ?_ ?_ ?_ ?_ ?_ ?_ ?_ ?_ ho15
        all_goals simp only [go_sem, *]
      clear hz17 ho15
      rcases o23 with o23_0 | o23_1
      · obtain ⟨_, st24, rfl, rfl, ⟨k191, k192, k193⟩, ⟨k201, k202, k203⟩, ⟨k211, k212, k213⟩, k22, w23, w24, w25, w26⟩ := hq18
        dsimp only at h
        revert h
        refine cb_i (fun c27 => ?_) (fun c27 => ?_)
        · refine bnd_i fun r25 c28 => ?_
          rintro ⟨⟩
          simp only [go_sem, *]
        · refine bnd_i fun r26 c29 => ?_
          refine bnd_i fun r27 c30 => ?_
          refine bnd_i fun r28 c31 => ?_
          rintro ⟨⟩
          simp only [go_sem, *]
      · obtain ⟨_, st29, rfl, rfl, ⟨k321, k322, k323⟩, ⟨k331, k332, k333⟩, ⟨k341, k342, k343⟩, ⟨k351, k352, k353⟩, w36, w37, w38, w39⟩ := hq18
        have g40 := GlB_of k351 k352 k353
        dsimp only at h
        revert h
        refine cb_i (fun c41 => ?_) (fun c41 => ?_)
        · refine cb_i (fun c42 => ?_) (fun c42 => ?_)
          · refine bnd_i fun r30 c43 => ?_
            rintro ⟨⟩
            simp only [go_sem, *]
          · refine bnd_i fun r31 c44 => ?_
            refine bnd_i fun r32 c45 => ?_
            refine bnd_i fun r33 c46 => ?_
            rintro ⟨⟩
            simp only [go_sem, *]
        · refine bnd_i fun o53 ho47 => ?_
          intro h
          simp only [go_sem, *]
          generalize hz49 : iter _ _ _ _ _ = z48
          have hq50 : Q_p_bound_Fuse_Quanta_l2 ((st8 (0, 2)).ver) ((st8 (0, 4)).ver) ((st8 (0, 8)).ver + 1) ((st8 (0, 26)).ver) a0 (i64.wrap ((i64.wrap ((o7.length : Int).tdiv 2)) - a1)) o53 z48 := by
            rw [← hz49]
            refine l_p_bound_Fuse_Quanta_l2 L hL ((st8 (0, 2)).ver) ((st8 (0, 4)).ver) ((st8 (0, 8)).ver + 1) ((st8 (0, 26)).ver) a0 (i64.wrap ((i64.wrap ((o7.length : Int).tdiv 2)) - a1)) L o23_1 (i64.wrap (o23_1 + 1)) o7 _ _ _  ?_ ?_ ?_ ?_ ?_ ?_ ?_ ?_ ?_ ho47
            all_goals simp only [go_sem, *]
          clear hz49 ho47
          obtain ⟨_, st54, rfl, rfl, ⟨k511, k512, k513⟩, ⟨k521, k522, k523⟩, ⟨k531, k532, k533⟩, ⟨k541, k542, k543⟩, w55, w56, w57, w58⟩ := hq50
          have g59 := GlB_of k541 k542 k543
          revert h
          refine rq_i fun c60 => ?_
          have c61 := gl_nz (f := (D.int .i64)) c60
          refine rq_i fun c62 => ?_
          refine rq_i fun c63 => ?_
          refine rq_i fun c64 => ?_
          refine cb_i (fun c65 => ?_) (fun c65 => ?_)
          · refine bnd_i fun r55 c66 => ?_
            rintro ⟨⟩
            simp only [go_sem, *]
          · refine bnd_i fun v56 c67 => ?_
            have hf68 : rowV (D.int .i64) ((o53.2.take o53.1.toNat) ++ (List.replicate (o53.2.length - o53.1.toNat) 0) ++ (o53.2.drop (o53.1.toNat + (o53.2.length - o53.1.toNat)))) = rowV (D.int .i64) v56 := by cases c67; rfl
            simp only [go_sem] at hf68
            have c69 : v56.length = o53.2.length := by cases c67; simp only [List.length_append, List.length_take, List.length_replicate, List.length_drop, List.length_set, List.length_cons, List.length_nil, List.length_map]; omega
            clear c67
            refine rq_i fun c70 => ?_
            refine bnd_i fun r57 c71 => ?_
            refine bnd_i fun r58 c72 => ?_
            refine bnd_i fun r59 c73 => ?_
            rintro ⟨⟩
            simp only [go_sem, *]
noncomputable def s_bound_Fuse_Quanta (L : Nat) : Ev.Spec := specP (cCons k40 (cCons (cI .i64) cNil)) (fun x => p_bound_Fuse_Quanta L x.1 x.2.1) (fun r => [.agg 47 [.int .i64 r.1, .int .i64 r.2.1, .bool r.2.2]])
theorem s_bound_Fuse_Quanta_run (L : Nat) (a0 : List (Int × Int × Bool × Unit)) (a1 : Int) : (s_bound_Fuse_Quanta L).run [.sl 47 (a0.map k47.e), .int .i64 a1] = (p_bound_Fuse_Quanta L a0 a1).map fun r => [.agg 47 [.int .i64 r.1, .int .i64 r.2.1, .bool r.2.2]] := specP_run (cCons k40 (cCons (cI .i64) cNil)) (fun x => p_bound_Fuse_Quanta L x.1 x.2.1) (fun r => [.agg 47 [.int .i64 r.1, .int .i64 r.2.1, .bool r.2.2]]) (a0, a1, ())
theorem ok_bound_Fuse_Quanta (L : Nat) (hL : L ≤ 4611686018427387904) : SpecOk Try.prog 27 (s_bound_Fuse_Quanta L) := specP_ok mixed (Go_bound_Fuse_Quanta L hL) (To_bound_Fuse_Quanta L) fun x r h => ⟨L, 3, e_bound_Fuse_Quanta L hL x.1 x.2.1 r h⟩
def sk_bound_Fuse_Quanta : Ev.Spec := specK (c := (cCons k40 (cCons (cI .i64) cNil))) (dCons (dL 47 (dA 47 (dCons (dI .i64) (dCons (dI .i64) (dCons dB dNil))))) (dCons (dI .i64) dNil)) (fun x => p_bound_Fuse_Quanta 1000 x.1 x.2.1) (fun r => [.agg 47 [.int .i64 r.1, .int .i64 r.2.1, .bool r.2.2]])
theorem okk_bound_Fuse_Quanta : SpecOk Try.prog 27 sk_bound_Fuse_Quanta := specK_ok (dCons (dL 47 (dA 47 (dCons (dI .i64) (dCons (dI .i64) (dCons dB dNil))))) (dCons (dI .i64) dNil)) mixed (Go_bound_Fuse_Quanta 1000 (by decide)) (To_bound_Fuse_Quanta 1000) fun x r h => ⟨1000, 3, e_bound_Fuse_Quanta 1000 (by decide) x.1 x.2.1 r h⟩
end Go.Proofs.Ytnopgienncmcmaa.P
end
section
set_option linter.unusedVariables false
set_option linter.unusedSimpArgs false
set_option maxRecDepth 100000
namespace Go.Proofs.Ytnopgienncmcmaa.E
open Go.Ev
noncomputable def en51 : Entry := ⟨Try.f51, [(0, mb 97 0 [1, 4, 5, 16, 17, 18]), (2, mb 97 0 [1, 4, 5, 8, 40, 41, 42]), (4, mb 97 0 [1, 4, 5, 8, 40, 41, 42, 50, 51]), (6, mb 97 0 [1, 4, 5, 8, 12, 13, 40, 41, 42, 50, 51, 54, 55, 56]), (1000001, mb 97 0 [1, 4, 5]), (1000002, mb 97 0 [1, 4, 5, 16, 17, 18]), (1000003, mb 97 0 [4, 8]), (1000004, mb 97 0 [1, 4, 5, 8, 40, 41, 42]), (1000005, mb 97 0 [1, 4, 5, 8, 40, 41, 42]), (1000006, mb 97 0 [1, 4, 5, 8, 40, 41, 42, 50, 51]), (1000007, mb 97 0 [1, 4, 5, 8, 12, 13, 40, 41, 42, 50, 51]), (1000008, mb 97 0 [1, 4, 5, 8, 12, 13, 40, 41, 42, 50, 51, 54, 55, 56]), (1000000, mb 97 0 [4])]⟩
theorem mk51_0 (vs : List V) : mask (maskOf en51.ms 0) vs = km 97 0 [1, 4, 5, 16, 17, 18] vs := mask_mb _ _ _ _
theorem mk51_2 (vs : List V) : mask (maskOf en51.ms 2) vs = km 97 0 [1, 4, 5, 8, 40, 41, 42] vs := mask_mb _ _ _ _
theorem mk51_4 (vs : List V) : mask (maskOf en51.ms 4) vs = km 97 0 [1, 4, 5, 8, 40, 41, 42, 50, 51] vs := mask_mb _ _ _ _
theorem mk51_6 (vs : List V) : mask (maskOf en51.ms 6) vs = km 97 0 [1, 4, 5, 8, 12, 13, 40, 41, 42, 50, 51, 54, 55, 56] vs := mask_mb _ _ _ _
theorem mk51_1000001 (vs : List V) : mask (maskOf en51.ms 1000001) vs = km 97 0 [1, 4, 5] vs := mask_mb _ _ _ _
theorem mk51_1000002 (vs : List V) : mask (maskOf en51.ms 1000002) vs = km 97 0 [1, 4, 5, 16, 17, 18] vs := mask_mb _ _ _ _
theorem mk51_1000003 (vs : List V) : mask (maskOf en51.ms 1000003) vs = km 97 0 [4, 8] vs := mask_mb _ _ _ _
theorem mk51_1000004 (vs : List V) : mask (maskOf en51.ms 1000004) vs = km 97 0 [1, 4, 5, 8, 40, 41, 42] vs := mask_mb _ _ _ _
theorem mk51_1000005 (vs : List V) : mask (maskOf en51.ms 1000005) vs = km 97 0 [1, 4, 5, 8, 40, 41, 42] vs := mask_mb _ _ _ _
theorem mk51_1000006 (vs : List V) : mask (maskOf en51.ms 1000006) vs = km 97 0 [1, 4, 5, 8, 40, 41, 42, 50, 51] vs := mask_mb _ _ _ _
theorem mk51_1000007 (vs : List V) : mask (maskOf en51.ms 1000007) vs = km 97 0 [1, 4, 5, 8, 12, 13, 40, 41, 42, 50, 51] vs := mask_mb _ _ _ _
theorem mk51_1000008 (vs : List V) : mask (maskOf en51.ms 1000008) vs = km 97 0 [1, 4, 5, 8, 12, 13, 40, 41, 42, 50, 51, 54, 55, 56] vs := mask_mb _ _ _ _
theorem mk51_1000000 (vs : List V) : mask (maskOf en51.ms 1000000) vs = km 97 0 [4] vs := mask_mb _ _ _ _
theorem fz51_0 (lv : Nat) (f : Run) : frzF en51.ms lv 0 f = f := nr rfl
theorem fi51_0 (lv : Nat) (env : List V) (st : Store) (q : Store → Out) : frzI en51.ms lv 0 env st q = q st := nr rfl
theorem fz51_2 (lv : Nat) (f : Run) : frzF en51.ms lv 2 f = f := nr rfl
theorem fi51_2 (lv : Nat) (env : List V) (st : Store) (q : Store → Out) : frzI en51.ms lv 2 env st q = q st := nr rfl
theorem fz51_4 (lv : Nat) (f : Run) : frzF en51.ms lv 4 f = f := nr rfl
theorem fi51_4 (lv : Nat) (env : List V) (st : Store) (q : Store → Out) : frzI en51.ms lv 4 env st q = q st := nr rfl
theorem fz51_6 (lv : Nat) (f : Run) : frzF en51.ms lv 6 f = f := nr rfl
theorem fi51_6 (lv : Nat) (env : List V) (st : Store) (q : Store → Out) : frzI en51.ms lv 6 env st q = q st := nr rfl
noncomputable def lb51_0 : Code := loopN Try.f51 0
noncomputable def lb51_2 : Code := loopN Try.f51 1
noncomputable def lb51_4 : Code := loopN Try.f51 2
noncomputable def lb51_6 : Code := loopN Try.f51 3
end Go.Proofs.Ytnopgienncmcmaa.E
end
section
set_option linter.unusedVariables false
set_option linter.unusedSimpArgs false
set_option maxRecDepth 100000
namespace Go.Proofs.Ytnopgienncmcmaa.E
open Go.Ev
noncomputable def en63 : Entry := ⟨Try.f63, [(1000000, mb 22 0 [2])]⟩
theorem mk63_1000000 (vs : List V) : mask (maskOf en63.ms 1000000) vs = km 22 0 [2] vs := mask_mb _ _ _ _
end Go.Proofs.Ytnopgienncmcmaa.E
end
section
set_option linter.unusedVariables false
set_option linter.unusedSimpArgs false
set_option maxRecDepth 100000
namespace Go.Proofs.Ytnopgienncmcmaa.P
open Go.Ev Go.IntKind Go.Proofs.Ytnopgienncmcmaa Go.Proofs.Ytnopgienncmcmaa.Ty Go.Proofs.Ytnopgienncmcmaa.E
def p_spyref3_Bad_Quanta (L : Nat) (a0_0 : Int) (a0_1 : Int) (a0_2 : Bool) : Option Bool := cb a0_2 (some true) (if a0_0 > a0_1 then (some true) else (if a0_0 < (-1152921504606846976) then (some true) else (some (decide (a0_1 > 1152921504606846976)))))
noncomputable def G_spyref3_Bad_Quanta (L : Nat) : Specs := []
noncomputable def T_spyref3_Bad_Quanta : Table := tableOf [(63, en63)]
theorem Go_spyref3_Bad_Quanta (L : Nat) (hL : L ≤ 4611686018427387904) : ∀ g s, Ev.look (G_spyref3_Bad_Quanta L) g = some s → SpecOk Try.prog g s := specs_nil
theorem To_spyref3_Bad_Quanta (L : Nat) : TableOk Try.prog ((G_spyref3_Bad_Quanta L).map (·.1)) T_spyref3_Bad_Quanta := (table_cons Try.func63 (by kernel_rfl) (by kernel_rfl) table_nil)
attribute [local go_sem] Ty.tk4 Ty.ub4 Ty.ek4 Ty.zv4 Ty.by4 Ty.so4 Ty.tk45 Ty.ik45 Ty.ek45 Ty.zv45 Ty.by45 Ty.so45 Ty.tk47 Ty.ct47 Ty.ek47 Ty.zv47 Ty.by47 Ty.so47 Ty.k47_e E.mk63_1000000 loopN loops Try.f63
theorem e_spyref3_Bad_Quanta (L : Nat) (hL : L ≤ 4611686018427387904) (a0_0 : Int) (a0_1 : Int) (a0_2 : Bool) (res : Bool) (h : p_spyref3_Bad_Quanta L a0_0 a0_1 a0_2 = some res) : evTop Try.prog (G_spyref3_Bad_Quanta L) T_spyref3_Bad_Quanta L 1 63 [.agg 47 [.int .i64 a0_0, .int .i64 a0_1, .bool a0_2]] = some [.bool res] := by
  revert h
  unfold p_spyref3_Bad_Quanta evTop
  simp only [List.map]
  rw [evF_s (fn := Try.f63) (msk := en63.ms) (hT := by rfl) (hb := by rfl)]
  refine cb_i (fun c1 => ?_) (fun c1 => ?_)
  · rintro ⟨⟩
    simp only [go_sem, *]
  · refine ite_i (fun c2 => ?_) (fun c2 => ?_)
    · rintro ⟨⟩
      simp only [go_sem, *]
    · refine ite_i (fun c3 => ?_) (fun c3 => ?_)
      · rintro ⟨⟩
        simp only [go_sem, *]
      · rintro ⟨⟩
        simp only [go_sem, *]
noncomputable def s_spyref3_Bad_Quanta (L : Nat) : Ev.Spec := specP (cCons k47 cNil) (fun x => p_spyref3_Bad_Quanta L x.1.1 x.1.2.1 x.1.2.2.1) (fun r => [.bool r])
theorem s_spyref3_Bad_Quanta_run (L : Nat) (a0_0 : Int) (a0_1 : Int) (a0_2 : Bool) : (s_spyref3_Bad_Quanta L).run [.agg 47 [.int .i64 a0_0, .int .i64 a0_1, .bool a0_2]] = (p_spyref3_Bad_Quanta L a0_0 a0_1 a0_2).map fun r => [.bool r] := specP_run (cCons k47 cNil) (fun x => p_spyref3_Bad_Quanta L x.1.1 x.1.2.1 x.1.2.2.1) (fun r => [.bool r]) ((a0_0, a0_1, a0_2, ()), ())
theorem ok_spyref3_Bad_Quanta (L : Nat) (hL : L ≤ 4611686018427387904) : SpecOk Try.prog 63 (s_spyref3_Bad_Quanta L) := specP_ok mixed (Go_spyref3_Bad_Quanta L hL) (To_spyref3_Bad_Quanta L) fun x r h => ⟨L, 1, e_spyref3_Bad_Quanta L hL x.1.1 x.1.2.1 x.1.2.2.1 r h⟩
end Go.Proofs.Ytnopgienncmcmaa.P
end
end
