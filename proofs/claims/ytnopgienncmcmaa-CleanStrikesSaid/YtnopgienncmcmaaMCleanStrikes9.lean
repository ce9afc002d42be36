/- Parts of one proof, joined: G26, G14, E16, E31, E32, G32, G16, PlClean, E3, E6. -/
import Derived.Test.YtnopgienncmcmaaMCleanStrikes8
import Derived.Test.YtnopgienncmcmaaProg
section
set_option linter.unusedVariables false
set_option linter.unusedSimpArgs false
set_option maxRecDepth 100000
namespace Go.Proofs.Ytnopgienncmcmaa.P
open Go.Ev Go.IntKind Go.Proofs.Ytnopgienncmcmaa Go.Proofs.Ytnopgienncmcmaa.Ty Go.Proofs.Ytnopgienncmcmaa.E
def p_clean_valid_l0 (L : Nat)  : List (Int × Int × (List (Int × Int × Bool × Unit)) × Unit) → Option (Sum Unit Int)
  | [] => some (.inl ())
  | x1 :: tl => bnd (p_clean_Check L x1.1 x1.2.1 x1.2.2.1) fun r4 => cb (decide (r4 = 0)) (p_clean_valid_l0 L  tl) (some (.inr r4))
def p_clean_valid_l1 (L : Nat) (a0 : List (Int × Int × (List (Int × Int × Bool × Unit)) × Unit)) : List (Int × Int × (List (Int × Int × Bool × Unit)) × Unit) → Option (Sum Unit Unit)
  | [] => some (.inl ())
  | x7 :: tl => bnd (idx a0 0) fun x10 => cb (decide (x7.1 = x10.1)) (cb (decide (x7.2.1 = x10.2.1)) (p_clean_valid_l1 L a0 tl) (some (.inr ()))) (some (.inr ()))
def p_clean_valid (L : Nat) (a0 : List (Int × Int × (List (Int × Int × Bool × Unit)) × Unit)) (a1 : Int) : Option Int := if (a0.length : Int) > 8 then (some 2) else (rq (a0.length < L) <| bnd (p_clean_valid_l0 L a0) fun o5 => match o5 with | (.inl o5_0) => (bnd (p_clean_valid_l1 L a0 a0) fun o11 => match o11 with | (.inl o11_0) => (if a1 < 0 then (some 1) else (if a1 ≥ 8 then (some 14) else (if (a0.length : Int) < (i64.wrap ((i64.wrap (2 * a1)) + 1)) then (some 14) else (some 0)))) | (.inr o11_1) => (some 3)) | (.inr o5_1) => (some o5_1))
attribute [local go_sem] Ev.putR_s Ev.putR_0 Ev.thenO_s Ev.thenO_0 Ev.seqR_n Ev.seqR_e Ev.seqR_r Ev.seqR_0 Ev.blkR_e Ev.blkR_n Ev.blkR_r Ev.blkR_0 Ev.normR_s Ev.normR_0 Ev.outR_r Ev.outR_n Ev.outR_0 Ev.retS_s Ev.retS_0 Ev.pureO_s Ev.pureO_0 Ev.topR_0 Ev.topR_t Ev.topR_t0 Ev.oneL_0 Ev.oneL_s Ev.topR_d Ev.topR_nils Ev.topR_agg Ev.topR_rs Ev.evOp_move Ev.evOp_assign Ev.evOp_pick Ev.evOp_alloc Ev.evOp_box Ev.evOp_build Ev.evOp_buildSlice Ev.evOp_load Ev.evOp_store Ev.evOp_makeMap Ev.evOp_lookup Ev.evOp_mapUpdate Ev.evOp_insert Ev.evOp_nilCheck Ev.evOp_binOp Ev.evOp_unOp Ev.evOp_convert Ev.evOp_makeFunc Ev.evOp_makeSlice Ev.evOp_slice Ev.evOp_fieldAddr Ev.evOp_field Ev.evOp_indexAddr Ev.evOp_index Ev.evOp_extract Ev.evOp_call Ev.evOp_append Ev.evOp_clear Ev.evOp_len Ev.evLen_d Ev.evLen_rs Ev.evLen_nils Ev.evLen_nila Ev.evLen_mp Ev.evOp_min Ev.evOp_max Ev.condR_b Ev.condR_t Ev.evOps_nil Ev.evOps_plain Ev.evOps_guard Ev.runG_eq Ev.skipG_eq Ev.condL_tt Ev.condL_ff Ev.condL_tf Ev.condL_ft Ev.condL_u Ev.condC_t Ev.condC_f Ev.evC_skip Ev.evC_ret Ev.evC_exit Ev.evC_label Ev.evC_region Ev.evC_draw Ev.evC_seq Ev.evC_cond Ev.evC_block Ev.evC_loop Ev.fin_d Ev.fin_nila Ev.fin_nils Ev.fin_agg_ Ev.fin_rs Ev.finS_s Ev.mapO_fin Ev.upd_upd Ev.argv_d Ev.argv_nila Ev.argv_nils Ev.argv_agg Ev.argv_rs Ev.argv_p Ev.fk_low Ev.appendTo_nils Ev.appendTo_nila Ev.appendTo_rs Ev.consV_d Ev.consV_agg Ev.consV_p Ev.consV_rs Ev.consV_nila Ev.consV_nils Ev.consV_fn Ev.consV_und Ev.consV_jk Ev.consV_grown Ev.topR_grown Ev.len_grown Ev.consV_mp Ev.sameK_i Ev.sameK_s Ev.mget_0 Ev.mget_hit Ev.mget_miss Ev.mput_0 Ev.mput_hit Ev.mput_miss Ev.apartAll Ev.apartL Ev.apartV Ev.freeAll Ev.sel Ev.keyOfV Ev.evLookup Ev.evPut Ev.hintOk Ev.keyOk Ev.consP Ev.lookV Ev.guardV Ev.dstAt Ev.evPure Ev.evStore Ev.evBin Ev.evBinO Ev.evNil Ev.isNilC Ev.evUn Ev.evConv Ev.evSlice Ev.optI Ev.foldI Ev.capsOk Ev.noTup Ev.nth Ev.setN Ev.killAt Ev.pad Ev.V.get Ev.V.put Ev.putD Ev.newBlk Ev.upd Ev.keq Ev.empty Ev.evCall Ev.V.args Ev.argP Ev.callOf Ev.evNilP Ev.isNilP Ev.look Ev.V.view.views Ev.V.view Ev.V.toD Ev.V.toD.V.toDs Ev.V.pure.pures Ev.V.pure Ev.D.flat.flats Ev.D.flat Ev.mkAgg Ev.allD Ev.aggParts Ev.setParts Ev.setElems Ev.getPath Ev.setPath Ev.subL Ev.eqD Ev.eqD.eqDs Ev.and2 Ev.strCut Ev.evalT Ev.constT Ev.evArgs Ev.mask Ev.maskOf Ev.tableOf Ev.compT Ev.resV Ev.retV Ev.mapO Ev.hT_nila Ev.eO_nila Ev.pL_nila Ev.evLen_gl Ev.r_nila Ev.frzO_n Ev.frzO_e Ev.frzO_r Ev.frzO_0 Ev.mb_z Ev.mb_0 Ev.mb_s Ev.frzL_t Ev.frzL_f Ev.frzL_0 Ev.frzT_nils Ev.frzT_rs Ev.frzT_p Ev.frzK_i Ev.keyIn_i Ev.rI_nil Ev.rI_cons Ev.rI_row Ev.rI_app Ev.r_d Ev.r_nils Ev.r_agg Ev.r_rs Ev.r_gl Ev.vw_row Ev.vw_app Ev.appO_s Ev.frzT_gl Ev.allD_gl Ev.killAt_i Ev.tkOne_i Ev.hT_agg Ev.hT_vagg Ev.hT_int Ev.hT_bool Ev.hT_str Ev.hT_sl Ev.hT_ptr Ev.hT_np Ev.hT_p Ev.hT_rs Ev.hT_mp Ev.hT_nils Ev.hT_fn Ev.hT_jk Ev.hT_gl Ev.eO_sl Ev.eO_nils Ev.eO_rs Ev.eT_sl Ev.eT_rs Ev.pL_str Ev.pL_sl Ev.pL_rs Ev.pL_nils Ev.pL_min Ev.pL_max Ev.len_glB Ev.noTup_gl Ev.rowV_len Ev.rowV_nil Ev.rowV_cons Ev.rowV_append Ev.rowV_set Ev.rowV_replicate Ev.nth_row Ev.row_take Ev.row_drop Ev.toDs_row Ev.fin_row Ev.map_row Ev.map_take_ Ev.map_drop_ Ev.Bk_i Ev.GlB_0 Ev.GlB_mk Ev.gl_nil Ev.gl_cons Ev.gl_snoc Ev.gl_setN Ev.appendTo_gl Ev.consV_gl Ev.elems_gl Ev.fin_gl Ev.view_gl Ev.argv_gl Ev.topR_gl Ev.sp_z Ev.sp_0 Ev.sp_s Ev.km_z Ev.km_0 Ev.km_s Ev.beq_toList Ev.nc0 Ev.bq_t Ev.bq_f Ev.bodyN Ev.le_maxRow Int.cast_ofNat_Int IntWalk.i64_in IntWalk.u64_in IntWalk.u8_in beq_self_eq_true Bool.true_beq Bool.false_beq Bool.and_true Bool.true_and Bool.false_and Bool.and_false Bool.and_self Bool.not_true Bool.not_false Bool.not_eq_true cond_true cond_false if_true if_false and_true true_and and_self decide_true decide_false Bool.or_true Bool.true_or Bool.or_false Bool.false_or List.isEmpty List.isEmpty_nil List.size_toArray List.map List.length_map List.length_cons List.length_nil Option.map Option.bind Option.getD Option.isSome List.replicate Bool.false_eq_true implies_true false_implies forall_const Array.toList Array.isEmpty List.append List.nil_append List.cons_append List.drop_zero List.take_length List.take_succ_cons List.take_zero List.take_nil List.getElem?_map List.getElem?_cons_zero List.getElem?_cons_succ List.getElem?_nil List.append_nil eq_self Int.toNat_natCast List.length_append Nat.zero_add Nat.add_zero List.length_replicate Nat.sub_zero Option.map_some Option.map_none Int.le_refl Nat.le_refl Int.natCast_nonneg List.map_append
attribute [local go_sem_proc] Nat.reduceAdd Nat.reduceSub Nat.reduceMul Nat.reduceEqDiff Nat.reduceBEq Nat.reduceLT Nat.reduceLeDiff Nat.reducePow Int.reduceToNat Int.reduceLT Int.reduceLE Int.reduceGT Int.reduceGE Int.reduceEq Int.reduceNeg Int.reduceAdd Int.reduceSub Int.reduceMul reduceCtorEq
attribute [local go_sem_proc ↓] reduceIte
noncomputable def G_clean_valid (L : Nat) : Specs := [(41, s_clean_Check L)]
noncomputable def T_clean_valid : Table := tableOf [(26, en26)]
theorem Go_clean_valid (L : Nat) (hL : L ≤ 4611686018427387904) : ∀ g s, Ev.look (G_clean_valid L) g = some s → SpecOk Try.prog g s := (specs_cons (ok_clean_Check L hL) specs_nil)
theorem To_clean_valid (L : Nat) : TableOk Try.prog ((G_clean_valid L).map (·.1)) T_clean_valid := (table_cons Try.func26 (by kernel_rfl) (by kernel_rfl) table_nil)
theorem lk_clean_valid_41 (L : Nat) : Ev.look (G_clean_valid L) 41 = some (s_clean_Check L) := nr rfl
attribute [local go_sem] Ty.tk3 Ty.ik3 Ty.ek3 Ty.zv3 Ty.by3 Ty.so3 Ty.tk4 Ty.ub4 Ty.ek4 Ty.zv4 Ty.by4 Ty.so4 Ty.tk22 Ty.zv22 Ty.by22 Ty.so22 Ty.tk24 Ty.ik24 Ty.ek24 Ty.zv24 Ty.by24 Ty.so24 Ty.tk40 Ty.zv40 Ty.by40 Ty.so40 Ty.tk42 Ty.ct42 Ty.zv42 Ty.by42 Ty.so42 Ty.tk45 Ty.ik45 Ty.ek45 Ty.zv45 Ty.by45 Ty.so45 Ty.tk47 Ty.ct47 Ty.ek47 Ty.zv47 Ty.by47 Ty.so47 Ty.k22_e Ty.k40_e Ty.k42_e Ty.k47_e E.dw26_13 E.kl26_13 E.nc26_13 E.mk26_0 E.mk26_2 E.mk26_1000001 E.mk26_1000002 E.mk26_1000003 E.mk26_1000004 E.mk26_1000005 E.mk26_1000000 E.fz26_0 E.fi26_0 E.fz26_2 E.fi26_2 E.lb26_0 E.lb26_2 lk_clean_valid_41 s_clean_Check_run loopN loops Try.f26
def Q0_p_clean_valid_l0 (a0 : List (Int × Int × (List (Int × Int × Bool × Unit)) × Unit)) (a1 : Int) (u : Unit) (z : Out) : Prop := ∃ env st, z = some (.exit 0, env, st) ∧ env = sp 62 0 [(0, .d (.sl 42 (a0.map k42.e))), (1, .d (.int .i64 a1))]
def Q1_p_clean_valid_l0 (a0 : List (Int × Int × (List (Int × Int × Bool × Unit)) × Unit)) (a1 : Int) (u : Int) (z : Out) : Prop := ∃ env st, z = some (.ret, env, st) ∧ env = sp 62 0 [(4, .d (.int .i64 u))]
def Q_p_clean_valid_l0 (a0 : List (Int × Int × (List (Int × Int × Bool × Unit)) × Unit)) (a1 : Int) (o : Sum Unit Int) (z : Out) : Prop := match o with | (.inl u) => Q0_p_clean_valid_l0 a0 a1 u z | (.inr u) => Q1_p_clean_valid_l0 a0 a1 u z
theorem l_p_clean_valid_l0 (L : Nat) (hL : L ≤ 4611686018427387904) (a0 : List (Int × Int × (List (Int × Int × Bool × Unit)) × Unit)) (a1 : Int) : ∀ (tl : List (Int × Int × (List (Int × Int × Bool × Unit)) × Unit)) (n : Nat) (s2 : Int) (env : List V) (st : Store) (o : Sum Unit Int), tl.length < n → Rng a0 s2 tl → mask (maskOf en26.ms 0) env = sp 62 0 [(0, .d (.sl 42 (a0.map k42.e))), (1, .d (.int .i64 a1)), (13, .d (.sl 42 (a0.map k42.e))), (14, .d (.int .i64 (a0.length : Int))), (15, .d (.int .i64 s2))] → p_clean_valid_l0 L  tl  = some o →
    Q_p_clean_valid_l0 a0 a1 o (iter (evC Try.prog (G_clean_valid L) (evF Try.prog (G_clean_valid L) T_clean_valid L 0) L en26.ms 0 0 lb26_0) (maskOf en26.ms 0) n env st) := by
  intro tl
  induction tl with
  | nil =>
    intro n s2  env st o hn hR he  h
    obtain ⟨n, rfl⟩ : ∃ m, n = m + 1 := ⟨n - 1, by omega⟩
    have g0 := rng_nil hR
    rw [iter, he]
    clear he
    generalize hK : iter _ _ n = K
    rw [p_clean_valid_l0] at h
    revert h
    rintro ⟨⟩
    simp only [go_sem, *]
    refine (⟨_, _, rfl, ?_⟩ : Q0_p_clean_valid_l0 _ _ _ _)
    all_goals simp only [go_sem, *]
  | cons x1 tl ih =>
    intro n s2  env st o hn hR he  h
    obtain ⟨n, rfl⟩ : ∃ m, n = m + 1 := ⟨n - 1, by omega⟩
    replace ih : Hold _ := ih
    replace hR := rng_s hR
    obtain ⟨g0, g1, g2, g3, hR⟩ := hR
    rw [iter, he]
    clear he
    generalize hK : iter _ _ n = K
    rw [p_clean_valid_l0] at h
    revert h
    refine bnd_i fun r4 c1 => ?_
    refine cb_i (fun c2 => ?_) (fun c2 => ?_)
    · intro h
      simp only [go_sem, *]
      subst hK
      refine ih n (s2 + 1)  _ _ _ (by simp only [List.length_cons] at hn; omega) hR ?_ h
      all_goals simp only [go_sem, *]
    · rintro ⟨⟩
      simp only [go_sem, *]
      refine (⟨_, _, rfl, ?_⟩ : Q1_p_clean_valid_l0 _ _ _ _)
      all_goals simp only [go_sem, *]
def Q0_p_clean_valid_l1 (a0 : List (Int × Int × (List (Int × Int × Bool × Unit)) × Unit)) (a1 : Int) (u : Unit) (z : Out) : Prop := ∃ env st, z = some (.exit 2, env, st) ∧ env = sp 62 0 [(0, .d (.sl 42 (a0.map k42.e))), (1, .d (.int .i64 a1))]
def Q1_p_clean_valid_l1 (a0 : List (Int × Int × (List (Int × Int × Bool × Unit)) × Unit)) (a1 : Int) (u : Unit) (z : Out) : Prop := ∃ env st, z = some (.ret, env, st) ∧ env = sp 62 0 [(4, .d (.int .i64 3))]
def Q_p_clean_valid_l1 (a0 : List (Int × Int × (List (Int × Int × Bool × Unit)) × Unit)) (a1 : Int) (o : Sum Unit Unit) (z : Out) : Prop := match o with | (.inl u) => Q0_p_clean_valid_l1 a0 a1 u z | (.inr u) => Q1_p_clean_valid_l1 a0 a1 u z
theorem l_p_clean_valid_l1 (L : Nat) (hL : L ≤ 4611686018427387904) (a0 : List (Int × Int × (List (Int × Int × Bool × Unit)) × Unit)) (a1 : Int) : ∀ (tl : List (Int × Int × (List (Int × Int × Bool × Unit)) × Unit)) (n : Nat) (s8 : Int) (env : List V) (st : Store) (o : Sum Unit Unit), tl.length < n → Rng a0 s8 tl → mask (maskOf en26.ms 2) env = sp 62 0 [(0, .d (.sl 42 (a0.map k42.e))), (1, .d (.int .i64 a1)), (25, .d (.sl 42 (a0.map k42.e))), (26, .d (.int .i64 (a0.length : Int))), (27, .d (.int .i64 s8))] → p_clean_valid_l1 L a0 tl  = some o →
    Q_p_clean_valid_l1 a0 a1 o (iter (evC Try.prog (G_clean_valid L) (evF Try.prog (G_clean_valid L) T_clean_valid L 0) L en26.ms 0 2 lb26_2) (maskOf en26.ms 2) n env st) := by
  intro tl
  induction tl with
  | nil =>
    intro n s8  env st o hn hR he  h
    obtain ⟨n, rfl⟩ : ∃ m, n = m + 1 := ⟨n - 1, by omega⟩
    have g0 := rng_nil hR
    rw [iter, he]
    clear he
    generalize hK : iter _ _ n = K
    rw [p_clean_valid_l1] at h
    revert h
    rintro ⟨⟩
    simp only [go_sem, *]
    refine (⟨_, _, rfl, ?_⟩ : Q0_p_clean_valid_l1 _ _ _ _)
    all_goals simp only [go_sem, *]
  | cons x7 tl ih =>
    intro n s8  env st o hn hR he  h
    obtain ⟨n, rfl⟩ : ∃ m, n = m + 1 := ⟨n - 1, by omega⟩
    replace ih : Hold _ := ih
    replace hR := rng_s hR
    obtain ⟨g0, g1, g2, g3, hR⟩ := hR
    rw [iter, he]
    clear he
    generalize hK : iter _ _ n = K
    rw [p_clean_valid_l1] at h
    revert h
    refine idx_i fun x10 c1 c2 c3 => ?_
    have c3 : a0[0]? = some x10 := c3
    refine cb_i (fun c4 => ?_) (fun c4 => ?_)
    · refine cb_i (fun c5 => ?_) (fun c5 => ?_)
      · intro h
        simp only [go_sem, *]
        subst hK
        refine ih n (s8 + 1)  _ _ _ (by simp only [List.length_cons] at hn; omega) hR ?_ h
        all_goals simp only [go_sem, *]
      · rintro ⟨⟩
        simp only [go_sem, *]
        refine (⟨_, _, rfl, ?_⟩ : Q1_p_clean_valid_l1 _ _ _ _)
        all_goals simp only [go_sem, *]
    · rintro ⟨⟩
      simp only [go_sem, *]
      refine (⟨_, _, rfl, ?_⟩ : Q1_p_clean_valid_l1 _ _ _ _)
      all_goals simp only [go_sem, *]
theorem e_clean_valid (L : Nat) (hL : L ≤ 4611686018427387904) (a0 : List (Int × Int × (List (Int × Int × Bool × Unit)) × Unit)) (a1 : Int) (res : Int) (h : p_clean_valid L a0 a1 = some res) : evTop Try.prog (G_clean_valid L) T_clean_valid L 1 26 [.sl 42 (a0.map k42.e), .int .i64 a1] = some [.int .i64 res] := by
  revert h
  unfold p_clean_valid evTop
  simp only [List.map]
  rw [evF_s (fn := Try.f26) (msk := en26.ms) (hT := by rfl) (hb := by rfl)]
  refine ite_i (fun c1 => ?_) (fun c1 => ?_)
  · rintro ⟨⟩
    simp only [go_sem, *]
  · refine rq_i fun c2 => ?_
    refine bnd_i fun o5 ho3 => ?_
    intro h
    simp only [go_sem, *]
    generalize hz5 : iter _ _ _ _ _ = z4
    have hq6 : Q_p_clean_valid_l0 a0 a1 o5 z4 := by
      rw [← hz5]
      refine l_p_clean_valid_l0 L hL a0 a1 a0 L 0  _ _ _ c2 (rng_0 c2 hL) ?_ ho3
      all_goals simp only [go_sem, *]
    clear hz5 ho3
    rcases o5 with o5_0 | o5_1
    · obtain ⟨_, st6, rfl, rfl⟩ := hq6
      dsimp only at h
      revert h
      refine bnd_i fun o11 ho7 => ?_
      intro h
      simp only [go_sem, *]
      generalize hz9 : iter _ _ _ _ _ = z8
      have hq10 : Q_p_clean_valid_l1 a0 a1 o11 z8 := by
        rw [← hz9]
        refine l_p_clean_valid_l1 L hL a0 a1 a0 L 0  _ _ _ c2 (rng_0 c2 hL) ?_ ho7
        all_goals simp only [go_sem, *]
      clear hz9 ho7
      rcases o11 with o11_0 | o11_1
      · obtain ⟨_, st12, rfl, rfl⟩ := hq10
        dsimp only at h
        revert h
        refine ite_i (fun c11 => ?_) (fun c11 => ?_)
        · rintro ⟨⟩
          simp only [go_sem, *]
        · refine ite_i (fun c12 => ?_) (fun c12 => ?_)
          · rintro ⟨⟩
            simp only [go_sem, *]
          · refine ite_i (fun c13 => ?_) (fun c13 => ?_)
            · rintro ⟨⟩
              simp only [go_sem, *]
            · rintro ⟨⟩
              simp only [go_sem, *]
      · obtain ⟨_, st13, rfl, rfl⟩ := hq10
        dsimp only at h
        revert h
        rintro ⟨⟩
        simp only [go_sem, *]
    · obtain ⟨_, st14, rfl, rfl⟩ := hq6
      dsimp only at h
      revert h
      rintro ⟨⟩
      simp only [go_sem, *]
noncomputable def s_clean_valid (L : Nat) : Ev.Spec := specP (cCons k22 (cCons (cI .i64) cNil)) (fun x => p_clean_valid L x.1 x.2.1) (fun r => [.int .i64 r])
theorem s_clean_valid_run (L : Nat) (a0 : List (Int × Int × (List (Int × Int × Bool × Unit)) × Unit)) (a1 : Int) : (s_clean_valid L).run [.sl 42 (a0.map k42.e), .int .i64 a1] = (p_clean_valid L a0 a1).map fun r => [.int .i64 r] := specP_run (cCons k22 (cCons (cI .i64) cNil)) (fun x => p_clean_valid L x.1 x.2.1) (fun r => [.int .i64 r]) (a0, a1, ())
theorem ok_clean_valid (L : Nat) (hL : L ≤ 4611686018427387904) : SpecOk Try.prog 26 (s_clean_valid L) := specP_ok mixed (Go_clean_valid L hL) (To_clean_valid L) fun x r h => ⟨L, 1, e_clean_valid L hL x.1 x.2.1 r h⟩
end Go.Proofs.Ytnopgienncmcmaa.P
end
section
set_option linter.unusedVariables false
set_option linter.unusedSimpArgs false
set_option maxRecDepth 100000
namespace Go.Proofs.Ytnopgienncmcmaa.P
open Go.Ev Go.IntKind Go.Proofs.Ytnopgienncmcmaa Go.Proofs.Ytnopgienncmcmaa.Ty Go.Proofs.Ytnopgienncmcmaa.E
def p_clean_Combine_l1 (L : Nat) (s5 : Int) : List (Int × Int × (List (Int × Int × Bool × Unit)) × Unit) → (List (Int × Int × Bool × Unit)) → Option (List (Int × Int × Bool × Unit))
  | [], s30 => some s30
  | x27 :: tl, s30 => bnd (idx x27.2.2.1 s5) fun x32 => rq (s30.length + 1 ≤ maxRow) <| rq ((s30.length + 1) * 24 ≤ maxRow) <| p_clean_Combine_l1 L s5 tl (s30 ++ [x32])
def p_clean_Combine_l0 (L : Nat) (a0 : List (Int × Int × (List (Int × Int × Bool × Unit)) × Unit)) (a1 : Int) : Nat → Int → (List (Int × Int × Bool × Unit)) → Option (List (Int × Int × Bool × Unit))
  | 0, s5, s17 => some s17
  | tl + 1, s5, s17 => rq (a0.length < L) <| bnd (p_clean_Combine_l1 L s5 a0 ([])) fun o33 => bnd (p_bound_Fuse_Quanta L o33 a1) fun r35 => rq (s17.length + 1 ≤ maxRow) <| rq ((s17.length + 1) * 24 ≤ maxRow) <| p_clean_Combine_l0 L a0 a1 tl (s5 + 1) (s17 ++ [(r35.1, r35.2.1, r35.2.2, ())])
def p_clean_Combine (L : Nat) (a0 : List (Int × Int × (List (Int × Int × Bool × Unit)) × Unit)) (a1 : Int) : Option (Int × Int × (List (Int × Int × Bool × Unit)) × Int) := bnd (p_clean_valid L a0 a1) fun r1 => cb (decide (r1 = 0)) (bnd (idx a0 0) fun x2 => rq ((x2.2.2.1.length : Int).toNat < L) <| rq ((x2.2.2.1.length : Int) < 4611686018427387904) <| bnd (p_clean_Combine_l0 L a0 a1 (x2.2.2.1.length : Int).toNat 0 ([])) fun o36 => some (x2.1, x2.2.1, o36, 0)) (some (0, 0, ([] : List (Int × Int × Bool × Unit)), r1))
attribute [local go_sem] Ev.putR_s Ev.putR_0 Ev.thenO_s Ev.thenO_0 Ev.seqR_n Ev.seqR_e Ev.seqR_r Ev.seqR_0 Ev.blkR_e Ev.blkR_n Ev.blkR_r Ev.blkR_0 Ev.normR_s Ev.normR_0 Ev.outR_r Ev.outR_n Ev.outR_0 Ev.retS_s Ev.retS_0 Ev.pureO_s Ev.pureO_0 Ev.topR_0 Ev.topR_t Ev.topR_t0 Ev.oneL_0 Ev.oneL_s Ev.topR_d Ev.topR_nils Ev.topR_agg Ev.topR_rs Ev.evOp_move Ev.evOp_assign Ev.evOp_pick Ev.evOp_alloc Ev.evOp_box Ev.evOp_build Ev.evOp_buildSlice Ev.evOp_load Ev.evOp_store Ev.evOp_makeMap Ev.evOp_lookup Ev.evOp_mapUpdate Ev.evOp_insert Ev.evOp_nilCheck Ev.evOp_binOp Ev.evOp_unOp Ev.evOp_convert Ev.evOp_makeFunc Ev.evOp_makeSlice Ev.evOp_slice Ev.evOp_fieldAddr Ev.evOp_field Ev.evOp_indexAddr Ev.evOp_index Ev.evOp_extract Ev.evOp_call Ev.evOp_append Ev.evOp_clear Ev.evOp_len Ev.evLen_d Ev.evLen_rs Ev.evLen_nils Ev.evLen_nila Ev.evLen_mp Ev.evOp_min Ev.evOp_max Ev.condR_b Ev.condR_t Ev.evOps_nil Ev.evOps_plain Ev.evOps_guard Ev.runG_eq Ev.skipG_eq Ev.condL_tt Ev.condL_ff Ev.condL_tf Ev.condL_ft Ev.condL_u Ev.condC_t Ev.condC_f Ev.evC_skip Ev.evC_ret Ev.evC_exit Ev.evC_label Ev.evC_region Ev.evC_draw Ev.evC_seq Ev.evC_cond Ev.evC_block Ev.evC_loop Ev.fin_d Ev.fin_nila Ev.fin_nils Ev.fin_agg_ Ev.fin_rs Ev.finS_s Ev.mapO_fin Ev.upd_upd Ev.argv_d Ev.argv_nila Ev.argv_nils Ev.argv_agg Ev.argv_rs Ev.argv_p Ev.fk_low Ev.appendTo_nils Ev.appendTo_nila Ev.appendTo_rs Ev.consV_d Ev.consV_agg Ev.consV_p Ev.consV_rs Ev.consV_nila Ev.consV_nils Ev.consV_fn Ev.consV_und Ev.consV_jk Ev.consV_grown Ev.topR_grown Ev.len_grown Ev.consV_mp Ev.sameK_i Ev.sameK_s Ev.mget_0 Ev.mget_hit Ev.mget_miss Ev.mput_0 Ev.mput_hit Ev.mput_miss Ev.apartAll Ev.apartL Ev.apartV Ev.freeAll Ev.sel Ev.keyOfV Ev.evLookup Ev.evPut Ev.hintOk Ev.keyOk Ev.consP Ev.lookV Ev.guardV Ev.dstAt Ev.evPure Ev.evStore Ev.evBin Ev.evBinO Ev.evNil Ev.isNilC Ev.evUn Ev.evConv Ev.evSlice Ev.optI Ev.foldI Ev.capsOk Ev.noTup Ev.nth Ev.setN Ev.killAt Ev.pad Ev.V.get Ev.V.put Ev.putD Ev.newBlk Ev.upd Ev.keq Ev.empty Ev.evCall Ev.V.args Ev.argP Ev.callOf Ev.evNilP Ev.isNilP Ev.look Ev.V.view.views Ev.V.view Ev.V.toD Ev.V.toD.V.toDs Ev.V.pure.pures Ev.V.pure Ev.D.flat.flats Ev.D.flat Ev.mkAgg Ev.allD Ev.aggParts Ev.setParts Ev.setElems Ev.getPath Ev.setPath Ev.subL Ev.eqD Ev.eqD.eqDs Ev.and2 Ev.strCut Ev.evalT Ev.constT Ev.evArgs Ev.mask Ev.maskOf Ev.tableOf Ev.compT Ev.resV Ev.retV Ev.mapO Ev.hT_nila Ev.eO_nila Ev.pL_nila Ev.evLen_gl Ev.r_nila Ev.frzO_n Ev.frzO_e Ev.frzO_r Ev.frzO_0 Ev.mb_z Ev.mb_0 Ev.mb_s Ev.frzL_t Ev.frzL_f Ev.frzL_0 Ev.frzT_nils Ev.frzT_rs Ev.frzT_p Ev.frzK_i Ev.keyIn_i Ev.rI_nil Ev.rI_cons Ev.rI_row Ev.rI_app Ev.r_d Ev.r_nils Ev.r_agg Ev.r_rs Ev.r_gl Ev.vw_row Ev.vw_app Ev.appO_s Ev.frzT_gl Ev.allD_gl Ev.killAt_i Ev.tkOne_i Ev.hT_agg Ev.hT_vagg Ev.hT_int Ev.hT_bool Ev.hT_str Ev.hT_sl Ev.hT_ptr Ev.hT_np Ev.hT_p Ev.hT_rs Ev.hT_mp Ev.hT_nils Ev.hT_fn Ev.hT_jk Ev.hT_gl Ev.eO_sl Ev.eO_nils Ev.eO_rs Ev.eT_sl Ev.eT_rs Ev.pL_str Ev.pL_sl Ev.pL_rs Ev.pL_nils Ev.pL_min Ev.pL_max Ev.len_glB Ev.noTup_gl Ev.rowV_len Ev.rowV_nil Ev.rowV_cons Ev.rowV_append Ev.rowV_set Ev.rowV_replicate Ev.nth_row Ev.row_take Ev.row_drop Ev.toDs_row Ev.fin_row Ev.map_row Ev.map_take_ Ev.map_drop_ Ev.Bk_i Ev.GlB_0 Ev.GlB_mk Ev.gl_nil Ev.gl_cons Ev.gl_snoc Ev.gl_setN Ev.appendTo_gl Ev.consV_gl Ev.elems_gl Ev.fin_gl Ev.view_gl Ev.argv_gl Ev.topR_gl Ev.sp_z Ev.sp_0 Ev.sp_s Ev.km_z Ev.km_0 Ev.km_s Ev.beq_toList Ev.nc0 Ev.bq_t Ev.bq_f Ev.bodyN Ev.le_maxRow Int.cast_ofNat_Int IntWalk.i64_in IntWalk.u64_in IntWalk.u8_in beq_self_eq_true Bool.true_beq Bool.false_beq Bool.and_true Bool.true_and Bool.false_and Bool.and_false Bool.and_self Bool.not_true Bool.not_false Bool.not_eq_true cond_true cond_false if_true if_false and_true true_and and_self decide_true decide_false Bool.or_true Bool.true_or Bool.or_false Bool.false_or List.isEmpty List.isEmpty_nil List.size_toArray List.map List.length_map List.length_cons List.length_nil Option.map Option.bind Option.getD Option.isSome List.replicate Bool.false_eq_true implies_true false_implies forall_const Array.toList Array.isEmpty List.append List.nil_append List.cons_append List.drop_zero List.take_length List.take_succ_cons List.take_zero List.take_nil List.getElem?_map List.getElem?_cons_zero List.getElem?_cons_succ List.getElem?_nil List.append_nil eq_self Int.toNat_natCast List.length_append Nat.zero_add Nat.add_zero List.length_replicate Nat.sub_zero Option.map_some Option.map_none Int.le_refl Nat.le_refl Int.natCast_nonneg List.map_append
attribute [local go_sem_proc] Nat.reduceAdd Nat.reduceSub Nat.reduceMul Nat.reduceEqDiff Nat.reduceBEq Nat.reduceLT Nat.reduceLeDiff Nat.reducePow Int.reduceToNat Int.reduceLT Int.reduceLE Int.reduceGT Int.reduceGE Int.reduceEq Int.reduceNeg Int.reduceAdd Int.reduceSub Int.reduceMul reduceCtorEq
attribute [local go_sem_proc ↓] reduceIte
noncomputable def G_clean_Combine (L : Nat) : Specs := [(26, s_clean_valid L), (27, s_bound_Fuse_Quanta L)]
noncomputable def T_clean_Combine : Table := tableOf [(14, en14)]
theorem Go_clean_Combine (L : Nat) (hL : L ≤ 4611686018427387904) : ∀ g s, Ev.look (G_clean_Combine L) g = some s → SpecOk Try.prog g s := (specs_cons (ok_clean_valid L hL) (specs_cons (ok_bound_Fuse_Quanta L hL) specs_nil))
theorem To_clean_Combine (L : Nat) : TableOk Try.prog ((G_clean_Combine L).map (·.1)) T_clean_Combine := (table_cons Try.func14 (by kernel_rfl) (by kernel_rfl) table_nil)
theorem lk_clean_Combine_26 (L : Nat) : Ev.look (G_clean_Combine L) 26 = some (s_clean_valid L) := nr rfl
theorem lk_clean_Combine_27 (L : Nat) : Ev.look (G_clean_Combine L) 27 = some (s_bound_Fuse_Quanta L) := nr rfl
attribute [local go_sem] Ty.tk3 Ty.ik3 Ty.ek3 Ty.zv3 Ty.by3 Ty.so3 Ty.tk4 Ty.ub4 Ty.ek4 Ty.zv4 Ty.by4 Ty.so4 Ty.tk22 Ty.zv22 Ty.by22 Ty.so22 Ty.tk24 Ty.ik24 Ty.ek24 Ty.zv24 Ty.by24 Ty.so24 Ty.tk40 Ty.zv40 Ty.by40 Ty.so40 Ty.tk42 Ty.ct42 Ty.zv42 Ty.by42 Ty.so42 Ty.tk45 Ty.ik45 Ty.ek45 Ty.zv45 Ty.by45 Ty.so45 Ty.tk47 Ty.ct47 Ty.ek47 Ty.zv47 Ty.by47 Ty.so47 Ty.k22_e Ty.k40_e Ty.k42_e Ty.k47_e E.dw14_4 E.kl14_4 E.nc14_4 E.dw14_14 E.kl14_14 E.nc14_14 E.mk14_0 E.mk14_2 E.mk14_1000001 E.mk14_1000002 E.mk14_1000003 E.mk14_1000004 E.mk14_1000000 E.fz14_0 E.fi14_0 E.fz14_2 E.fi14_2 E.lb14_0 E.lb14_2 lk_clean_Combine_26 lk_clean_Combine_27 s_clean_valid_run s_bound_Fuse_Quanta_run loopN loops Try.f14
def Q0_p_clean_Combine_l1 (a0 : List (Int × Int × (List (Int × Int × Bool × Unit)) × Unit)) (a1 : Int) (s5 : Int) (a4 : Int) (a6 : Int) (a7 : Int) (s17 : List (Int × Int × Bool × Unit)) (u : List (Int × Int × Bool × Unit)) (z : Out) : Prop := ∃ env st, z = some (.exit 2, env, st) ∧ env = sp 61 0 [(0, .d (.sl 42 (a0.map k42.e))), (1, .d (.int .i64 a1)), (4, .p (0, 4) (st (0, 4)).ver 0 []), (7, .p (0, 7) (st (0, 7)).ver 0 []), (9, gl 47 (0, 49) (st (0, 49)).ver (rowV k47.e u)), (32, .d (.int .i64 a4)), (33, .d (.int .i64 s5))] ∧ Bk (st (0, 4)) 42 [.agg 42 [.d (.int .i64 0), .d (.int .i64 0), .nils 47]] ∧ Bk (st (0, 7)) 42 [.agg 42 [.d (.int .i64 a6), .d (.int .i64 a7), gl 47 (0, 57) (st (0, 57)).ver (rowV k47.e s17)]] ∧ GlB (st (0, 49)) 47 (rowV k47.e u) ∧ GlB (st (0, 57)) 47 (rowV k47.e s17)
abbrev Q_p_clean_Combine_l1 (a0 : List (Int × Int × (List (Int × Int × Bool × Unit)) × Unit)) (a1 : Int) (s5 : Int) (a4 : Int) (a6 : Int) (a7 : Int) (s17 : List (Int × Int × Bool × Unit)) (o : List (Int × Int × Bool × Unit)) (z : Out) : Prop := Q0_p_clean_Combine_l1 a0 a1 s5 a4 a6 a7 s17 o z
theorem l_p_clean_Combine_l1 (L : Nat) (hL : L ≤ 4611686018427387904) (a0 : List (Int × Int × (List (Int × Int × Bool × Unit)) × Unit)) (a1 : Int) (s5 : Int) (a4 : Int) (a6 : Int) (a7 : Int) (s17 : List (Int × Int × Bool × Unit)) : ∀ (tl : List (Int × Int × (List (Int × Int × Bool × Unit)) × Unit)) (n : Nat) (s28 : Int) (s30 : List (Int × Int × Bool × Unit)) (env : List V) (st : Store) (o : List (Int × Int × Bool × Unit)), tl.length < n → Rng a0 s28 tl → mask (maskOf en14.ms 2) env = sp 61 0 [(0, .d (.sl 42 (a0.map k42.e))), (1, .d (.int .i64 a1)), (4, .p (0, 4) (st (0, 4)).ver 0 []), (7, .p (0, 7) (st (0, 7)).ver 0 []), (8, .d (.int .i64 s5)), (9, gl 47 (0, 49) (st (0, 49)).ver (rowV k47.e s30)), (32, .d (.int .i64 a4)), (33, .d (.int .i64 s5)), (36, .d (.sl 42 (a0.map k42.e))), (37, .d (.int .i64 (a0.length : Int))), (38, .d (.int .i64 s28))] → Bk (st (0, 4)) 42 [.agg 42 [.d (.int .i64 0), .d (.int .i64 0), .nils 47]] → Bk (st (0, 7)) 42 [.agg 42 [.d (.int .i64 a6), .d (.int .i64 a7), gl 47 (0, 57) (st (0, 57)).ver (rowV k47.e s17)]] → GlB (st (0, 49)) 47 (rowV k47.e s30) → GlB (st (0, 57)) 47 (rowV k47.e s17) → p_clean_Combine_l1 L s5 tl s30 = some o →
    Q_p_clean_Combine_l1 a0 a1 s5 a4 a6 a7 s17 o (iter (evC Try.prog (G_clean_Combine L) (evF Try.prog (G_clean_Combine L) T_clean_Combine L 0) L en14.ms 0 2 lb14_2) (maskOf en14.ms 2) n env st) := by
  intro tl
  induction tl with
  | nil =>
    intro n s28 s30 env st o hn hR he hb0 hb1 hb2 hb3 h
    obtain ⟨n, rfl⟩ : ∃ m, n = m + 1 := ⟨n - 1, by omega⟩
    obtain ⟨be0, bv0, bl0⟩ := hb0
    obtain ⟨be1, bv1, bl1⟩ := hb1
    have g0 := rng_nil hR
    rw [iter, he]
    clear he
    generalize hK : iter _ _ n = K
    rw [p_clean_Combine_l1] at h
    revert h
    rintro ⟨⟩
    simp only [go_sem, *]
    refine (⟨_, _, rfl, ?_, ?_, ?_, ?_, ?_⟩ : Q0_p_clean_Combine_l1 _ _ _ _ _ _ _ _ _)
    all_goals simp only [go_sem, *]
  | cons x27 tl ih =>
    intro n s28 s30 env st o hn hR he hb0 hb1 hb2 hb3 h
    obtain ⟨n, rfl⟩ : ∃ m, n = m + 1 := ⟨n - 1, by omega⟩
    obtain ⟨be0, bv0, bl0⟩ := hb0
    obtain ⟨be1, bv1, bl1⟩ := hb1
    replace ih : Hold _ := ih
    replace hR := rng_s hR
    obtain ⟨g0, g1, g2, g3, hR⟩ := hR
    rw [iter, he]
    clear he
    generalize hK : iter _ _ n = K
    rw [p_clean_Combine_l1] at h
    revert h
    refine idx_i fun x32 c1 c2 c3 => ?_
    refine rq_i fun c4 => ?_
    refine rq_i fun c5 => ?_
    intro h
    simp only [go_sem, *]
    subst hK
    refine ih n (s28 + 1) (s30 ++ [x32]) _ _ _ (by simp only [List.length_cons] at hn; omega) hR ?_ ?_ ?_ ?_ ?_ h
    all_goals simp only [go_sem, *]
def Q0_p_clean_Combine_l0 (a0 : List (Int × Int × (List (Int × Int × Bool × Unit)) × Unit)) (a1 : Int) (a4 : Int) (a6 : Int) (a7 : Int) (u : List (Int × Int × Bool × Unit)) (z : Out) : Prop := ∃ env st, z = some (.exit 0, env, st) ∧ env = sp 61 0 [(4, .p (0, 4) (st (0, 4)).ver 0 []), (7, .p (0, 7) (st (0, 7)).ver 0 [])] ∧ Bk (st (0, 4)) 42 [.agg 42 [.d (.int .i64 0), .d (.int .i64 0), .nils 47]] ∧ Bk (st (0, 7)) 42 [.agg 42 [.d (.int .i64 a6), .d (.int .i64 a7), gl 47 (0, 57) (st (0, 57)).ver (rowV k47.e u)]] ∧ GlB (st (0, 57)) 47 (rowV k47.e u)
abbrev Q_p_clean_Combine_l0 (a0 : List (Int × Int × (List (Int × Int × Bool × Unit)) × Unit)) (a1 : Int) (a4 : Int) (a6 : Int) (a7 : Int) (o : List (Int × Int × Bool × Unit)) (z : Out) : Prop := Q0_p_clean_Combine_l0 a0 a1 a4 a6 a7 o z
theorem l_p_clean_Combine_l0 (L : Nat) (hL : L ≤ 4611686018427387904) (a0 : List (Int × Int × (List (Int × Int × Bool × Unit)) × Unit)) (a1 : Int) (a4 : Int) (a6 : Int) (a7 : Int) : ∀ (tl n : Nat) (s5 : Int) (s17 : List (Int × Int × Bool × Unit)) (env : List V) (st : Store) (o : List (Int × Int × Bool × Unit)), tl < n → Cnt a4 s5 tl → mask (maskOf en14.ms 0) env = sp 61 0 [(0, .d (.sl 42 (a0.map k42.e))), (1, .d (.int .i64 a1)), (4, .p (0, 4) (st (0, 4)).ver 0 []), (7, .p (0, 7) (st (0, 7)).ver 0 []), (32, .d (.int .i64 a4)), (33, .d (.int .i64 s5))] → Bk (st (0, 4)) 42 [.agg 42 [.d (.int .i64 0), .d (.int .i64 0), .nils 47]] → Bk (st (0, 7)) 42 [.agg 42 [.d (.int .i64 a6), .d (.int .i64 a7), gl 47 (0, 57) (st (0, 57)).ver (rowV k47.e s17)]] → GlB (st (0, 57)) 47 (rowV k47.e s17) → p_clean_Combine_l0 L a0 a1 tl s5 s17 = some o →
    Q_p_clean_Combine_l0 a0 a1 a4 a6 a7 o (iter (evC Try.prog (G_clean_Combine L) (evF Try.prog (G_clean_Combine L) T_clean_Combine L 0) L en14.ms 0 0 lb14_0) (maskOf en14.ms 0) n env st) := by
  intro tl
  induction tl with
  | zero =>
    intro n s5 s17 env st o hn hR he hb0 hb1 hb2 h
    obtain ⟨n, rfl⟩ : ∃ m, n = m + 1 := ⟨n - 1, by omega⟩
    obtain ⟨be0, bv0, bl0⟩ := hb0
    obtain ⟨be1, bv1, bl1⟩ := hb1
    have g0 := cnt_nil hR
    rw [iter, he]
    clear he
    generalize hK : iter _ _ n = K
    rw [p_clean_Combine_l0] at h
    revert h
    rintro ⟨⟩
    simp only [go_sem, *]
    refine (⟨_, _, rfl, ?_, ?_, ?_, ?_⟩ : Q0_p_clean_Combine_l0 _ _ _ _ _ _ _)
    all_goals simp only [go_sem, *]
  | succ tl ih =>
    intro n s5 s17 env st o hn hR he hb0 hb1 hb2 h
    obtain ⟨n, rfl⟩ : ∃ m, n = m + 1 := ⟨n - 1, by omega⟩
    obtain ⟨be0, bv0, bl0⟩ := hb0
    obtain ⟨be1, bv1, bl1⟩ := hb1
    replace ih : Hold _ := ih
    replace hR := cnt_s hR
    obtain ⟨g0, g1, g3, hR⟩ := hR
    rw [iter, he]
    clear he
    generalize hK : iter _ _ n = K
    rw [p_clean_Combine_l0] at h
    revert h
    refine rq_i fun c1 => ?_
    refine bnd_i fun o33 ho2 => ?_
    intro h
    simp only [go_sem, *]
    generalize hz4 : iter _ _ _ _ _ = z3
    have hq5 : Q_p_clean_Combine_l1 a0 a1 s5 a4 a6 a7 s17 o33 z3 := by
      rw [← hz4]
      refine l_p_clean_Combine_l1 L hL a0 a1 s5 a4 a6 a7 s17 a0 L 0 ([]) _ _ _ c1 (rng_0 c1 hL) ?_ ?_ ?_ ?_ ?_ ho2
      all_goals simp only [go_sem, *]
    clear hz4 ho2
    obtain ⟨_, st34, rfl, rfl, ⟨k61, k62, k63⟩, ⟨k71, k72, k73⟩, k8, k9⟩ := hq5
    revert h
    refine bnd_i fun r35 c10 => ?_
    refine rq_i fun c11 => ?_
    refine rq_i fun c12 => ?_
    intro h
    simp only [go_sem, *]
    subst hK
    refine ih n (s5 + 1) (s17 ++ [(r35.1, r35.2.1, r35.2.2, ())]) _ _ _ (by omega) hR ?_ ?_ ?_ ?_ h
    all_goals simp only [go_sem, *]
theorem e_clean_Combine (L : Nat) (hL : L ≤ 4611686018427387904) (a0 : List (Int × Int × (List (Int × Int × Bool × Unit)) × Unit)) (a1 : Int) (res : Int × Int × (List (Int × Int × Bool × Unit)) × Int) (h : p_clean_Combine L a0 a1 = some res) : evTop Try.prog (G_clean_Combine L) T_clean_Combine L 1 14 [.sl 42 (a0.map k42.e), .int .i64 a1] = some [.agg 42 [.int .i64 res.1, .int .i64 res.2.1, .sl 47 (res.2.2.1.map k47.e)], .int .i64 res.2.2.2] := by
  revert h
  unfold p_clean_Combine evTop
  simp only [List.map]
  rw [evF_s (fn := Try.f14) (msk := en14.ms) (hT := by rfl) (hb := by rfl)]
  refine bnd_i fun r1 c1 => ?_
  refine cb_i (fun c2 => ?_) (fun c2 => ?_)
  · refine idx_i fun x2 c3 c4 c5 => ?_
    have c5 : a0[0]? = some x2 := c5
    refine rq_i fun c6 => ?_
    refine rq_i fun c7 => ?_
    refine bnd_i fun o36 ho8 => ?_
    intro h
    simp only [go_sem, *]
    generalize hz10 : iter _ _ _ _ _ = z9
    have hq11 : Q_p_clean_Combine_l0 a0 a1 (x2.2.2.1.length : Int) x2.1 x2.2.1 o36 z9 := by
      rw [← hz10]
      refine l_p_clean_Combine_l0 L hL a0 a1 (x2.2.2.1.length : Int) x2.1 x2.2.1 _ L 0 ([]) _ _ _ c6 (cnt_00 (by decide) c7) ?_ ?_ ?_ ?_ ho8
      all_goals simp only [go_sem, *]
    clear hz10 ho8
    obtain ⟨_, st37, rfl, rfl, ⟨k121, k122, k123⟩, ⟨k131, k132, k133⟩, k14⟩ := hq11
    revert h
    rintro ⟨⟩
    simp only [go_sem, *]
  · rintro ⟨⟩
    simp only [go_sem, *]
noncomputable def s_clean_Combine (L : Nat) : Ev.Spec := specP (cCons k22 (cCons (cI .i64) cNil)) (fun x => p_clean_Combine L x.1 x.2.1) (fun r => [.agg 42 [.int .i64 r.1, .int .i64 r.2.1, .sl 47 (r.2.2.1.map k47.e)], .int .i64 r.2.2.2])
theorem s_clean_Combine_run (L : Nat) (a0 : List (Int × Int × (List (Int × Int × Bool × Unit)) × Unit)) (a1 : Int) : (s_clean_Combine L).run [.sl 42 (a0.map k42.e), .int .i64 a1] = (p_clean_Combine L a0 a1).map fun r => [.agg 42 [.int .i64 r.1, .int .i64 r.2.1, .sl 47 (r.2.2.1.map k47.e)], .int .i64 r.2.2.2] := specP_run (cCons k22 (cCons (cI .i64) cNil)) (fun x => p_clean_Combine L x.1 x.2.1) (fun r => [.agg 42 [.int .i64 r.1, .int .i64 r.2.1, .sl 47 (r.2.2.1.map k47.e)], .int .i64 r.2.2.2]) (a0, a1, ())
theorem ok_clean_Combine (L : Nat) (hL : L ≤ 4611686018427387904) : SpecOk Try.prog 14 (s_clean_Combine L) := specP_ok mixed (Go_clean_Combine L hL) (To_clean_Combine L) fun x r h => ⟨L, 1, e_clean_Combine L hL x.1 x.2.1 r h⟩
end Go.Proofs.Ytnopgienncmcmaa.P
end
section
set_option linter.unusedVariables false
set_option linter.unusedSimpArgs false
set_option maxRecDepth 100000
namespace Go.Proofs.Ytnopgienncmcmaa.E
open Go.Ev
noncomputable def en16 : Entry := ⟨Try.f16, [(0, mb 88 0 [1, 2, 4, 16, 17, 18]), (2, mb 88 0 [1, 2, 4, 29, 30, 31]), (1000001, mb 88 0 [1, 2, 4]), (1000002, mb 88 0 [1, 2, 4, 16, 17, 18]), (1000003, mb 88 0 [1, 2, 4]), (1000004, mb 88 0 [1, 2, 4, 29, 30, 31]), (1000000, mb 88 0 [4, 5]), (5000020, mb 88 0 [11])]⟩
theorem dw16_13 (lv : Nat) (env : List V) (st : Store) (o : Option (List V × Store)) : drawR en16.ms 13 lv env st o = if lv < 1000000000000000000000000000000 then (o) else none := nr rfl
theorem kl16_13 (lv : Nat) (st : Store) : killR en16.ms 13 lv st = st := nr rfl
theorem nc16_13 : ncOf en16.ms 13 = false := nr rfl
theorem dw16_20 (lv : Nat) (env : List V) (st : Store) (o : Option (List V × Store)) : drawR en16.ms 20 lv env st o = if lv < 1000000000000000000000000000000 then (if (!(st (lv, 11)).live && true) = true then (o) else none) else none := nr rfl
theorem kl16_20 (lv : Nat) (st : Store) : killR en16.ms 20 lv st = killAt (st) (lv, 11) := nr rfl
theorem nc16_20 : ncOf en16.ms 20 = false := nr rfl
theorem dw16_21 (lv : Nat) (env : List V) (st : Store) (o : Option (List V × Store)) : drawR en16.ms 21 lv env st o = if lv < 1000000000000000000000000000000 then (o) else none := nr rfl
theorem kl16_21 (lv : Nat) (st : Store) : killR en16.ms 21 lv st = st := nr rfl
theorem nc16_21 : ncOf en16.ms 21 = false := nr rfl
theorem mk16_0 (vs : List V) : mask (maskOf en16.ms 0) vs = km 88 0 [1, 2, 4, 16, 17, 18] vs := mask_mb _ _ _ _
theorem mk16_2 (vs : List V) : mask (maskOf en16.ms 2) vs = km 88 0 [1, 2, 4, 29, 30, 31] vs := mask_mb _ _ _ _
theorem mk16_1000001 (vs : List V) : mask (maskOf en16.ms 1000001) vs = km 88 0 [1, 2, 4] vs := mask_mb _ _ _ _
theorem mk16_1000002 (vs : List V) : mask (maskOf en16.ms 1000002) vs = km 88 0 [1, 2, 4, 16, 17, 18] vs := mask_mb _ _ _ _
theorem mk16_1000003 (vs : List V) : mask (maskOf en16.ms 1000003) vs = km 88 0 [1, 2, 4] vs := mask_mb _ _ _ _
theorem mk16_1000004 (vs : List V) : mask (maskOf en16.ms 1000004) vs = km 88 0 [1, 2, 4, 29, 30, 31] vs := mask_mb _ _ _ _
theorem mk16_1000000 (vs : List V) : mask (maskOf en16.ms 1000000) vs = km 88 0 [4, 5] vs := mask_mb _ _ _ _
theorem fz16_0 (lv : Nat) (f : Run) : frzF en16.ms lv 0 f = f := nr rfl
theorem fi16_0 (lv : Nat) (env : List V) (st : Store) (q : Store → Out) : frzI en16.ms lv 0 env st q = q st := nr rfl
theorem fz16_2 (lv : Nat) (f : Run) : frzF en16.ms lv 2 f = f := nr rfl
theorem fi16_2 (lv : Nat) (env : List V) (st : Store) (q : Store → Out) : frzI en16.ms lv 2 env st q = q st := nr rfl
noncomputable def lb16_0 : Code := loopN Try.f16 0
noncomputable def lb16_2 : Code := loopN Try.f16 1
end Go.Proofs.Ytnopgienncmcmaa.E
end
section
set_option linter.unusedVariables false
set_option linter.unusedSimpArgs false
set_option maxRecDepth 100000
namespace Go.Proofs.Ytnopgienncmcmaa.E
open Go.Ev
noncomputable def en31 : Entry := ⟨Try.f31, [(0, mb 37 0 [1, 2, 3, 9, 13, 14]), (2, mb 37 0 [1, 2, 3, 9, 10, 11, 13, 14, 17, 18]), (1000001, mb 37 0 [9]), (1000002, mb 37 0 [1, 2, 3, 9, 13, 14]), (1000003, mb 37 0 [1, 2, 3, 9, 11, 13, 14]), (1000004, mb 37 0 [1, 2, 3, 9, 10, 11, 13, 14, 17, 18]), (1000000, mb 37 0 [8])]⟩
theorem mk31_0 (vs : List V) : mask (maskOf en31.ms 0) vs = km 37 0 [1, 2, 3, 9, 13, 14] vs := mask_mb _ _ _ _
theorem mk31_2 (vs : List V) : mask (maskOf en31.ms 2) vs = km 37 0 [1, 2, 3, 9, 10, 11, 13, 14, 17, 18] vs := mask_mb _ _ _ _
theorem mk31_1000001 (vs : List V) : mask (maskOf en31.ms 1000001) vs = km 37 0 [9] vs := mask_mb _ _ _ _
theorem mk31_1000002 (vs : List V) : mask (maskOf en31.ms 1000002) vs = km 37 0 [1, 2, 3, 9, 13, 14] vs := mask_mb _ _ _ _
theorem mk31_1000003 (vs : List V) : mask (maskOf en31.ms 1000003) vs = km 37 0 [1, 2, 3, 9, 11, 13, 14] vs := mask_mb _ _ _ _
theorem mk31_1000004 (vs : List V) : mask (maskOf en31.ms 1000004) vs = km 37 0 [1, 2, 3, 9, 10, 11, 13, 14, 17, 18] vs := mask_mb _ _ _ _
theorem mk31_1000000 (vs : List V) : mask (maskOf en31.ms 1000000) vs = km 37 0 [8] vs := mask_mb _ _ _ _
theorem fz31_0 (lv : Nat) (f : Run) : frzF en31.ms lv 0 f = f := nr rfl
theorem fi31_0 (lv : Nat) (env : List V) (st : Store) (q : Store → Out) : frzI en31.ms lv 0 env st q = q st := nr rfl
theorem fz31_2 (lv : Nat) (f : Run) : frzF en31.ms lv 2 f = f := nr rfl
theorem fi31_2 (lv : Nat) (env : List V) (st : Store) (q : Store → Out) : frzI en31.ms lv 2 env st q = q st := nr rfl
noncomputable def lb31_0 : Code := loopN Try.f31 0
noncomputable def lb31_2 : Code := loopN Try.f31 1
end Go.Proofs.Ytnopgienncmcmaa.E
end
section
set_option linter.unusedVariables false
set_option linter.unusedSimpArgs false
set_option maxRecDepth 100000
namespace Go.Proofs.Ytnopgienncmcmaa.E
open Go.Ev
noncomputable def en32 : Entry := ⟨Try.f32, [(1000000, mb 14 0 [5])]⟩
theorem mk32_1000000 (vs : List V) : mask (maskOf en32.ms 1000000) vs = km 14 0 [5] vs := mask_mb _ _ _ _
end Go.Proofs.Ytnopgienncmcmaa.E
end
section
set_option linter.unusedVariables false
set_option linter.unusedSimpArgs false
set_option maxRecDepth 100000
namespace Go.Proofs.Ytnopgienncmcmaa.P
open Go.Ev Go.IntKind Go.Proofs.Ytnopgienncmcmaa Go.Proofs.Ytnopgienncmcmaa.Ty Go.Proofs.Ytnopgienncmcmaa.E
def p_spyref3_Combined_1 (L : Nat) (a0 : Int) (a1 : Int) (a2 : List (Int × Int × (List (Int × Int × Bool × Unit)) × Unit)) : Option (Int × Int × Bool) := bnd (idx a2 a0) fun x1 => bnd (idx x1.2.2.1 a1) fun x2 => some (x2.1, x2.2.1, x2.2.2.1)
attribute [local go_sem] Ev.putR_s Ev.putR_0 Ev.thenO_s Ev.thenO_0 Ev.seqR_n Ev.seqR_e Ev.seqR_r Ev.seqR_0 Ev.blkR_e Ev.blkR_n Ev.blkR_r Ev.blkR_0 Ev.normR_s Ev.normR_0 Ev.outR_r Ev.outR_n Ev.outR_0 Ev.retS_s Ev.retS_0 Ev.pureO_s Ev.pureO_0 Ev.topR_0 Ev.topR_t Ev.topR_t0 Ev.oneL_0 Ev.oneL_s Ev.topR_d Ev.topR_nils Ev.topR_agg Ev.topR_rs Ev.evOp_move Ev.evOp_assign Ev.evOp_pick Ev.evOp_alloc Ev.evOp_box Ev.evOp_build Ev.evOp_buildSlice Ev.evOp_load Ev.evOp_store Ev.evOp_makeMap Ev.evOp_lookup Ev.evOp_mapUpdate Ev.evOp_insert Ev.evOp_nilCheck Ev.evOp_binOp Ev.evOp_unOp Ev.evOp_convert Ev.evOp_makeFunc Ev.evOp_makeSlice Ev.evOp_slice Ev.evOp_fieldAddr Ev.evOp_field Ev.evOp_indexAddr Ev.evOp_index Ev.evOp_extract Ev.evOp_call Ev.evOp_append Ev.evOp_clear Ev.evOp_len Ev.evLen_d Ev.evLen_rs Ev.evLen_nils Ev.evLen_nila Ev.evLen_mp Ev.evOp_min Ev.evOp_max Ev.condR_b Ev.condR_t Ev.evOps_nil Ev.evOps_plain Ev.evOps_guard Ev.runG_eq Ev.skipG_eq Ev.condL_tt Ev.condL_ff Ev.condL_tf Ev.condL_ft Ev.condL_u Ev.condC_t Ev.condC_f Ev.evC_skip Ev.evC_ret Ev.evC_exit Ev.evC_label Ev.evC_region Ev.evC_draw Ev.evC_seq Ev.evC_cond Ev.evC_block Ev.evC_loop Ev.fin_d Ev.fin_nila Ev.fin_nils Ev.fin_agg_ Ev.fin_rs Ev.finS_s Ev.mapO_fin Ev.upd_upd Ev.argv_d Ev.argv_nila Ev.argv_nils Ev.argv_agg Ev.argv_rs Ev.argv_p Ev.fk_low Ev.appendTo_nils Ev.appendTo_nila Ev.appendTo_rs Ev.consV_d Ev.consV_agg Ev.consV_p Ev.consV_rs Ev.consV_nila Ev.consV_nils Ev.consV_fn Ev.consV_und Ev.consV_jk Ev.consV_grown Ev.topR_grown Ev.len_grown Ev.consV_mp Ev.sameK_i Ev.sameK_s Ev.mget_0 Ev.mget_hit Ev.mget_miss Ev.mput_0 Ev.mput_hit Ev.mput_miss Ev.apartAll Ev.apartL Ev.apartV Ev.freeAll Ev.sel Ev.keyOfV Ev.evLookup Ev.evPut Ev.hintOk Ev.keyOk Ev.consP Ev.lookV Ev.guardV Ev.dstAt Ev.evPure Ev.evStore Ev.evBin Ev.evBinO Ev.evNil Ev.isNilC Ev.evUn Ev.evConv Ev.evSlice Ev.optI Ev.foldI Ev.capsOk Ev.noTup Ev.nth Ev.setN Ev.killAt Ev.pad Ev.V.get Ev.V.put Ev.putD Ev.newBlk Ev.upd Ev.keq Ev.empty Ev.evCall Ev.V.args Ev.argP Ev.callOf Ev.evNilP Ev.isNilP Ev.look Ev.V.view.views Ev.V.view Ev.V.toD Ev.V.toD.V.toDs Ev.V.pure.pures Ev.V.pure Ev.D.flat.flats Ev.D.flat Ev.mkAgg Ev.allD Ev.aggParts Ev.setParts Ev.setElems Ev.getPath Ev.setPath Ev.subL Ev.eqD Ev.eqD.eqDs Ev.and2 Ev.strCut Ev.evalT Ev.constT Ev.evArgs Ev.mask Ev.maskOf Ev.tableOf Ev.compT Ev.resV Ev.retV Ev.mapO Ev.hT_nila Ev.eO_nila Ev.pL_nila Ev.evLen_gl Ev.r_nila Ev.frzO_n Ev.frzO_e Ev.frzO_r Ev.frzO_0 Ev.mb_z Ev.mb_0 Ev.mb_s Ev.frzL_t Ev.frzL_f Ev.frzL_0 Ev.frzT_nils Ev.frzT_rs Ev.frzT_p Ev.frzK_i Ev.keyIn_i Ev.rI_nil Ev.rI_cons Ev.rI_row Ev.rI_app Ev.r_d Ev.r_nils Ev.r_agg Ev.r_rs Ev.r_gl Ev.vw_row Ev.vw_app Ev.appO_s Ev.frzT_gl Ev.allD_gl Ev.killAt_i Ev.tkOne_i Ev.hT_agg Ev.hT_vagg Ev.hT_int Ev.hT_bool Ev.hT_str Ev.hT_sl Ev.hT_ptr Ev.hT_np Ev.hT_p Ev.hT_rs Ev.hT_mp Ev.hT_nils Ev.hT_fn Ev.hT_jk Ev.hT_gl Ev.eO_sl Ev.eO_nils Ev.eO_rs Ev.eT_sl Ev.eT_rs Ev.pL_str Ev.pL_sl Ev.pL_rs Ev.pL_nils Ev.pL_min Ev.pL_max Ev.len_glB Ev.noTup_gl Ev.rowV_len Ev.rowV_nil Ev.rowV_cons Ev.rowV_append Ev.rowV_set Ev.rowV_replicate Ev.nth_row Ev.row_take Ev.row_drop Ev.toDs_row Ev.fin_row Ev.map_row Ev.map_take_ Ev.map_drop_ Ev.Bk_i Ev.GlB_0 Ev.GlB_mk Ev.gl_nil Ev.gl_cons Ev.gl_snoc Ev.gl_setN Ev.appendTo_gl Ev.consV_gl Ev.elems_gl Ev.fin_gl Ev.view_gl Ev.argv_gl Ev.topR_gl Ev.sp_z Ev.sp_0 Ev.sp_s Ev.km_z Ev.km_0 Ev.km_s Ev.beq_toList Ev.nc0 Ev.bq_t Ev.bq_f Ev.bodyN Ev.le_maxRow Int.cast_ofNat_Int IntWalk.i64_in IntWalk.u64_in IntWalk.u8_in beq_self_eq_true Bool.true_beq Bool.false_beq Bool.and_true Bool.true_and Bool.false_and Bool.and_false Bool.and_self Bool.not_true Bool.not_false Bool.not_eq_true cond_true cond_false if_true if_false and_true true_and and_self decide_true decide_false Bool.or_true Bool.true_or Bool.or_false Bool.false_or List.isEmpty List.isEmpty_nil List.size_toArray List.map List.length_map List.length_cons List.length_nil Option.map Option.bind Option.getD Option.isSome List.replicate Bool.false_eq_true implies_true false_implies forall_const Array.toList Array.isEmpty List.append List.nil_append List.cons_append List.drop_zero List.take_length List.take_succ_cons List.take_zero List.take_nil List.getElem?_map List.getElem?_cons_zero List.getElem?_cons_succ List.getElem?_nil List.append_nil eq_self Int.toNat_natCast List.length_append Nat.zero_add Nat.add_zero List.length_replicate Nat.sub_zero Option.map_some Option.map_none Int.le_refl Nat.le_refl Int.natCast_nonneg List.map_append
attribute [local go_sem_proc] Nat.reduceAdd Nat.reduceSub Nat.reduceMul Nat.reduceEqDiff Nat.reduceBEq Nat.reduceLT Nat.reduceLeDiff Nat.reducePow Int.reduceToNat Int.reduceLT Int.reduceLE Int.reduceGT Int.reduceGE Int.reduceEq Int.reduceNeg Int.reduceAdd Int.reduceSub Int.reduceMul reduceCtorEq
attribute [local go_sem_proc ↓] reduceIte
noncomputable def G_spyref3_Combined_1 (L : Nat) : Specs := []
noncomputable def T_spyref3_Combined_1 : Table := tableOf [(32, en32)]
theorem Go_spyref3_Combined_1 (L : Nat) (hL : L ≤ 4611686018427387904) : ∀ g s, Ev.look (G_spyref3_Combined_1 L) g = some s → SpecOk Try.prog g s := specs_nil
theorem To_spyref3_Combined_1 (L : Nat) : TableOk Try.prog ((G_spyref3_Combined_1 L).map (·.1)) T_spyref3_Combined_1 := (table_cons Try.func32 (by kernel_rfl) (by kernel_rfl) table_nil)
attribute [local go_sem] Ty.tk3 Ty.ik3 Ty.ek3 Ty.zv3 Ty.by3 Ty.so3 Ty.tk4 Ty.ub4 Ty.ek4 Ty.zv4 Ty.by4 Ty.so4 Ty.tk22 Ty.zv22 Ty.by22 Ty.so22 Ty.tk40 Ty.zv40 Ty.by40 Ty.so40 Ty.tk42 Ty.ct42 Ty.zv42 Ty.by42 Ty.so42 Ty.tk45 Ty.ik45 Ty.ek45 Ty.zv45 Ty.by45 Ty.so45 Ty.tk47 Ty.ct47 Ty.ek47 Ty.zv47 Ty.by47 Ty.so47 Ty.k22_e Ty.k40_e Ty.k42_e Ty.k47_e E.mk32_1000000 loopN loops Try.f32
theorem e_spyref3_Combined_1 (L : Nat) (hL : L ≤ 4611686018427387904) (a0 : Int) (a1 : Int) (a2 : List (Int × Int × (List (Int × Int × Bool × Unit)) × Unit)) (res : Int × Int × Bool) (h : p_spyref3_Combined_1 L a0 a1 a2 = some res) : evTop Try.prog (G_spyref3_Combined_1 L) T_spyref3_Combined_1 L 1 32 [.int .i64 a0, .int .i64 a1, .ptr (.sl 42 (a2.map k42.e))] = some [.agg 47 [.int .i64 res.1, .int .i64 res.2.1, .bool res.2.2]] := by
  revert h
  unfold p_spyref3_Combined_1 evTop
  simp only [List.map]
  rw [evF_s (fn := Try.f32) (msk := en32.ms) (hT := by rfl) (hb := by rfl)]
  refine idx_i fun x1 c1 c2 c3 => ?_
  refine idx_i fun x2 c4 c5 c6 => ?_
  rintro ⟨⟩
  simp only [go_sem, *]
noncomputable def s_spyref3_Combined_1 (L : Nat) : Ev.Spec := specP (cCons (cI .i64) (cCons (cI .i64) (cCons (cP k22) cNil))) (fun x => p_spyref3_Combined_1 L x.1 x.2.1 x.2.2.1) (fun r => [.agg 47 [.int .i64 r.1, .int .i64 r.2.1, .bool r.2.2]])
theorem s_spyref3_Combined_1_run (L : Nat) (a0 : Int) (a1 : Int) (a2 : List (Int × Int × (List (Int × Int × Bool × Unit)) × Unit)) : (s_spyref3_Combined_1 L).run [.int .i64 a0, .int .i64 a1, .ptr (.sl 42 (a2.map k42.e))] = (p_spyref3_Combined_1 L a0 a1 a2).map fun r => [.agg 47 [.int .i64 r.1, .int .i64 r.2.1, .bool r.2.2]] := specP_run (cCons (cI .i64) (cCons (cI .i64) (cCons (cP k22) cNil))) (fun x => p_spyref3_Combined_1 L x.1 x.2.1 x.2.2.1) (fun r => [.agg 47 [.int .i64 r.1, .int .i64 r.2.1, .bool r.2.2]]) (a0, a1, a2, ())
theorem ok_spyref3_Combined_1 (L : Nat) (hL : L ≤ 4611686018427387904) : SpecOk Try.prog 32 (s_spyref3_Combined_1 L) := specP_ok mixed (Go_spyref3_Combined_1 L hL) (To_spyref3_Combined_1 L) fun x r h => ⟨L, 1, e_spyref3_Combined_1 L hL x.1 x.2.1 x.2.2.1 r h⟩
end Go.Proofs.Ytnopgienncmcmaa.P
end
section
set_option linter.unusedVariables false
set_option linter.unusedSimpArgs false
set_option maxRecDepth 100000
namespace Go.Proofs.Ytnopgienncmcmaa.P
open Go.Ev Go.IntKind Go.Proofs.Ytnopgienncmcmaa Go.Proofs.Ytnopgienncmcmaa.Ty Go.Proofs.Ytnopgienncmcmaa.E
def p_spyref3_Combined_l0 (L : Nat)  : List (Int × Int × (List (Int × Int × Bool × Unit)) × Unit) → Option (Sum Unit Int)
  | [] => some (.inl ())
  | x1 :: tl => bnd (p_spyref3_FieldFault L x1.1 x1.2.1 x1.2.2.1) fun r4 => cb (decide (r4 = 0)) (p_spyref3_Combined_l0 L  tl) (some (.inr r4))
def p_spyref3_Combined_l1 (L : Nat) (a0 : List (Int × Int × (List (Int × Int × Bool × Unit)) × Unit)) : List (Int × Int × (List (Int × Int × Bool × Unit)) × Unit) → Option (Sum Unit Unit)
  | [] => some (.inl ())
  | x7 :: tl => bnd (idx a0 0) fun x10 => cb (decide (x7.1 = x10.1)) (cb (decide (x7.2.1 = x10.2.1)) (p_spyref3_Combined_l1 L a0 tl) (some (.inr ()))) (some (.inr ()))
def p_spyref3_Combined_l3 (L : Nat) (s20 : Int) (a0 : List (Int × Int × (List (Int × Int × Bool × Unit)) × Unit)) : Nat → Int → (List (Int × Int × Bool × Unit)) → Option (List (Int × Int × Bool × Unit))
  | 0, s52, s54 => some s54
  | tl + 1, s52, s54 => bnd (p_spyref3_Combined_1 L s52 s20 a0) fun r56 => rq (s54.length + 1 ≤ maxRow) <| rq ((s54.length + 1) * 24 ≤ maxRow) <| p_spyref3_Combined_l3 L s20 a0 tl (s52 + 1) (s54 ++ [(r56.1, r56.2.1, r56.2.2, ())])
def p_spyref3_Combined_l2 (L : Nat) (a18 : Int) (a1 : Int) (a0 : List (Int × Int × (List (Int × Int × Bool × Unit)) × Unit)) : Nat → Int → (List (Int × Int × Bool × Unit)) → Option (List (Int × Int × Bool × Unit))
  | 0, s20, s35 => some s35
  | tl + 1, s20, s35 => rq (a18.toNat < L) <| rq (a18 < 4611686018427387904) <| bnd (p_spyref3_Combined_l3 L s20 a0 a18.toNat 0 ([])) fun o57 => bnd (p_spyref3_Fused_Quanta L o57 a1) fun r59 => rq (s35.length + 1 ≤ maxRow) <| rq ((s35.length + 1) * 24 ≤ maxRow) <| p_spyref3_Combined_l2 L a18 a1 a0 tl (s20 + 1) (s35 ++ [(r59.1, r59.2.1, r59.2.2, ())])
def p_spyref3_Combined (L : Nat) (a0 : List (Int × Int × (List (Int × Int × Bool × Unit)) × Unit)) (a1 : Int) : Option (Int × Int × (List (Int × Int × Bool × Unit)) × Int) := if (a0.length : Int) > 8 then (some (0, 0, ([] : List (Int × Int × Bool × Unit)), 2)) else (rq (a0.length < L) <| bnd (p_spyref3_Combined_l0 L a0) fun o5 => match o5 with | (.inl o5_0) => (bnd (p_spyref3_Combined_l1 L a0 a0) fun o11 => match o11 with | (.inl o11_0) => (if a1 < 0 then (some (0, 0, ([] : List (Int × Int × Bool × Unit)), 1)) else (if a1 > 3 then (some (0, 0, ([] : List (Int × Int × Bool × Unit)), 14)) else (if (a0.length : Int) < (i64.wrap ((i64.wrap (2 * a1)) + 1)) then (some (0, 0, ([] : List (Int × Int × Bool × Unit)), 14)) else (bnd (idx a0 0) fun x13 => rq ((x13.2.2.1.length : Int).toNat < L) <| rq ((x13.2.2.1.length : Int) < 4611686018427387904) <| bnd (p_spyref3_Combined_l2 L (a0.length : Int) a1 a0 (x13.2.2.1.length : Int).toNat 0 ([])) fun o60 => some (x13.1, x13.2.1, o60, 0))))) | (.inr o11_1) => (some (0, 0, ([] : List (Int × Int × Bool × Unit)), 3))) | (.inr o5_1) => (some (0, 0, ([] : List (Int × Int × Bool × Unit)), o5_1)))
attribute [local go_sem] Ev.putR_s Ev.putR_0 Ev.thenO_s Ev.thenO_0 Ev.seqR_n Ev.seqR_e Ev.seqR_r Ev.seqR_0 Ev.blkR_e Ev.blkR_n Ev.blkR_r Ev.blkR_0 Ev.normR_s Ev.normR_0 Ev.outR_r Ev.outR_n Ev.outR_0 Ev.retS_s Ev.retS_0 Ev.pureO_s Ev.pureO_0 Ev.topR_0 Ev.topR_t Ev.topR_t0 Ev.oneL_0 Ev.oneL_s Ev.topR_d Ev.topR_nils Ev.topR_agg Ev.topR_rs Ev.evOp_move Ev.evOp_assign Ev.evOp_pick Ev.evOp_alloc Ev.evOp_box Ev.evOp_build Ev.evOp_buildSlice Ev.evOp_load Ev.evOp_store Ev.evOp_makeMap Ev.evOp_lookup Ev.evOp_mapUpdate Ev.evOp_insert Ev.evOp_nilCheck Ev.evOp_binOp Ev.evOp_unOp Ev.evOp_convert Ev.evOp_makeFunc Ev.evOp_makeSlice Ev.evOp_slice Ev.evOp_fieldAddr Ev.evOp_field Ev.evOp_indexAddr Ev.evOp_index Ev.evOp_extract Ev.evOp_call Ev.evOp_append Ev.evOp_clear Ev.evOp_len Ev.evLen_d Ev.evLen_rs Ev.evLen_nils Ev.evLen_nila Ev.evLen_mp Ev.evOp_min Ev.evOp_max Ev.condR_b Ev.condR_t Ev.evOps_nil Ev.evOps_plain Ev.evOps_guard Ev.runG_eq Ev.skipG_eq Ev.condL_tt Ev.condL_ff Ev.condL_tf Ev.condL_ft Ev.condL_u Ev.condC_t Ev.condC_f Ev.evC_skip Ev.evC_ret Ev.evC_exit Ev.evC_label Ev.evC_region Ev.evC_draw Ev.evC_seq Ev.evC_cond Ev.evC_block Ev.evC_loop Ev.fin_d Ev.fin_nila Ev.fin_nils Ev.fin_agg_ Ev.fin_rs Ev.finS_s Ev.mapO_fin Ev.upd_upd Ev.argv_d Ev.argv_nila Ev.argv_nils Ev.argv_agg Ev.argv_rs Ev.argv_p Ev.fk_low Ev.appendTo_nils Ev.appendTo_nila Ev.appendTo_rs Ev.consV_d Ev.consV_agg Ev.consV_p Ev.consV_rs Ev.consV_nila Ev.consV_nils Ev.consV_fn Ev.consV_und Ev.consV_jk Ev.consV_grown Ev.topR_grown Ev.len_grown Ev.consV_mp Ev.sameK_i Ev.sameK_s Ev.mget_0 Ev.mget_hit Ev.mget_miss Ev.mput_0 Ev.mput_hit Ev.mput_miss Ev.apartAll Ev.apartL Ev.apartV Ev.freeAll Ev.sel Ev.keyOfV Ev.evLookup Ev.evPut Ev.hintOk Ev.keyOk Ev.consP Ev.lookV Ev.guardV Ev.dstAt Ev.evPure Ev.evStore Ev.evBin Ev.evBinO Ev.evNil Ev.isNilC Ev.evUn Ev.evConv Ev.evSlice Ev.optI Ev.foldI Ev.capsOk Ev.noTup Ev.nth Ev.setN Ev.killAt Ev.pad Ev.V.get Ev.V.put Ev.putD Ev.newBlk Ev.upd Ev.keq Ev.empty Ev.evCall Ev.V.args Ev.argP Ev.callOf Ev.evNilP Ev.isNilP Ev.look Ev.V.view.views Ev.V.view Ev.V.toD Ev.V.toD.V.toDs Ev.V.pure.pures Ev.V.pure Ev.D.flat.flats Ev.D.flat Ev.mkAgg Ev.allD Ev.aggParts Ev.setParts Ev.setElems Ev.getPath Ev.setPath Ev.subL Ev.eqD Ev.eqD.eqDs Ev.and2 Ev.strCut Ev.evalT Ev.constT Ev.evArgs Ev.mask Ev.maskOf Ev.tableOf Ev.compT Ev.resV Ev.retV Ev.mapO Ev.hT_nila Ev.eO_nila Ev.pL_nila Ev.evLen_gl Ev.r_nila Ev.frzO_n Ev.frzO_e Ev.frzO_r Ev.frzO_0 Ev.mb_z Ev.mb_0 Ev.mb_s Ev.frzL_t Ev.frzL_f Ev.frzL_0 Ev.frzT_nils Ev.frzT_rs Ev.frzT_p Ev.frzK_i Ev.keyIn_i Ev.rI_nil Ev.rI_cons Ev.rI_row Ev.rI_app Ev.r_d Ev.r_nils Ev.r_agg Ev.r_rs Ev.r_gl Ev.vw_row Ev.vw_app Ev.appO_s Ev.frzT_gl Ev.allD_gl Ev.killAt_i Ev.tkOne_i Ev.hT_agg Ev.hT_vagg Ev.hT_int Ev.hT_bool Ev.hT_str Ev.hT_sl Ev.hT_ptr Ev.hT_np Ev.hT_p Ev.hT_rs Ev.hT_mp Ev.hT_nils Ev.hT_fn Ev.hT_jk Ev.hT_gl Ev.eO_sl Ev.eO_nils Ev.eO_rs Ev.eT_sl Ev.eT_rs Ev.pL_str Ev.pL_sl Ev.pL_rs Ev.pL_nils Ev.pL_min Ev.pL_max Ev.len_glB Ev.noTup_gl Ev.rowV_len Ev.rowV_nil Ev.rowV_cons Ev.rowV_append Ev.rowV_set Ev.rowV_replicate Ev.nth_row Ev.row_take Ev.row_drop Ev.toDs_row Ev.fin_row Ev.map_row Ev.map_take_ Ev.map_drop_ Ev.Bk_i Ev.GlB_0 Ev.GlB_mk Ev.gl_nil Ev.gl_cons Ev.gl_snoc Ev.gl_setN Ev.appendTo_gl Ev.consV_gl Ev.elems_gl Ev.fin_gl Ev.view_gl Ev.argv_gl Ev.topR_gl Ev.sp_z Ev.sp_0 Ev.sp_s Ev.km_z Ev.km_0 Ev.km_s Ev.beq_toList Ev.nc0 Ev.bq_t Ev.bq_f Ev.bodyN Ev.le_maxRow Int.cast_ofNat_Int IntWalk.i64_in IntWalk.u64_in IntWalk.u8_in beq_self_eq_true Bool.true_beq Bool.false_beq Bool.and_true Bool.true_and Bool.false_and Bool.and_false Bool.and_self Bool.not_true Bool.not_false Bool.not_eq_true cond_true cond_false if_true if_false and_true true_and and_self decide_true decide_false Bool.or_true Bool.true_or Bool.or_false Bool.false_or List.isEmpty List.isEmpty_nil List.size_toArray List.map List.length_map List.length_cons List.length_nil Option.map Option.bind Option.getD Option.isSome List.replicate Bool.false_eq_true implies_true false_implies forall_const Array.toList Array.isEmpty List.append List.nil_append List.cons_append List.drop_zero List.take_length List.take_succ_cons List.take_zero List.take_nil List.getElem?_map List.getElem?_cons_zero List.getElem?_cons_succ List.getElem?_nil List.append_nil eq_self Int.toNat_natCast List.length_append Nat.zero_add Nat.add_zero List.length_replicate Nat.sub_zero Option.map_some Option.map_none Int.le_refl Nat.le_refl Int.natCast_nonneg List.map_append
attribute [local go_sem_proc] Nat.reduceAdd Nat.reduceSub Nat.reduceMul Nat.reduceEqDiff Nat.reduceBEq Nat.reduceLT Nat.reduceLeDiff Nat.reducePow Int.reduceToNat Int.reduceLT Int.reduceLE Int.reduceGT Int.reduceGE Int.reduceEq Int.reduceNeg Int.reduceAdd Int.reduceSub Int.reduceMul reduceCtorEq
attribute [local go_sem_proc ↓] reduceIte
noncomputable def G_spyref3_Combined (L : Nat) : Specs := [(30, s_spyref3_FieldFault L), (32, s_spyref3_Combined_1 L), (51, s_spyref3_Fused_Quanta L)]
noncomputable def T_spyref3_Combined : Table := tableOf [(16, en16), (31, en31)]
theorem Go_spyref3_Combined (L : Nat) (hL : L ≤ 4611686018427387904) : ∀ g s, Ev.look (G_spyref3_Combined L) g = some s → SpecOk Try.prog g s := (specs_cons (ok_spyref3_FieldFault L hL) (specs_cons (ok_spyref3_Combined_1 L hL) (specs_cons (ok_spyref3_Fused_Quanta L hL) specs_nil)))
theorem To_spyref3_Combined (L : Nat) : TableOk Try.prog ((G_spyref3_Combined L).map (·.1)) T_spyref3_Combined := (table_cons Try.func16 (by kernel_rfl) (by kernel_rfl) (table_cons Try.func31 (by kernel_rfl) (by kernel_rfl) table_nil))
theorem lk_spyref3_Combined_30 (L : Nat) : Ev.look (G_spyref3_Combined L) 30 = some (s_spyref3_FieldFault L) := nr rfl
theorem lk_spyref3_Combined_32 (L : Nat) : Ev.look (G_spyref3_Combined L) 32 = some (s_spyref3_Combined_1 L) := nr rfl
theorem lk_spyref3_Combined_51 (L : Nat) : Ev.look (G_spyref3_Combined L) 51 = some (s_spyref3_Fused_Quanta L) := nr rfl
theorem lk_spyref3_Combined_31 (L : Nat) : Ev.look (G_spyref3_Combined L) 31 = none := nr rfl
theorem in_spyref3_Combined_31 (L c lv : Nat) (xs : List V) (st : Store) : evF Try.prog (G_spyref3_Combined L) T_spyref3_Combined L (c + 1) 31 xs lv st = outR Try.prog Try.f31.results.toList (evC Try.prog (G_spyref3_Combined L) (evF Try.prog (G_spyref3_Combined L) T_spyref3_Combined L c) L en31.ms lv 0 (bodyN Try.f31) (pad xs Try.f31.ntmps) st) := evF_s (hT := by rfl) (hb := by rfl) ..
attribute [local go_sem] Ty.tk3 Ty.ik3 Ty.ek3 Ty.zv3 Ty.by3 Ty.so3 Ty.tk4 Ty.ub4 Ty.ek4 Ty.zv4 Ty.by4 Ty.so4 Ty.tk22 Ty.zv22 Ty.by22 Ty.so22 Ty.tk24 Ty.ik24 Ty.ek24 Ty.zv24 Ty.by24 Ty.so24 Ty.tk40 Ty.zv40 Ty.by40 Ty.so40 Ty.tk42 Ty.ct42 Ty.zv42 Ty.by42 Ty.so42 Ty.tk45 Ty.ik45 Ty.ek45 Ty.zv45 Ty.by45 Ty.so45 Ty.tk47 Ty.ct47 Ty.ek47 Ty.zv47 Ty.by47 Ty.so47 Ty.tk76 Ty.zv76 Ty.by76 Ty.so76 Ty.k22_e Ty.k40_e Ty.k42_e Ty.k47_e E.dw16_13 E.kl16_13 E.nc16_13 E.dw16_20 E.kl16_20 E.nc16_20 E.dw16_21 E.kl16_21 E.nc16_21 E.mk16_0 E.mk16_2 E.mk16_1000001 E.mk16_1000002 E.mk16_1000003 E.mk16_1000004 E.mk16_1000000 E.fz16_0 E.fi16_0 E.fz16_2 E.fi16_2 E.mk31_0 E.mk31_2 E.mk31_1000001 E.mk31_1000002 E.mk31_1000003 E.mk31_1000004 E.mk31_1000000 E.fz31_0 E.fi31_0 E.fz31_2 E.fi31_2 E.lb16_0 E.lb16_2 E.lb31_0 E.lb31_2 lk_spyref3_Combined_30 lk_spyref3_Combined_32 lk_spyref3_Combined_51 lk_spyref3_Combined_31 in_spyref3_Combined_31 s_spyref3_FieldFault_run s_spyref3_Combined_1_run s_spyref3_Fused_Quanta_run loopN loops Try.f16 Try.f31
def Q0_p_spyref3_Combined_l0 (a1 : Int) (a0 : List (Int × Int × (List (Int × Int × Bool × Unit)) × Unit)) (u : Unit) (z : Out) : Prop := ∃ env st, z = some (.exit 0, env, st) ∧ env = sp 88 0 [(1, .d (.int .i64 a1)), (2, .p (0, 2) (st (0, 2)).ver 0 []), (4, .p (0, 4) (st (0, 4)).ver 0 [])] ∧ Bk (st (0, 2)) 22 [.d (.sl 42 (a0.map k42.e))] ∧ Bk (st (0, 4)) 42 [.agg 42 [.d (.int .i64 0), .d (.int .i64 0), .nils 47]]
def Q1_p_spyref3_Combined_l0 (a1 : Int) (a0 : List (Int × Int × (List (Int × Int × Bool × Unit)) × Unit)) (u : Int) (z : Out) : Prop := ∃ env st, z = some (.ret, env, st) ∧ env = sp 88 0 [(4, .p (0, 4) (st (0, 4)).ver 0 []), (5, .d (.int .i64 u))] ∧ Bk (st (0, 4)) 42 [.agg 42 [.d (.int .i64 0), .d (.int .i64 0), .nils 47]]
def Q_p_spyref3_Combined_l0 (a1 : Int) (a0 : List (Int × Int × (List (Int × Int × Bool × Unit)) × Unit)) (o : Sum Unit Int) (z : Out) : Prop := match o with | (.inl u) => Q0_p_spyref3_Combined_l0 a1 a0 u z | (.inr u) => Q1_p_spyref3_Combined_l0 a1 a0 u z
theorem l_p_spyref3_Combined_l0 (L : Nat) (hL : L ≤ 4611686018427387904) (a1 : Int) (a0 : List (Int × Int × (List (Int × Int × Bool × Unit)) × Unit)) : ∀ (tl : List (Int × Int × (List (Int × Int × Bool × Unit)) × Unit)) (n : Nat) (s2 : Int) (env : List V) (st : Store) (o : Sum Unit Int), tl.length < n → Rng a0 s2 tl → mask (maskOf en16.ms 0) env = sp 88 0 [(1, .d (.int .i64 a1)), (2, .p (0, 2) (st (0, 2)).ver 0 []), (4, .p (0, 4) (st (0, 4)).ver 0 []), (16, .d (.sl 42 (a0.map k42.e))), (17, .d (.int .i64 (a0.length : Int))), (18, .d (.int .i64 s2))] → Bk (st (0, 2)) 22 [.d (.sl 42 (a0.map k42.e))] → Bk (st (0, 4)) 42 [.agg 42 [.d (.int .i64 0), .d (.int .i64 0), .nils 47]] → p_spyref3_Combined_l0 L  tl  = some o →
    Q_p_spyref3_Combined_l0 a1 a0 o (iter (evC Try.prog (G_spyref3_Combined L) (evF Try.prog (G_spyref3_Combined L) T_spyref3_Combined L 1) L en16.ms 0 0 lb16_0) (maskOf en16.ms 0) n env st) := by
  intro tl
  induction tl with
  | nil =>
    intro n s2  env st o hn hR he hb0 hb1 h
    obtain ⟨n, rfl⟩ : ∃ m, n = m + 1 := ⟨n - 1, by omega⟩
    obtain ⟨be0, bv0, bl0⟩ := hb0
    obtain ⟨be1, bv1, bl1⟩ := hb1
    have g0 := rng_nil hR
    rw [iter, he]
    clear he
    generalize hK : iter _ _ n = K
    rw [p_spyref3_Combined_l0] at h
    revert h
    rintro ⟨⟩
    simp only [go_sem, *]
    refine (⟨_, _, rfl, ?_, ?_, ?_⟩ : Q0_p_spyref3_Combined_l0 _ _ _ _)
    all_goals simp only [go_sem, *]
  | cons x1 tl ih =>
    intro n s2  env st o hn hR he hb0 hb1 h
    obtain ⟨n, rfl⟩ : ∃ m, n = m + 1 := ⟨n - 1, by omega⟩
    obtain ⟨be0, bv0, bl0⟩ := hb0
    obtain ⟨be1, bv1, bl1⟩ := hb1
    replace ih : Hold _ := ih
    replace hR := rng_s hR
    obtain ⟨g0, g1, g2, g3, hR⟩ := hR
    rw [iter, he]
    clear he
    generalize hK : iter _ _ n = K
    rw [p_spyref3_Combined_l0] at h
    revert h
    refine bnd_i fun r4 c1 => ?_
    refine cb_i (fun c2 => ?_) (fun c2 => ?_)
    · intro h
      simp only [go_sem, *]
      subst hK
      refine ih n (s2 + 1)  _ _ _ (by simp only [List.length_cons] at hn; omega) hR ?_ ?_ ?_ h
      all_goals simp only [go_sem, *]
    · rintro ⟨⟩
      simp only [go_sem, *]
      refine (⟨_, _, rfl, ?_, ?_⟩ : Q1_p_spyref3_Combined_l0 _ _ _ _)
      all_goals simp only [go_sem, *]
def Q0_p_spyref3_Combined_l1 (a1 : Int) (a0 : List (Int × Int × (List (Int × Int × Bool × Unit)) × Unit)) (u : Unit) (z : Out) : Prop := ∃ env st, z = some (.exit 2, env, st) ∧ env = sp 88 0 [(1, .d (.int .i64 a1)), (2, .p (0, 2) (st (0, 2)).ver 0 []), (4, .p (0, 4) (st (0, 4)).ver 0 [])] ∧ Bk (st (0, 2)) 22 [.d (.sl 42 (a0.map k42.e))] ∧ Bk (st (0, 4)) 42 [.agg 42 [.d (.int .i64 0), .d (.int .i64 0), .nils 47]]
def Q1_p_spyref3_Combined_l1 (a1 : Int) (a0 : List (Int × Int × (List (Int × Int × Bool × Unit)) × Unit)) (u : Unit) (z : Out) : Prop := ∃ env st, z = some (.ret, env, st) ∧ env = sp 88 0 [(4, .p (0, 4) (st (0, 4)).ver 0 []), (5, .d (.int .i64 3))] ∧ Bk (st (0, 4)) 42 [.agg 42 [.d (.int .i64 0), .d (.int .i64 0), .nils 47]]
def Q_p_spyref3_Combined_l1 (a1 : Int) (a0 : List (Int × Int × (List (Int × Int × Bool × Unit)) × Unit)) (o : Sum Unit Unit) (z : Out) : Prop := match o with | (.inl u) => Q0_p_spyref3_Combined_l1 a1 a0 u z | (.inr u) => Q1_p_spyref3_Combined_l1 a1 a0 u z
theorem l_p_spyref3_Combined_l1 (L : Nat) (hL : L ≤ 4611686018427387904) (a1 : Int) (a0 : List (Int × Int × (List (Int × Int × Bool × Unit)) × Unit)) : ∀ (tl : List (Int × Int × (List (Int × Int × Bool × Unit)) × Unit)) (n : Nat) (s8 : Int) (env : List V) (st : Store) (o : Sum Unit Unit), tl.length < n → Rng a0 s8 tl → mask (maskOf en16.ms 2) env = sp 88 0 [(1, .d (.int .i64 a1)), (2, .p (0, 2) (st (0, 2)).ver 0 []), (4, .p (0, 4) (st (0, 4)).ver 0 []), (29, .d (.sl 42 (a0.map k42.e))), (30, .d (.int .i64 (a0.length : Int))), (31, .d (.int .i64 s8))] → Bk (st (0, 2)) 22 [.d (.sl 42 (a0.map k42.e))] → Bk (st (0, 4)) 42 [.agg 42 [.d (.int .i64 0), .d (.int .i64 0), .nils 47]] → p_spyref3_Combined_l1 L a0 tl  = some o →
    Q_p_spyref3_Combined_l1 a1 a0 o (iter (evC Try.prog (G_spyref3_Combined L) (evF Try.prog (G_spyref3_Combined L) T_spyref3_Combined L 1) L en16.ms 0 2 lb16_2) (maskOf en16.ms 2) n env st) := by
  intro tl
  induction tl with
  | nil =>
    intro n s8  env st o hn hR he hb0 hb1 h
    obtain ⟨n, rfl⟩ : ∃ m, n = m + 1 := ⟨n - 1, by omega⟩
    obtain ⟨be0, bv0, bl0⟩ := hb0
    obtain ⟨be1, bv1, bl1⟩ := hb1
    have g0 := rng_nil hR
    rw [iter, he]
    clear he
    generalize hK : iter _ _ n = K
    rw [p_spyref3_Combined_l1] at h
    revert h
    rintro ⟨⟩
    simp only [go_sem, *]
    refine (⟨_, _, rfl, ?_, ?_, ?_⟩ : Q0_p_spyref3_Combined_l1 _ _ _ _)
    all_goals simp only [go_sem, *]
  | cons x7 tl ih =>
    intro n s8  env st o hn hR he hb0 hb1 h
    obtain ⟨n, rfl⟩ : ∃ m, n = m + 1 := ⟨n - 1, by omega⟩
    obtain ⟨be0, bv0, bl0⟩ := hb0
    obtain ⟨be1, bv1, bl1⟩ := hb1
    replace ih : Hold _ := ih
    replace hR := rng_s hR
    obtain ⟨g0, g1, g2, g3, hR⟩ := hR
    rw [iter, he]
    clear he
    generalize hK : iter _ _ n = K
    rw [p_spyref3_Combined_l1] at h
    revert h
    refine idx_i fun x10 c1 c2 c3 => ?_
    have c3 : a0[0]? = some x10 := c3
    refine cb_i (fun c4 => ?_) (fun c4 => ?_)
    · refine cb_i (fun c5 => ?_) (fun c5 => ?_)
      · intro h
        simp only [go_sem, *]
        subst hK
        refine ih n (s8 + 1)  _ _ _ (by simp only [List.length_cons] at hn; omega) hR ?_ ?_ ?_ h
        all_goals simp only [go_sem, *]
      · rintro ⟨⟩
        simp only [go_sem, *]
        refine (⟨_, _, rfl, ?_, ?_⟩ : Q1_p_spyref3_Combined_l1 _ _ _ _)
        all_goals simp only [go_sem, *]
    · rintro ⟨⟩
      simp only [go_sem, *]
      refine (⟨_, _, rfl, ?_, ?_⟩ : Q1_p_spyref3_Combined_l1 _ _ _ _)
      all_goals simp only [go_sem, *]
def Q0_p_spyref3_Combined_l3 (w48 : Nat) (w49 : Nat) (w50 : Nat) (a18 : Int) (a1 : Int) (s20 : Int) (a19 : Int) (a0 : List (Int × Int × (List (Int × Int × Bool × Unit)) × Unit)) (a21 : Int) (a22 : Int) (s35 : List (Int × Int × Bool × Unit)) (u : List (Int × Int × Bool × Unit)) (z : Out) : Prop := ∃ env st, z = some (.exit 2, env, st) ∧ env = sp 37 0 [(1, .d (.int .i64 a18)), (2, .d (.int .i64 a1)), (3, .fn 32 [.p (0, 2) (st (0, 2)).ver 0 []]), (9, gl 47 (86, 34) (st (86, 34)).ver (rowV k47.e s35)), (11, gl 47 (86, 27) (st (86, 27)).ver (rowV k47.e u)), (13, .d (.int .i64 a19)), (14, .d (.int .i64 s20))] ∧ Bk (st (0, 2)) 22 [.d (.sl 42 (a0.map k42.e))] ∧ Bk (st (0, 4)) 42 [.agg 42 [.d (.int .i64 0), .d (.int .i64 0), .nils 47]] ∧ Bk (st (0, 11)) 42 [.agg 42 [.d (.int .i64 a21), .d (.int .i64 a22), .nils 47]] ∧ GlB (st (86, 27)) 47 (rowV k47.e u) ∧ GlB (st (86, 34)) 47 (rowV k47.e s35) ∧ (st (0, 2)).ver = w48 ∧ (st (0, 4)).ver = w49 ∧ (st (0, 11)).ver = w50
abbrev Q_p_spyref3_Combined_l3 (w48 : Nat) (w49 : Nat) (w50 : Nat) (a18 : Int) (a1 : Int) (s20 : Int) (a19 : Int) (a0 : List (Int × Int × (List (Int × Int × Bool × Unit)) × Unit)) (a21 : Int) (a22 : Int) (s35 : List (Int × Int × Bool × Unit)) (o : List (Int × Int × Bool × Unit)) (z : Out) : Prop := Q0_p_spyref3_Combined_l3 w48 w49 w50 a18 a1 s20 a19 a0 a21 a22 s35 o z
theorem l_p_spyref3_Combined_l3 (L : Nat) (hL : L ≤ 4611686018427387904) (w48 : Nat) (w49 : Nat) (w50 : Nat) (a18 : Int) (a1 : Int) (s20 : Int) (a19 : Int) (a0 : List (Int × Int × (List (Int × Int × Bool × Unit)) × Unit)) (a21 : Int) (a22 : Int) (s35 : List (Int × Int × Bool × Unit)) : ∀ (tl n : Nat) (s52 : Int) (s54 : List (Int × Int × Bool × Unit)) (env : List V) (st : Store) (o : List (Int × Int × Bool × Unit)), tl < n → Cnt a18 s52 tl → mask (maskOf en31.ms 2) env = sp 37 0 [(1, .d (.int .i64 a18)), (2, .d (.int .i64 a1)), (3, .fn 32 [.p (0, 2) (st (0, 2)).ver 0 []]), (9, gl 47 (86, 34) (st (86, 34)).ver (rowV k47.e s35)), (10, .d (.int .i64 s20)), (11, gl 47 (86, 27) (st (86, 27)).ver (rowV k47.e s54)), (13, .d (.int .i64 a19)), (14, .d (.int .i64 s20)), (17, .d (.int .i64 a18)), (18, .d (.int .i64 s52))] → Bk (st (0, 2)) 22 [.d (.sl 42 (a0.map k42.e))] → Bk (st (0, 4)) 42 [.agg 42 [.d (.int .i64 0), .d (.int .i64 0), .nils 47]] → Bk (st (0, 11)) 42 [.agg 42 [.d (.int .i64 a21), .d (.int .i64 a22), .nils 47]] → GlB (st (86, 27)) 47 (rowV k47.e s54) → GlB (st (86, 34)) 47 (rowV k47.e s35) → (st (0, 2)).ver = w48 → (st (0, 4)).ver = w49 → (st (0, 11)).ver = w50 → p_spyref3_Combined_l3 L s20 a0 tl s52 s54 = some o →
    Q_p_spyref3_Combined_l3 w48 w49 w50 a18 a1 s20 a19 a0 a21 a22 s35 o (iter (evC Try.prog (G_spyref3_Combined L) (evF Try.prog (G_spyref3_Combined L) T_spyref3_Combined L 0) L en31.ms 86 2 lb31_2) (maskOf en31.ms 2) n env st) := by
  intro tl
  induction tl with
  | zero =>
    intro n s52 s54 env st o hn hR he hb0 hb1 hb2 hb3 hb4 hw0 hw1 hw2 h
    obtain ⟨n, rfl⟩ : ∃ m, n = m + 1 := ⟨n - 1, by omega⟩
    obtain ⟨be0, bv0, bl0⟩ := hb0
    obtain ⟨be1, bv1, bl1⟩ := hb1
    obtain ⟨be2, bv2, bl2⟩ := hb2
    have g0 := cnt_nil hR
    rw [iter, he]
    clear he
    generalize hK : iter _ _ n = K
    rw [p_spyref3_Combined_l3] at h
    revert h
    rintro ⟨⟩
    simp only [go_sem, *]
    refine (⟨_, _, rfl, ?_, ?_, ?_, ?_, ?_, ?_, ?_, ?_, ?_⟩ : Q0_p_spyref3_Combined_l3 _ _ _ _ _ _ _ _ _ _ _ _ _)
    all_goals simp only [go_sem, *]
  | succ tl ih =>
    intro n s52 s54 env st o hn hR he hb0 hb1 hb2 hb3 hb4 hw0 hw1 hw2 h
    obtain ⟨n, rfl⟩ : ∃ m, n = m + 1 := ⟨n - 1, by omega⟩
    obtain ⟨be0, bv0, bl0⟩ := hb0
    obtain ⟨be1, bv1, bl1⟩ := hb1
    obtain ⟨be2, bv2, bl2⟩ := hb2
    replace ih : Hold _ := ih
    replace hR := cnt_s hR
    obtain ⟨g0, g1, g3, hR⟩ := hR
    rw [iter, he]
    clear he
    generalize hK : iter _ _ n = K
    rw [p_spyref3_Combined_l3] at h
    revert h
    refine bnd_i fun r56 c1 => ?_
    refine rq_i fun c2 => ?_
    refine rq_i fun c3 => ?_
    intro h
    simp only [go_sem, *]
    subst hK
    refine ih n (s52 + 1) (s54 ++ [(r56.1, r56.2.1, r56.2.2, ())]) _ _ _ (by omega) hR ?_ ?_ ?_ ?_ ?_ ?_ ?_ ?_ ?_ h
    all_goals simp only [go_sem, *]
def Q0_p_spyref3_Combined_l2 (w14 : Nat) (w15 : Nat) (w16 : Nat) (a18 : Int) (a1 : Int) (a19 : Int) (a0 : List (Int × Int × (List (Int × Int × Bool × Unit)) × Unit)) (a21 : Int) (a22 : Int) (u : List (Int × Int × Bool × Unit)) (z : Out) : Prop := ∃ env st, z = some (.exit 0, env, st) ∧ env = sp 37 0 [(9, gl 47 (86, 34) (st (86, 34)).ver (rowV k47.e u))] ∧ Bk (st (0, 2)) 22 [.d (.sl 42 (a0.map k42.e))] ∧ Bk (st (0, 4)) 42 [.agg 42 [.d (.int .i64 0), .d (.int .i64 0), .nils 47]] ∧ Bk (st (0, 11)) 42 [.agg 42 [.d (.int .i64 a21), .d (.int .i64 a22), .nils 47]] ∧ GlB (st (86, 34)) 47 (rowV k47.e u) ∧ (st (0, 2)).ver = w14 ∧ (st (0, 4)).ver = w15 ∧ (st (0, 11)).ver = w16
abbrev Q_p_spyref3_Combined_l2 (w14 : Nat) (w15 : Nat) (w16 : Nat) (a18 : Int) (a1 : Int) (a19 : Int) (a0 : List (Int × Int × (List (Int × Int × Bool × Unit)) × Unit)) (a21 : Int) (a22 : Int) (o : List (Int × Int × Bool × Unit)) (z : Out) : Prop := Q0_p_spyref3_Combined_l2 w14 w15 w16 a18 a1 a19 a0 a21 a22 o z
theorem l_p_spyref3_Combined_l2 (L : Nat) (hL : L ≤ 4611686018427387904) (w14 : Nat) (w15 : Nat) (w16 : Nat) (a18 : Int) (a1 : Int) (a19 : Int) (a0 : List (Int × Int × (List (Int × Int × Bool × Unit)) × Unit)) (a21 : Int) (a22 : Int) : ∀ (tl n : Nat) (s20 : Int) (s35 : List (Int × Int × Bool × Unit)) (env : List V) (st : Store) (o : List (Int × Int × Bool × Unit)), tl < n → Cnt a19 s20 tl → mask (maskOf en31.ms 0) env = sp 37 0 [(1, .d (.int .i64 a18)), (2, .d (.int .i64 a1)), (3, .fn 32 [.p (0, 2) (st (0, 2)).ver 0 []]), (9, gl 47 (86, 34) (st (86, 34)).ver (rowV k47.e s35)), (13, .d (.int .i64 a19)), (14, .d (.int .i64 s20))] → Bk (st (0, 2)) 22 [.d (.sl 42 (a0.map k42.e))] → Bk (st (0, 4)) 42 [.agg 42 [.d (.int .i64 0), .d (.int .i64 0), .nils 47]] → Bk (st (0, 11)) 42 [.agg 42 [.d (.int .i64 a21), .d (.int .i64 a22), .nils 47]] → GlB (st (86, 34)) 47 (rowV k47.e s35) → (st (0, 2)).ver = w14 → (st (0, 4)).ver = w15 → (st (0, 11)).ver = w16 → p_spyref3_Combined_l2 L a18 a1 a0 tl s20 s35 = some o →
    Q_p_spyref3_Combined_l2 w14 w15 w16 a18 a1 a19 a0 a21 a22 o (iter (evC Try.prog (G_spyref3_Combined L) (evF Try.prog (G_spyref3_Combined L) T_spyref3_Combined L 0) L en31.ms 86 0 lb31_0) (maskOf en31.ms 0) n env st) := by
  intro tl
  induction tl with
  | zero =>
    intro n s20 s35 env st o hn hR he hb0 hb1 hb2 hb3 hw0 hw1 hw2 h
    obtain ⟨n, rfl⟩ : ∃ m, n = m + 1 := ⟨n - 1, by omega⟩
    obtain ⟨be0, bv0, bl0⟩ := hb0
    obtain ⟨be1, bv1, bl1⟩ := hb1
    obtain ⟨be2, bv2, bl2⟩ := hb2
    have g0 := cnt_nil hR
    rw [iter, he]
    clear he
    generalize hK : iter _ _ n = K
    rw [p_spyref3_Combined_l2] at h
    revert h
    rintro ⟨⟩
    simp only [go_sem, *]
    refine (⟨_, _, rfl, ?_, ?_, ?_, ?_, ?_, ?_, ?_, ?_⟩ : Q0_p_spyref3_Combined_l2 _ _ _ _ _ _ _ _ _ _ _)
    all_goals simp only [go_sem, *]
  | succ tl ih =>
    intro n s20 s35 env st o hn hR he hb0 hb1 hb2 hb3 hw0 hw1 hw2 h
    obtain ⟨n, rfl⟩ : ∃ m, n = m + 1 := ⟨n - 1, by omega⟩
    obtain ⟨be0, bv0, bl0⟩ := hb0
    obtain ⟨be1, bv1, bl1⟩ := hb1
    obtain ⟨be2, bv2, bl2⟩ := hb2
    replace ih : Hold _ := ih
    replace hR := cnt_s hR
    obtain ⟨g0, g1, g3, hR⟩ := hR
    rw [iter, he]
    clear he
    generalize hK : iter _ _ n = K
    rw [p_spyref3_Combined_l2] at h
    revert h
    refine rq_i fun c1 => ?_
    refine rq_i fun c2 => ?_
    refine bnd_i fun o57 ho3 => ?_
    intro h
    simp only [go_sem, *]
    generalize hz5 : iter _ _ _ _ _ = z4
    have hq6 : Q_p_spyref3_Combined_l3 w14 w15 w16 a18 a1 s20 a19 a0 a21 a22 s35 o57 z4 := by
      rw [← hz5]
      refine l_p_spyref3_Combined_l3 L hL w14 w15 w16 a18 a1 s20 a19 a0 a21 a22 s35 _ L 0 ([]) _ _ _ c1 (cnt_00 (by decide) c2) ?_ ?_ ?_ ?_ ?_ ?_ ?_ ?_ ?_ ho3
      all_goals simp only [go_sem, *]
    clear hz5 ho3
    obtain ⟨_, st58, rfl, rfl, ⟨k71, k72, k73⟩, ⟨k81, k82, k83⟩, ⟨k91, k92, k93⟩, k10, k11, w12, w13, w14⟩ := hq6
    revert h
    refine bnd_i fun r59 c15 => ?_
    refine rq_i fun c16 => ?_
    refine rq_i fun c17 => ?_
    intro h
    simp only [go_sem, *]
    subst hK
    refine ih n (s20 + 1) (s35 ++ [(r59.1, r59.2.1, r59.2.2, ())]) _ _ _ (by omega) hR ?_ ?_ ?_ ?_ ?_ ?_ ?_ ?_ h
    all_goals simp only [go_sem, *]
theorem e_spyref3_Combined (L : Nat) (hL : L ≤ 4611686018427387904) (a0 : List (Int × Int × (List (Int × Int × Bool × Unit)) × Unit)) (a1 : Int) (res : Int × Int × (List (Int × Int × Bool × Unit)) × Int) (h : p_spyref3_Combined L a0 a1 = some res) : evTop Try.prog (G_spyref3_Combined L) T_spyref3_Combined L 2 16 [.sl 42 (a0.map k42.e), .int .i64 a1] = some [.agg 42 [.int .i64 res.1, .int .i64 res.2.1, .sl 47 (res.2.2.1.map k47.e)], .int .i64 res.2.2.2] := by
  revert h
  unfold p_spyref3_Combined evTop
  simp only [List.map]
  rw [evF_s (fn := Try.f16) (msk := en16.ms) (hT := by rfl) (hb := by rfl)]
  refine ite_i (fun c1 => ?_) (fun c1 => ?_)
  · rintro ⟨⟩
    simp only [go_sem, *]
  · refine rq_i fun c2 => ?_
    refine bnd_i fun o5 ho3 => ?_
    intro h
    simp only [go_sem, *]
    generalize hz5 : iter _ _ _ _ _ = z4
    have hq6 : Q_p_spyref3_Combined_l0 a1 a0 o5 z4 := by
      rw [← hz5]
      refine l_p_spyref3_Combined_l0 L hL a1 a0 a0 L 0  _ _ _ c2 (rng_0 c2 hL) ?_ ?_ ?_ ho3
      all_goals simp only [go_sem, *]
    clear hz5 ho3
    rcases o5 with o5_0 | o5_1
    · obtain ⟨_, st6, rfl, rfl, ⟨k71, k72, k73⟩, ⟨k81, k82, k83⟩⟩ := hq6
      dsimp only at h
      revert h
      refine bnd_i fun o11 ho9 => ?_
      intro h
      simp only [go_sem, *]
      generalize hz11 : iter _ _ _ _ _ = z10
      have hq12 : Q_p_spyref3_Combined_l1 a1 a0 o11 z10 := by
        rw [← hz11]
        refine l_p_spyref3_Combined_l1 L hL a1 a0 a0 L 0  _ _ _ c2 (rng_0 c2 hL) ?_ ?_ ?_ ho9
        all_goals simp only [go_sem, *]
      clear hz11 ho9
      rcases o11 with o11_0 | o11_1
      · obtain ⟨_, st12, rfl, rfl, ⟨k131, k132, k133⟩, ⟨k141, k142, k143⟩⟩ := hq12
        dsimp only at h
        revert h
        refine ite_i (fun c15 => ?_) (fun c15 => ?_)
        · rintro ⟨⟩
          simp only [go_sem, *]
        · refine ite_i (fun c16 => ?_) (fun c16 => ?_)
          · rintro ⟨⟩
            simp only [go_sem, *]
          · refine ite_i (fun c17 => ?_) (fun c17 => ?_)
            · rintro ⟨⟩
              simp only [go_sem, *]
            · refine idx_i fun x13 c18 c19 c20 => ?_
              have c20 : a0[0]? = some x13 := c20
              refine rq_i fun c21 => ?_
              refine rq_i fun c22 => ?_
              refine bnd_i fun o60 ho23 => ?_
              intro h
              simp only [go_sem, *]
              generalize hz25 : iter _ _ _ _ _ = z24
              have hq26 : Q_p_spyref3_Combined_l2 ((st12 (0, 2)).ver) ((st12 (0, 4)).ver) ((st12 (0, 11)).ver + 1) (a0.length : Int) a1 (x13.2.2.1.length : Int) a0 x13.1 x13.2.1 o60 z24 := by
                rw [← hz25]
                refine l_p_spyref3_Combined_l2 L hL ((st12 (0, 2)).ver) ((st12 (0, 4)).ver) ((st12 (0, 11)).ver + 1) (a0.length : Int) a1 (x13.2.2.1.length : Int) a0 x13.1 x13.2.1 _ L 0 ([]) _ _ _ c21 (cnt_00 (by decide) c22) ?_ ?_ ?_ ?_ ?_ ?_ ?_ ?_ ho23
                all_goals simp only [go_sem, *]
              clear hz25 ho23
              obtain ⟨_, st61, rfl, rfl, ⟨k271, k272, k273⟩, ⟨k281, k282, k283⟩, ⟨k291, k292, k293⟩, k30, w31, w32, w33⟩ := hq26
              revert h
              rintro ⟨⟩
              simp only [go_sem, *]
      · obtain ⟨_, st62, rfl, rfl, ⟨k341, k342, k343⟩⟩ := hq12
        dsimp only at h
        revert h
        rintro ⟨⟩
        simp only [go_sem, *]
    · obtain ⟨_, st63, rfl, rfl, ⟨k351, k352, k353⟩⟩ := hq6
      dsimp only at h
      revert h
      rintro ⟨⟩
      simp only [go_sem, *]
noncomputable def s_spyref3_Combined (L : Nat) : Ev.Spec := specP (cCons k22 (cCons (cI .i64) cNil)) (fun x => p_spyref3_Combined L x.1 x.2.1) (fun r => [.agg 42 [.int .i64 r.1, .int .i64 r.2.1, .sl 47 (r.2.2.1.map k47.e)], .int .i64 r.2.2.2])
theorem s_spyref3_Combined_run (L : Nat) (a0 : List (Int × Int × (List (Int × Int × Bool × Unit)) × Unit)) (a1 : Int) : (s_spyref3_Combined L).run [.sl 42 (a0.map k42.e), .int .i64 a1] = (p_spyref3_Combined L a0 a1).map fun r => [.agg 42 [.int .i64 r.1, .int .i64 r.2.1, .sl 47 (r.2.2.1.map k47.e)], .int .i64 r.2.2.2] := specP_run (cCons k22 (cCons (cI .i64) cNil)) (fun x => p_spyref3_Combined L x.1 x.2.1) (fun r => [.agg 42 [.int .i64 r.1, .int .i64 r.2.1, .sl 47 (r.2.2.1.map k47.e)], .int .i64 r.2.2.2]) (a0, a1, ())
theorem ok_spyref3_Combined (L : Nat) (hL : L ≤ 4611686018427387904) : SpecOk Try.prog 16 (s_spyref3_Combined L) := specP_ok mixed (Go_spyref3_Combined L hL) (To_spyref3_Combined L) fun x r h => ⟨L, 2, e_spyref3_Combined L hL x.1 x.2.1 r h⟩
end Go.Proofs.Ytnopgienncmcmaa.P
end
section
set_option linter.unusedVariables false
set_option linter.unusedSimpArgs false
namespace Go.Proofs.Ytnopgienncmcmaa.PlClean
open Go.Ev Go.IntKind Go.Pl Go.Proofs.Ytnopgienncmcmaa.P Go.Proofs.Ytnopgienncmcmaa.PlBndAQuanta Go.Proofs.Ytnopgienncmcmaa.PlField Go.Proofs.Ytnopgienncmcmaa.PlBndQuanta Go.Proofs.Ytnopgienncmcmaa.PlFuseQuanta
abbrev Cells := Int × Int × List Bd × Unit
/-! ### all fields -/
def allF : List Cells → Int
  | [] => 0
  | c :: r => if fieldF c.1 c.2.1 c.2.2.1 = 0 then allF r else fieldF c.1 c.2.1 c.2.2.1
def Small (L : Nat) (l : List Cells) : Prop := ∀ c ∈ l, c.2.2.1.length < L
theorem cf_l (L : Nat) : ∀ l : List Cells, Small L l → p_spyref3_Combined_l0 L l = some (if allF l = 0 then .inl () else .inr (allF l))
  | [], _ => rfl
  | c :: r, h => by
    have ih := cf_l L r fun x hx => h x (by simp [hx])
    rw [p_spyref3_Combined_l0, ff_eq L _ _ _ (h c (by simp)), bnd_s, cb_d, ih, allF]
    by_cases q : fieldF c.1 c.2.1 c.2.2.1 = 0
    · rw [if_pos q, if_pos q]
    · rw [if_neg q, if_neg q, if_neg q]
theorem cv_l (L : Nat) : ∀ l : List Cells, Small L l → p_clean_valid_l0 L l = some (if allF l = 0 then .inl () else .inr (allF l))
  | [], _ => rfl
  | c :: r, h => by
    have ih := cv_l L r fun x hx => h x (by simp [hx])
    rw [p_clean_valid_l0, ck_eq L _ _ _ (h c (by simp)), bnd_s, cb_d, ih, allF]
    by_cases q : fieldF c.1 c.2.1 c.2.2.1 = 0
    · rw [if_pos q, if_pos q]
    · rw [if_neg q, if_neg q, if_neg q]
def same (a : Cells) : List Cells → Bool
  | [] => true
  | c :: r => decide (c.1 = a.1) && decide (c.2.1 = a.2.1) && same a r
theorem cs_l (L : Nat) (a : Cells) (q : List Cells) : ∀ l : List Cells, p_spyref3_Combined_l1 L (a :: q) l = some (if same a l = true then .inl () else .inr ())
  | [] => rfl
  | c :: r => by
    have ih := cs_l L a q r
    rw [p_spyref3_Combined_l1, idx_z, bnd_s, cb_d, cb_d, ih, same]
    by_cases h1 : c.1 = a.1 <;> by_cases h2 : c.2.1 = a.2.1 <;> simp [h1, h2]
theorem vs_l (L : Nat) (a : Cells) (q : List Cells) : ∀ l : List Cells, p_clean_valid_l1 L (a :: q) l = some (if same a l = true then .inl () else .inr ())
  | [] => rfl
  | c :: r => by
    have ih := vs_l L a q r
    rw [p_clean_valid_l1, idx_z, bnd_s, cb_d, cb_d, ih, same]
    by_cases h1 : c.1 = a.1 <;> by_cases h2 : c.2.1 = a.2.1 <;> simp [h1, h2]
def sameAll (l : List Cells) : Bool := match l with | [] => true | a :: _ => same a l
def fieldsF (l : List Cells) (f : Int) : Int := if l.length > 8 then 2 else if allF l ≠ 0 then allF l else
  if sameAll l = false then 3 else if f < 0 then 1 else if f > 3 ∨ (l.length : Int) < 2 * f + 1 then 14 else 0
theorem valid_eq (L : Nat) (l : List Cells) (f : Int) (h8 : 8 < L) (hs : Small L l) : p_clean_valid L l f = some (fieldsF l f) := by
  unfold p_clean_valid fieldsF
  have h3 : p_clean_valid_l1 L l l = some (if sameAll l = true then .inl () else .inr ()) := by
    cases l with
    | nil => rfl
    | cons a q => exact vs_l L a q _
  by_cases c1 : (l.length : Int) > 8
  · grind
  rw [rq_t (show l.length < L by omega), cv_l L l hs, bnd_s]
  simp only [h3, bnd_s]
  by_cases c : 0 ≤ f ∧ f < 8
  · rw [w64 (x := 2 * f) (by omega), w64 (x := 2 * f + 1) (by omega)]
    grind
  · grind
/-! ### the cells -/
def col (i : Nat) (l : List Cells) : List Bd := l.map fun c => c.2.2.1.getD i (0, 0, false, ())
def Wide (n : Nat) (l : List Cells) : Prop := ∀ c ∈ l, c.2.2.1.length = n
theorem col1 (L : Nat) (n i : Nat) (hi : i < n) : ∀ (l : List Cells) (s : List Bd), Wide n l → (s.length + l.length) * 24 ≤ 140737488355328 → p_clean_Combine_l1 L (i : Int) l s = some (s ++ col i l)
  | [], s, _, _ => by rw [p_clean_Combine_l1]; simp [col]
  | c :: r, s, hw, h => by
    rw [List.length_cons] at h
    have hc := hw c (by simp)
    rw [p_clean_Combine_l1, idx_at (by omega), bnd_s, rq_t (by rw [maxRow_v]; omega), rq_t (by rw [maxRow_v]; omega), col1 L n i hi r _ (fun x hx => hw x (by simp [hx])) (by simp; omega)]
    simp [col, hc, hi]
theorem col2 (L : Nat) (n i : Nat) (hi : i < n) (a : List Cells) : ∀ (l p : List Cells) (s : List Bd), a = p ++ l → Wide n l → (s.length + l.length) * 24 ≤ 140737488355328 → p_spyref3_Combined_l3 L (i : Int) a l.length (p.length : Int) s = some (s ++ col i l)
  | [], p, s, _, _, _ => by rw [List.length_nil, p_spyref3_Combined_l3]; simp [col]
  | c :: r, p, s, ha, hw, h => by
    rw [List.length_cons] at h
    have hc := hw c (by simp)
    have := col2 L n i hi a r (p ++ [c]) (s ++ [c.2.2.1[i]'(by omega)]) (by simp [ha]) (fun x hx => hw x (by simp [hx])) (by simp; omega)
    rw [List.length_cons, p_spyref3_Combined_l3, p_spyref3_Combined_1, ha, idx_app, bnd_s, idx_at (by omega), bnd_s, bnd_s, rq_t (by rw [maxRow_v]; omega), rq_t (by rw [maxRow_v]; omega), ← ha]
    rw [show ((p.length : Int) + 1) = ((p ++ [c]).length : Int) by simp, this]
    simp [col, hc, hi]
def cells (l : List Cells) (f : Int) : Nat → Nat → List Bd
  | _, 0 => []
  | i, k + 1 => ((fuse (col i l) f).1, (fuse (col i l) f).2.1, (fuse (col i l) f).2.2, ()) :: cells l f (i + 1) k
theorem cells_len (l : List Cells) (f : Int) : ∀ k i, (cells l f i k).length = k
  | 0, i => rfl
  | k + 1, i => by rw [cells, List.length_cons, cells_len l f k]
theorem cmb1 (L : Nat) (hL : L ≤ 4611686018427387904) (n : Nat) (l : List Cells) (hw : Wide n l) (h8 : l.length ≤ 8) (h16 : 16 < L) (f : Int) (hf : f < 9223372036854775808) : ∀ (k i : Nat) (s : List Bd), i + k = n → (s.length + k) * 24 ≤ 140737488355328 → p_clean_Combine_l0 L l f k (i : Int) s = some (s ++ cells l f i k)
  | 0, i, s, _, _ => by rw [p_clean_Combine_l0]; simp [cells]
  | k + 1, i, s, hk, h => by
    have := cmb1 L hL n l hw h8 h16 f hf k (i + 1) (s ++ [((fuse (col i l) f).1, (fuse (col i l) f).2.1, (fuse (col i l) f).2.2, ())]) (by omega) (by simp; omega)
    rw [p_clean_Combine_l0, rq_t (by omega), col1 L n i (by omega) l [] hw (by simp; omega), bnd_s, List.nil_append, fuse_eq L _ f hf (by simp [col]; omega) (by simp [col]; omega) hL, bnd_s, rq_t (by rw [maxRow_v]; omega), rq_t (by rw [maxRow_v]; omega)]
    rw [show ((i : Int) + 1) = ((i + 1 : Nat) : Int) by simp, this, cells]
    simp
theorem cmb2 (L : Nat) (hL : L ≤ 4611686018427387904) (n : Nat) (l : List Cells) (hw : Wide n l) (h8 : l.length ≤ 8) (h16 : 16 < L) (f : Int) : ∀ (k i : Nat) (s : List Bd), i + k = n → (s.length + k) * 24 ≤ 140737488355328 → p_spyref3_Combined_l2 L (l.length : Int) f l k (i : Int) s = some (s ++ cells l f i k)
  | 0, i, s, _, _ => by rw [p_spyref3_Combined_l2]; simp [cells]
  | k + 1, i, s, hk, h => by
    have := cmb2 L hL n l hw h8 h16 f k (i + 1) (s ++ [((fuse (col i l) f).1, (fuse (col i l) f).2.1, (fuse (col i l) f).2.2, ())]) (by omega) (by simp; omega)
    have hc := col2 L n i (by omega) l l [] [] rfl hw (by simp; omega)
    simp only [List.length_nil, Int.natCast_zero, List.nil_append] at hc
    rw [p_spyref3_Combined_l2, Int.toNat_natCast, rq_t (by omega), rq_t (by omega), hc, bnd_s, fused_eq L _ f (by omega) (by simp [col]; omega) (by simp [col]; omega) hL, bnd_s, rq_t (by rw [maxRow_v]; omega), rq_t (by rw [maxRow_v]; omega)]
    rw [show ((i : Int) + 1) = ((i + 1 : Nat) : Int) by simp, this, cells]
    simp
theorem allF_0 : ∀ {l : List Cells}, allF l = 0 → ∀ c ∈ l, fieldF c.1 c.2.1 c.2.2.1 = 0
  | c :: r, h, x, hx => by
    rw [allF] at h
    by_cases q : fieldF c.1 c.2.1 c.2.2.1 = 0
    · rw [if_pos q] at h
      rcases List.mem_cons.1 hx with rfl | hx
      · exact q
      · exact allF_0 h x hx
    · rw [if_neg q] at h; exact absurd h q
theorem same_0 {a : Cells} : ∀ {l : List Cells}, same a l = true → ∀ c ∈ l, c.1 = a.1 ∧ c.2.1 = a.2.1
  | c :: r, h, x, hx => by
    rw [same, Bool.and_eq_true, Bool.and_eq_true, decide_eq_true_iff, decide_eq_true_iff] at h
    rcases List.mem_cons.1 hx with rfl | hx
    · exact h.1
    · exact same_0 h.2 x hx
theorem wide_of {a : Cells} {l : List Cells} (h1 : allF l = 0) (h2 : same a l = true) (ha : a ∈ l) : Wide a.2.2.1.length l := by
  intro c hc
  have g : ∀ x ∈ l, (x.2.2.1.length : Int) = x.1 * x.2.1 := by
    intro x hx
    have := allF_0 h1 x hx
    unfold fieldF at this
    split at this
    · cases this
    · omega
  have e1 := g c hc
  have e2 := g a ha
  obtain ⟨s1, s2⟩ := same_0 h2 c hc
  rw [s1, s2] at e1
  omega
def comb (l : List Cells) (f : Int) : Int × Int × List Bd × Int := match l with
  | [] => (0, 0, [], fieldsF l f)
  | a :: _ => if fieldsF l f = 0 then (a.1, a.2.1, cells l f 0 a.2.2.1.length, 0) else (0, 0, [], fieldsF l f)
theorem fields_nil (f : Int) : fieldsF [] f ≠ 0 := by
  unfold fieldsF
  simp only [List.length_nil, allF, sameAll]
  grind
theorem fields_0 {a : Cells} {q : List Cells} {f : Int} (h : fieldsF (a :: q) f = 0) : (a :: q).length ≤ 8 ∧ allF (a :: q) = 0 ∧ same a (a :: q) = true ∧ 0 ≤ f ∧ f ≤ 3 := by
  unfold fieldsF at h
  simp only [sameAll] at h
  grind
theorem combine_eq (L : Nat) (hL : L ≤ 4611686018427387904) (h16 : 1024 < L) (l : List Cells) (f : Int) (hs : Small L l) : p_clean_Combine L l f = some (comb l f) := by
  unfold p_clean_Combine comb
  rw [valid_eq L l f (by omega) hs, bnd_s, cb_d]
  cases l with
  | nil => rw [if_neg (fields_nil f)]
  | cons a q =>
    by_cases c : fieldsF (a :: q) f = 0
    · obtain ⟨c1, c2, c3, c4, c5⟩ := fields_0 c
      have hw := wide_of c2 c3 (by simp)
      have hn := field_len (allF_0 c2 a (by simp))
      have := cmb1 L hL _ (a :: q) hw c1 (by omega) f (by omega) a.2.2.1.length 0 [] (by omega) (by simp; omega)
      simp only [Int.natCast_zero, List.nil_append] at this
      rw [if_pos c, idx_z, bnd_s, rq_t (by omega), rq_t (by omega), Int.toNat_natCast, this, bnd_s]
      simp only [if_pos c]
    · rw [if_neg c]
      simp only [if_neg c]
theorem combined_eq (L : Nat) (hL : L ≤ 4611686018427387904) (h16 : 1024 < L) (l : List Cells) (f : Int) (hs : Small L l) : p_spyref3_Combined L l f = some (comb l f) := by
  have hv : p_spyref3_Combined L l f = if fieldsF l f = 0 then (bnd (idx l 0) fun x13 => rq ((x13.2.2.1.length : Int).toNat < L) <| rq ((x13.2.2.1.length : Int) < 4611686018427387904) <| bnd (p_spyref3_Combined_l2 L (l.length : Int) f l (x13.2.2.1.length : Int).toNat 0 ([])) fun o69 => some (x13.1, x13.2.1, o69, 0)) else some (0, 0, [], fieldsF l f) := by
    unfold p_spyref3_Combined fieldsF
    have h3 : p_spyref3_Combined_l1 L l l = some (if sameAll l = true then .inl () else .inr ()) := by
      cases l with
      | nil => rfl
      | cons a q => exact cs_l L a q _
    by_cases c1 : (l.length : Int) > 8
    · grind
    rw [rq_t (show l.length < L by omega), cf_l L l hs, bnd_s]
    simp only [h3, bnd_s]
    by_cases c : 0 ≤ f ∧ f < 8
    · rw [w64 (x := 2 * f) (by omega), w64 (x := 2 * f + 1) (by omega)]
      grind
    · grind
  rw [hv]
  unfold comb
  cases l with
  | nil => rw [if_neg (fields_nil f)]
  | cons a q =>
    by_cases c : fieldsF (a :: q) f = 0
    · obtain ⟨c1, c2, c3, c4, c5⟩ := fields_0 c
      have hw := wide_of c2 c3 (by simp)
      have hn := field_len (allF_0 c2 a (by simp))
      have := cmb2 L hL _ (a :: q) hw c1 (by omega) f a.2.2.1.length 0 [] (by omega) (by simp; omega)
      simp only [Int.natCast_zero, List.nil_append] at this
      rw [if_pos c, idx_z, bnd_s, rq_t (by omega), rq_t (by omega), Int.toNat_natCast, this, bnd_s]
      simp only [if_pos c]
    · rw [if_neg c]
      simp only [if_neg c]
/-! ### the same cells -/
theorem comb_len (l : List Cells) (f : Int) : (comb l f).2.2.1.length ≤ 1024 := by
  unfold comb
  cases l with
  | nil => simp
  | cons a q =>
    by_cases c : fieldsF (a :: q) f = 0
    · simp only [if_pos c, cells_len]
      exact field_len (allF_0 (fields_0 c).2.1 a (by simp))
    · simp only [if_neg c]; simp
end Go.Proofs.Ytnopgienncmcmaa.PlClean
end
section
set_option linter.unusedVariables false
set_option linter.unusedSimpArgs false
set_option maxRecDepth 100000
namespace Go.Proofs.Ytnopgienncmcmaa.E
open Go.Ev
noncomputable def en3 : Entry := ⟨Try.f3, [(1000000, mb 32 0 [4])]⟩
theorem mk3_1000000 (vs : List V) : mask (maskOf en3.ms 1000000) vs = km 32 0 [4] vs := mask_mb _ _ _ _
end Go.Proofs.Ytnopgienncmcmaa.E
end
section
set_option linter.unusedVariables false
set_option linter.unusedSimpArgs false
set_option maxRecDepth 100000
namespace Go.Proofs.Ytnopgienncmcmaa.E
open Go.Ev
noncomputable def en6 : Entry := ⟨Try.f6, [(0, mb 76 0 [6, 8, 24, 25, 26]), (2, mb 76 0 [6, 8, 11, 24, 25, 26, 31, 32, 33]), (1000001, mb 76 0 [8]), (1000002, mb 76 0 [6, 8, 24, 25, 26]), (1000003, mb 76 0 [6, 8, 11, 24, 25, 26]), (1000004, mb 76 0 [6, 8, 11, 24, 25, 26, 31, 32, 33]), (1000000, mb 76 0 [4, 5]), (6000000, mb 76 0 [8]), (7000000, mb 76 0 [68])]⟩
theorem mk6_0 (vs : List V) : mask (maskOf en6.ms 0) vs = km 76 0 [6, 8, 24, 25, 26] vs := mask_mb _ _ _ _
theorem mk6_2 (vs : List V) : mask (maskOf en6.ms 2) vs = km 76 0 [6, 8, 11, 24, 25, 26, 31, 32, 33] vs := mask_mb _ _ _ _
theorem mk6_1000001 (vs : List V) : mask (maskOf en6.ms 1000001) vs = km 76 0 [8] vs := mask_mb _ _ _ _
theorem mk6_1000002 (vs : List V) : mask (maskOf en6.ms 1000002) vs = km 76 0 [6, 8, 24, 25, 26] vs := mask_mb _ _ _ _
theorem mk6_1000003 (vs : List V) : mask (maskOf en6.ms 1000003) vs = km 76 0 [6, 8, 11, 24, 25, 26] vs := mask_mb _ _ _ _
theorem mk6_1000004 (vs : List V) : mask (maskOf en6.ms 1000004) vs = km 76 0 [6, 8, 11, 24, 25, 26, 31, 32, 33] vs := mask_mb _ _ _ _
theorem mk6_1000000 (vs : List V) : mask (maskOf en6.ms 1000000) vs = km 76 0 [4, 5] vs := mask_mb _ _ _ _
def fk6_0 : List Bool := mb 76 0 [68]
theorem fz6_0 (lv : Nat) (f : Run) : frzF en6.ms lv 0 f = fun env st => frzO false lv (mb 76 0 [8]) fk6_0 (f env st) := nr rfl
theorem fi6_0 (lv : Nat) (env : List V) (st : Store) (q : Store → Out) : frzI en6.ms lv 0 env st q = (match frzL false st lv fk6_0 (mb 76 0 [8]) env st with | some st' => q (killL lv fk6_0 0 st') | none => none) := nr rfl
theorem kq6_0 (lv : Nat) (st : Store) : killL lv fk6_0 0 st = killAt (st) (lv, 68) := nr rfl
theorem gd6_0_6 : fk6_0.getD 6 false = false := by kernel_rfl
theorem gd6_0_10 : fk6_0.getD 10 false = false := by kernel_rfl
theorem gd6_0_13 : fk6_0.getD 13 false = false := by kernel_rfl
theorem gd6_0_14 : fk6_0.getD 14 false = false := by kernel_rfl
theorem gd6_0_18 : fk6_0.getD 18 false = false := by kernel_rfl
theorem gd6_0_25 : fk6_0.getD 25 false = false := by kernel_rfl
theorem gd6_0_32 : fk6_0.getD 32 false = false := by kernel_rfl
theorem gd6_0_67 : fk6_0.getD 67 false = false := by kernel_rfl
theorem gd6_0_68 : fk6_0.getD 68 false = true := by kernel_rfl
theorem gd6_0_72 : fk6_0.getD 72 false = false := by kernel_rfl
theorem gd6_0_73 : fk6_0.getD 73 false = false := by kernel_rfl
theorem fz6_2 (lv : Nat) (f : Run) : frzF en6.ms lv 2 f = f := nr rfl
theorem fi6_2 (lv : Nat) (env : List V) (st : Store) (q : Store → Out) : frzI en6.ms lv 2 env st q = q st := nr rfl
noncomputable def lb6_0 : Code := loopN Try.f6 0
noncomputable def lb6_2 : Code := loopN Try.f6 1
end Go.Proofs.Ytnopgienncmcmaa.E
end
