/- Parts of one proof, joined: G6, E7, E17, G17, G7, E8, E18, E19, G19, G8, E5, E15, G15, Struck, G3. -/
import Derived.Test.YtnopgienncmcmaaMCleanStrikes9
import Derived.Test.YtnopgienncmcmaaProg
section
set_option linter.unusedVariables false
set_option linter.unusedSimpArgs false
set_option maxRecDepth 100000
namespace Go.Proofs.Ytnopgienncmcmaa.P
open Go.Ev Go.IntKind Go.Proofs.Ytnopgienncmcmaa Go.Proofs.Ytnopgienncmcmaa.Ty Go.Proofs.Ytnopgienncmcmaa.E
def p_spyref3_Hit_l1 (L : Nat) (a6 : List (Int × Int × Bool × Unit)) : List (Int × Int × Bool × Unit) → Int → (List Int) → Option (List Int)
  | [], s31, s33 => some s33
  | x28 :: tl, s31, s33 => bnd (idx a6 s31) fun x35 => cb x28.2.2.1 (p_spyref3_Hit_l1 L a6 tl (s31 + 1) s33) (cb x35.2.2.1 (p_spyref3_Hit_l1 L a6 tl (s31 + 1) s33) (if x28.1 > x35.2.1 then (rq (s33.length + 1 ≤ maxRow) <| rq ((s33.length + 1) * 8 ≤ maxRow) <| p_spyref3_Hit_l1 L a6 tl (s31 + 1) (s33 ++ [s31])) else (if x28.2.1 < x35.1 then (rq (s33.length + 1 ≤ maxRow) <| rq ((s33.length + 1) * 8 ≤ maxRow) <| p_spyref3_Hit_l1 L a6 tl (s31 + 1) (s33 ++ [s31])) else (p_spyref3_Hit_l1 L a6 tl (s31 + 1) s33))))
def p_spyref3_Hit_l0 (L : Nat) (a6 : List (Int × Int × Bool × Unit)) : List (Int × Int × (List (Int × Int × Bool × Unit)) × Unit) → (List (List Int)) → Option (List (List Int))
  | [], s17 => some s17
  | x2 :: tl, s17 => rq (x2.2.2.1.length < L) <| bnd (p_spyref3_Hit_l1 L a6 x2.2.2.1 0 ([])) fun o36 => rq (s17.length + 1 ≤ maxRow) <| rq ((s17.length + 1) * 24 ≤ maxRow) <| p_spyref3_Hit_l0 L a6 tl (s17 ++ [o36])
def p_spyref3_Hit (L : Nat) (a0 : List (Int × Int × (List (Int × Int × Bool × Unit)) × Unit)) (a1 : Int) : Option ((List (List Int)) × Int) := bnd (p_spyref3_Combined L a0 a1) fun r1 => cb (decide (r1.2.2.2 = 0)) (rq (a0.length < L) <| bnd (p_spyref3_Hit_l0 L r1.2.2.1 a0 ([])) fun o38 => some (o38, 0)) (some (([] : List (List Int)), r1.2.2.2))
attribute [local go_sem] Ev.putR_s Ev.putR_0 Ev.thenO_s Ev.thenO_0 Ev.seqR_n Ev.seqR_e Ev.seqR_r Ev.seqR_0 Ev.blkR_e Ev.blkR_n Ev.blkR_r Ev.blkR_0 Ev.normR_s Ev.normR_0 Ev.outR_r Ev.outR_n Ev.outR_0 Ev.retS_s Ev.retS_0 Ev.pureO_s Ev.pureO_0 Ev.topR_0 Ev.topR_t Ev.topR_t0 Ev.oneL_0 Ev.oneL_s Ev.topR_d Ev.topR_nils Ev.topR_agg Ev.topR_rs Ev.evOp_move Ev.evOp_assign Ev.evOp_pick Ev.evOp_alloc Ev.evOp_box Ev.evOp_build Ev.evOp_buildSlice Ev.evOp_load Ev.evOp_store Ev.evOp_makeMap Ev.evOp_lookup Ev.evOp_mapUpdate Ev.evOp_insert Ev.evOp_nilCheck Ev.evOp_binOp Ev.evOp_unOp Ev.evOp_convert Ev.evOp_makeFunc Ev.evOp_makeSlice Ev.evOp_slice Ev.evOp_fieldAddr Ev.evOp_field Ev.evOp_indexAddr Ev.evOp_index Ev.evOp_extract Ev.evOp_call Ev.evOp_append Ev.evOp_clear Ev.evOp_len Ev.evLen_d Ev.evLen_rs Ev.evLen_nils Ev.evLen_nila Ev.evLen_mp Ev.evOp_min Ev.evOp_max Ev.condR_b Ev.condR_t Ev.evOps_nil Ev.evOps_plain Ev.evOps_guard Ev.runG_eq Ev.skipG_eq Ev.condL_tt Ev.condL_ff Ev.condL_tf Ev.condL_ft Ev.condL_u Ev.condC_t Ev.condC_f Ev.evC_skip Ev.evC_ret Ev.evC_exit Ev.evC_label Ev.evC_region Ev.evC_draw Ev.evC_seq Ev.evC_cond Ev.evC_block Ev.evC_loop Ev.fin_d Ev.fin_nila Ev.fin_nils Ev.fin_agg_ Ev.fin_rs Ev.finS_s Ev.mapO_fin Ev.upd_upd Ev.argv_d Ev.argv_nila Ev.argv_nils Ev.argv_agg Ev.argv_rs Ev.argv_p Ev.fk_low Ev.appendTo_nils Ev.appendTo_nila Ev.appendTo_rs Ev.consV_d Ev.consV_agg Ev.consV_p Ev.consV_rs Ev.consV_nila Ev.consV_nils Ev.consV_fn Ev.consV_und Ev.consV_jk Ev.consV_grown Ev.topR_grown Ev.len_grown Ev.consV_mp Ev.sameK_i Ev.sameK_s Ev.mget_0 Ev.mget_hit Ev.mget_miss Ev.mput_0 Ev.mput_hit Ev.mput_miss Ev.apartAll Ev.apartL Ev.apartV Ev.freeAll Ev.sel Ev.keyOfV Ev.evLookup Ev.evPut Ev.hintOk Ev.keyOk Ev.consP Ev.lookV Ev.guardV Ev.dstAt Ev.evPure Ev.evStore Ev.evBin Ev.evBinO Ev.evNil Ev.isNilC Ev.evUn Ev.evConv Ev.evSlice Ev.optI Ev.foldI Ev.capsOk Ev.noTup Ev.nth Ev.setN Ev.killAt Ev.pad Ev.V.get Ev.V.put Ev.putD Ev.newBlk Ev.upd Ev.keq Ev.empty Ev.evCall Ev.V.args Ev.argP Ev.callOf Ev.evNilP Ev.isNilP Ev.look Ev.V.view.views Ev.V.view Ev.V.toD Ev.V.toD.V.toDs Ev.V.pure.pures Ev.V.pure Ev.D.flat.flats Ev.D.flat Ev.mkAgg Ev.allD Ev.aggParts Ev.setParts Ev.setElems Ev.getPath Ev.setPath Ev.subL Ev.eqD Ev.eqD.eqDs Ev.and2 Ev.strCut Ev.evalT Ev.constT Ev.evArgs Ev.mask Ev.maskOf Ev.tableOf Ev.compT Ev.resV Ev.retV Ev.mapO Ev.hT_nila Ev.eO_nila Ev.pL_nila Ev.evLen_gl Ev.r_nila Ev.frzO_n Ev.frzO_e Ev.frzO_r Ev.frzO_0 Ev.mb_z Ev.mb_0 Ev.mb_s Ev.frzL_t Ev.frzL_f Ev.frzL_0 Ev.frzT_nils Ev.frzT_rs Ev.frzT_p Ev.frzK_i Ev.keyIn_i Ev.rI_nil Ev.rI_cons Ev.rI_row Ev.rI_app Ev.r_d Ev.r_nils Ev.r_agg Ev.r_rs Ev.r_gl Ev.vw_row Ev.vw_app Ev.appO_s Ev.frzT_gl Ev.allD_gl Ev.killAt_i Ev.tkOne_i Ev.hT_agg Ev.hT_vagg Ev.hT_int Ev.hT_bool Ev.hT_str Ev.hT_sl Ev.hT_ptr Ev.hT_np Ev.hT_p Ev.hT_rs Ev.hT_mp Ev.hT_nils Ev.hT_fn Ev.hT_jk Ev.hT_gl Ev.eO_sl Ev.eO_nils Ev.eO_rs Ev.eT_sl Ev.eT_rs Ev.pL_str Ev.pL_sl Ev.pL_rs Ev.pL_nils Ev.pL_min Ev.pL_max Ev.len_glB Ev.noTup_gl Ev.rowV_len Ev.rowV_nil Ev.rowV_cons Ev.rowV_append Ev.rowV_set Ev.rowV_replicate Ev.nth_row Ev.row_take Ev.row_drop Ev.toDs_row Ev.fin_row Ev.map_row Ev.map_take_ Ev.map_drop_ Ev.Bk_i Ev.GlB_0 Ev.GlB_mk Ev.gl_nil Ev.gl_cons Ev.gl_snoc Ev.gl_setN Ev.appendTo_gl Ev.consV_gl Ev.elems_gl Ev.fin_gl Ev.view_gl Ev.argv_gl Ev.topR_gl Ev.sp_z Ev.sp_0 Ev.sp_s Ev.km_z Ev.km_0 Ev.km_s Ev.beq_toList Ev.nc0 Ev.bq_t Ev.bq_f Ev.bodyN Ev.le_maxRow Int.cast_ofNat_Int IntWalk.i64_in IntWalk.u64_in IntWalk.u8_in beq_self_eq_true Bool.true_beq Bool.false_beq Bool.and_true Bool.true_and Bool.false_and Bool.and_false Bool.and_self Bool.not_true Bool.not_false Bool.not_eq_true cond_true cond_false if_true if_false and_true true_and and_self decide_true decide_false Bool.or_true Bool.true_or Bool.or_false Bool.false_or List.isEmpty List.isEmpty_nil List.size_toArray List.map List.length_map List.length_cons List.length_nil Option.map Option.bind Option.getD Option.isSome List.replicate Bool.false_eq_true implies_true false_implies forall_const Array.toList Array.isEmpty List.append List.nil_append List.cons_append List.drop_zero List.take_length List.take_succ_cons List.take_zero List.take_nil List.getElem?_map List.getElem?_cons_zero List.getElem?_cons_succ List.getElem?_nil List.append_nil eq_self Int.toNat_natCast List.length_append Nat.zero_add Nat.add_zero List.length_replicate Nat.sub_zero Option.map_some Option.map_none Int.le_refl Nat.le_refl Int.natCast_nonneg List.map_append
attribute [local go_sem_proc] Nat.reduceAdd Nat.reduceSub Nat.reduceMul Nat.reduceEqDiff Nat.reduceBEq Nat.reduceLT Nat.reduceLeDiff Nat.reducePow Int.reduceToNat Int.reduceLT Int.reduceLE Int.reduceGT Int.reduceGE Int.reduceEq Int.reduceNeg Int.reduceAdd Int.reduceSub Int.reduceMul reduceCtorEq
attribute [local go_sem_proc ↓] reduceIte
noncomputable def G_spyref3_Hit (L : Nat) : Specs := [(16, s_spyref3_Combined L)]
noncomputable def T_spyref3_Hit : Table := tableOf [(6, en6)]
theorem Go_spyref3_Hit (L : Nat) (hL : L ≤ 4611686018427387904) : ∀ g s, Ev.look (G_spyref3_Hit L) g = some s → SpecOk Try.prog g s := (specs_cons (ok_spyref3_Combined L hL) specs_nil)
theorem To_spyref3_Hit (L : Nat) : TableOk Try.prog ((G_spyref3_Hit L).map (·.1)) T_spyref3_Hit := (table_cons Try.func6 (by kernel_rfl) (by kernel_rfl) table_nil)
theorem lk_spyref3_Hit_16 (L : Nat) : Ev.look (G_spyref3_Hit L) 16 = some (s_spyref3_Combined L) := nr rfl
attribute [local go_sem] Ty.tk3 Ty.ik3 Ty.ek3 Ty.zv3 Ty.by3 Ty.so3 Ty.tk4 Ty.ub4 Ty.ek4 Ty.zv4 Ty.by4 Ty.so4 Ty.tk22 Ty.zv22 Ty.by22 Ty.so22 Ty.tk23 Ty.zv23 Ty.by23 Ty.so23 Ty.tk24 Ty.ik24 Ty.ek24 Ty.zv24 Ty.by24 Ty.so24 Ty.tk40 Ty.zv40 Ty.by40 Ty.so40 Ty.tk42 Ty.ct42 Ty.zv42 Ty.by42 Ty.so42 Ty.tk45 Ty.ik45 Ty.ek45 Ty.zv45 Ty.by45 Ty.so45 Ty.tk47 Ty.ct47 Ty.ek47 Ty.zv47 Ty.by47 Ty.so47 Ty.tk50 Ty.zv50 Ty.by50 Ty.so50 Ty.k22_e Ty.k23_e Ty.k40_e Ty.k42_e Ty.k47_e Ty.k50_e E.mk6_0 E.mk6_2 E.mk6_1000001 E.mk6_1000002 E.mk6_1000003 E.mk6_1000004 E.mk6_1000000 E.kq6_0 E.gd6_0_6 E.gd6_0_10 E.gd6_0_13 E.gd6_0_14 E.gd6_0_18 E.gd6_0_25 E.gd6_0_32 E.gd6_0_67 E.gd6_0_68 E.gd6_0_72 E.gd6_0_73 E.fz6_0 E.fi6_0 E.fz6_2 E.fi6_2 E.lb6_0 E.lb6_2 lk_spyref3_Hit_16 s_spyref3_Combined_run loopN loops Try.f6
def Q0_p_spyref3_Hit_l1 (a0 : List (Int × Int × (List (Int × Int × Bool × Unit)) × Unit)) (a29 : Int) (s3 : Int) (a30 : List (Int × Int × Bool × Unit)) (a4 : Int) (a5 : Int) (a6 : List (Int × Int × Bool × Unit)) (s17 : List (List Int)) (u : List Int) (z : Out) : Prop := ∃ env st, z = some (.exit 2, env, st) ∧ env = sp 76 0 [(6, .p (0, 6) (st (0, 6)).ver 0 []), (8, gl 50 (0, 73) (st (0, 73)).ver (rowV k50.e s17)), (11, gl 3 (0, 68) (st (0, 68)).ver (rowV (D.int .i64) u)), (24, .d (.sl 42 (a0.map k42.e))), (25, .d (.int .i64 a29)), (26, .d (.int .i64 s3))] ∧ Bk (st (0, 6)) 42 [.d (.agg 42 [.int .i64 a4, .int .i64 a5, .sl 47 (a6.map k47.e)])] ∧ GlB (st (0, 68)) 3 (rowV (D.int .i64) u) ∧ GlB (st (0, 73)) 50 (rowV k50.e s17)
abbrev Q_p_spyref3_Hit_l1 (a0 : List (Int × Int × (List (Int × Int × Bool × Unit)) × Unit)) (a29 : Int) (s3 : Int) (a30 : List (Int × Int × Bool × Unit)) (a4 : Int) (a5 : Int) (a6 : List (Int × Int × Bool × Unit)) (s17 : List (List Int)) (o : List Int) (z : Out) : Prop := Q0_p_spyref3_Hit_l1 a0 a29 s3 a30 a4 a5 a6 s17 o z
theorem l_p_spyref3_Hit_l1 (L : Nat) (hL : L ≤ 4611686018427387904) (a0 : List (Int × Int × (List (Int × Int × Bool × Unit)) × Unit)) (a29 : Int) (s3 : Int) (a30 : List (Int × Int × Bool × Unit)) (a4 : Int) (a5 : Int) (a6 : List (Int × Int × Bool × Unit)) (s17 : List (List Int)) : ∀ (tl : List (Int × Int × Bool × Unit)) (n : Nat) (s31 : Int) (s33 : List Int) (env : List V) (st : Store) (o : List Int), tl.length < n → Rng a30 s31 tl → mask (maskOf en6.ms 2) env = sp 76 0 [(6, .p (0, 6) (st (0, 6)).ver 0 []), (8, gl 50 (0, 73) (st (0, 73)).ver (rowV k50.e s17)), (11, gl 3 (0, 68) (st (0, 68)).ver (rowV (D.int .i64) s33)), (24, .d (.sl 42 (a0.map k42.e))), (25, .d (.int .i64 a29)), (26, .d (.int .i64 s3)), (31, .d (.sl 47 (a30.map k47.e))), (32, .d (.int .i64 (a30.length : Int))), (33, .d (.int .i64 s31))] → Bk (st (0, 6)) 42 [.d (.agg 42 [.int .i64 a4, .int .i64 a5, .sl 47 (a6.map k47.e)])] → GlB (st (0, 68)) 3 (rowV (D.int .i64) s33) → GlB (st (0, 73)) 50 (rowV k50.e s17) → p_spyref3_Hit_l1 L a6 tl s31 s33 = some o →
    Q_p_spyref3_Hit_l1 a0 a29 s3 a30 a4 a5 a6 s17 o (iter (evC Try.prog (G_spyref3_Hit L) (evF Try.prog (G_spyref3_Hit L) T_spyref3_Hit L 0) L en6.ms 0 2 lb6_2) (maskOf en6.ms 2) n env st) := by
  intro tl
  induction tl with
  | nil =>
    intro n s31 s33 env st o hn hR he hb0 hb1 hb2 h
    obtain ⟨n, rfl⟩ : ∃ m, n = m + 1 := ⟨n - 1, by omega⟩
    obtain ⟨be0, bv0, bl0⟩ := hb0
    have g0 := rng_nil hR
    rw [iter, he]
    clear he
    generalize hK : iter _ _ n = K
    rw [p_spyref3_Hit_l1] at h
    revert h
    rintro ⟨⟩
    simp only [go_sem, *]
    refine (⟨_, _, rfl, ?_, ?_, ?_, ?_⟩ : Q0_p_spyref3_Hit_l1 _ _ _ _ _ _ _ _ _ _)
    all_goals simp only [go_sem, *]
  | cons x28 tl ih =>
    intro n s31 s33 env st o hn hR he hb0 hb1 hb2 h
    obtain ⟨n, rfl⟩ : ∃ m, n = m + 1 := ⟨n - 1, by omega⟩
    obtain ⟨be0, bv0, bl0⟩ := hb0
    replace ih : Hold _ := ih
    replace hR := rng_s hR
    obtain ⟨g0, g1, g2, g3, hR⟩ := hR
    rw [iter, he]
    clear he
    generalize hK : iter _ _ n = K
    rw [p_spyref3_Hit_l1] at h
    revert h
    refine idx_i fun x35 c1 c2 c3 => ?_
    refine cb_i (fun c4 => ?_) (fun c4 => ?_)
    · intro h
      simp only [go_sem, *]
      subst hK
      refine ih n (s31 + 1) s33 _ _ _ (by simp only [List.length_cons] at hn; omega) hR ?_ ?_ ?_ ?_ h
      all_goals simp only [go_sem, *]
    · refine cb_i (fun c5 => ?_) (fun c5 => ?_)
      · intro h
        simp only [go_sem, *]
        subst hK
        refine ih n (s31 + 1) s33 _ _ _ (by simp only [List.length_cons] at hn; omega) hR ?_ ?_ ?_ ?_ h
        all_goals simp only [go_sem, *]
      · refine ite_i (fun c6 => ?_) (fun c6 => ?_)
        · refine rq_i fun c7 => ?_
          refine rq_i fun c8 => ?_
          intro h
          simp only [go_sem, *]
          subst hK
          refine ih n (s31 + 1) (s33 ++ [s31]) _ _ _ (by simp only [List.length_cons] at hn; omega) hR ?_ ?_ ?_ ?_ h
          all_goals simp only [go_sem, *]
        · refine ite_i (fun c9 => ?_) (fun c9 => ?_)
          · refine rq_i fun c10 => ?_
            refine rq_i fun c11 => ?_
            intro h
            simp only [go_sem, *]
            subst hK
            refine ih n (s31 + 1) (s33 ++ [s31]) _ _ _ (by simp only [List.length_cons] at hn; omega) hR ?_ ?_ ?_ ?_ h
            all_goals simp only [go_sem, *]
          · intro h
            simp only [go_sem, *]
            subst hK
            refine ih n (s31 + 1) s33 _ _ _ (by simp only [List.length_cons] at hn; omega) hR ?_ ?_ ?_ ?_ h
            all_goals simp only [go_sem, *]
def Q0_p_spyref3_Hit_l0 (a0 : List (Int × Int × (List (Int × Int × Bool × Unit)) × Unit)) (a4 : Int) (a5 : Int) (a6 : List (Int × Int × Bool × Unit)) (u : List (List Int)) (z : Out) : Prop := ∃ env st, z = some (.exit 0, env, st) ∧ env = sp 76 0 [(8, gl 50 (0, 73) (st (0, 73)).ver (rowV k50.e u))] ∧ GlB (st (0, 73)) 50 (rowV k50.e u)
abbrev Q_p_spyref3_Hit_l0 (a0 : List (Int × Int × (List (Int × Int × Bool × Unit)) × Unit)) (a4 : Int) (a5 : Int) (a6 : List (Int × Int × Bool × Unit)) (o : List (List Int)) (z : Out) : Prop := Q0_p_spyref3_Hit_l0 a0 a4 a5 a6 o z
theorem l_p_spyref3_Hit_l0 (L : Nat) (hL : L ≤ 4611686018427387904) (a0 : List (Int × Int × (List (Int × Int × Bool × Unit)) × Unit)) (a4 : Int) (a5 : Int) (a6 : List (Int × Int × Bool × Unit)) : ∀ (tl : List (Int × Int × (List (Int × Int × Bool × Unit)) × Unit)) (n : Nat) (s3 : Int) (s17 : List (List Int)) (env : List V) (st : Store) (o : List (List Int)), tl.length < n → Rng a0 s3 tl → mask (maskOf en6.ms 0) env = sp 76 0 [(6, .p (0, 6) (st (0, 6)).ver 0 []), (8, gl 50 (0, 73) (st (0, 73)).ver (rowV k50.e s17)), (24, .d (.sl 42 (a0.map k42.e))), (25, .d (.int .i64 (a0.length : Int))), (26, .d (.int .i64 s3))] → Bk (st (0, 6)) 42 [.d (.agg 42 [.int .i64 a4, .int .i64 a5, .sl 47 (a6.map k47.e)])] → GlB (st (0, 73)) 50 (rowV k50.e s17) → p_spyref3_Hit_l0 L a6 tl s17 = some o →
    Q_p_spyref3_Hit_l0 a0 a4 a5 a6 o (iter (fun env st => frzO false 0 (mb 76 0 [8]) fk6_0 (evC Try.prog (G_spyref3_Hit L) (evF Try.prog (G_spyref3_Hit L) T_spyref3_Hit L 0) L en6.ms 0 0 lb6_0 env st)) (maskOf en6.ms 0) n env st) := by
  intro tl
  induction tl with
  | nil =>
    intro n s3 s17 env st o hn hR he hb0 hb1 h
    obtain ⟨n, rfl⟩ : ∃ m, n = m + 1 := ⟨n - 1, by omega⟩
    obtain ⟨be0, bv0, bl0⟩ := hb0
    have g0 := rng_nil hR
    rw [iter, he]
    clear he
    generalize hK : iter _ _ n = K
    rw [p_spyref3_Hit_l0] at h
    revert h
    rintro ⟨⟩
    simp only [go_sem, *]
    refine (⟨_, _, rfl, ?_, ?_⟩ : Q0_p_spyref3_Hit_l0 _ _ _ _ _ _)
    all_goals simp only [go_sem, *]
  | cons x2 tl ih =>
    intro n s3 s17 env st o hn hR he hb0 hb1 h
    obtain ⟨n, rfl⟩ : ∃ m, n = m + 1 := ⟨n - 1, by omega⟩
    obtain ⟨be0, bv0, bl0⟩ := hb0
    replace ih : Hold _ := ih
    replace hR := rng_s hR
    obtain ⟨g0, g1, g2, g3, hR⟩ := hR
    rw [iter, he]
    clear he
    generalize hK : iter _ _ n = K
    rw [p_spyref3_Hit_l0] at h
    revert h
    refine rq_i fun c1 => ?_
    refine bnd_i fun o36 ho2 => ?_
    intro h
    simp only [go_sem, *]
    generalize hz4 : iter _ _ _ _ _ = z3
    have hq5 : Q_p_spyref3_Hit_l1 a0 (a0.length : Int) s3 x2.2.2.1 a4 a5 a6 s17 o36 z3 := by
      rw [← hz4]
      refine l_p_spyref3_Hit_l1 L hL a0 (a0.length : Int) s3 x2.2.2.1 a4 a5 a6 s17 x2.2.2.1 L 0 ([]) _ _ _ c1 (rng_0 c1 hL) ?_ ?_ ?_ ?_ ho2
      all_goals simp only [go_sem, *]
    clear hz4 ho2
    obtain ⟨_, st37, rfl, rfl, ⟨k61, k62, k63⟩, k7, k8⟩ := hq5
    revert h
    refine rq_i fun c9 => ?_
    refine rq_i fun c10 => ?_
    intro h
    simp only [go_sem, *]
    subst hK
    refine ih n (s3 + 1) (s17 ++ [o36]) _ _ _ (by simp only [List.length_cons] at hn; omega) hR ?_ ?_ ?_ h
    all_goals simp only [go_sem, *]
theorem e_spyref3_Hit (L : Nat) (hL : L ≤ 4611686018427387904) (a0 : List (Int × Int × (List (Int × Int × Bool × Unit)) × Unit)) (a1 : Int) (res : (List (List Int)) × Int) (h : p_spyref3_Hit L a0 a1 = some res) : evTop Try.prog (G_spyref3_Hit L) T_spyref3_Hit L 1 6 [.sl 42 (a0.map k42.e), .int .i64 a1] = some [.sl 50 (res.1.map k50.e), .int .i64 res.2] := by
  revert h
  unfold p_spyref3_Hit evTop
  simp only [List.map]
  rw [evF_s (fn := Try.f6) (msk := en6.ms) (hT := by rfl) (hb := by rfl)]
  refine bnd_i fun r1 c1 => ?_
  refine cb_i (fun c2 => ?_) (fun c2 => ?_)
  · refine rq_i fun c3 => ?_
    refine bnd_i fun o38 ho4 => ?_
    intro h
    simp only [go_sem, *]
    generalize hz6 : iter _ _ _ _ _ = z5
    have hq7 : Q_p_spyref3_Hit_l0 a0 r1.1 r1.2.1 r1.2.2.1 o38 z5 := by
      rw [← hz6]
      refine l_p_spyref3_Hit_l0 L hL a0 r1.1 r1.2.1 r1.2.2.1 a0 L 0 ([]) _ _ _ c3 (rng_0 c3 hL) ?_ ?_ ?_ ho4
      all_goals simp only [go_sem, *]
    clear hz6 ho4
    obtain ⟨_, st39, rfl, rfl, k8⟩ := hq7
    revert h
    rintro ⟨⟩
    simp only [go_sem, *]
  · rintro ⟨⟩
    simp only [go_sem, *]
noncomputable def s_spyref3_Hit (L : Nat) : Ev.Spec := specP (cCons k22 (cCons (cI .i64) cNil)) (fun x => p_spyref3_Hit L x.1 x.2.1) (fun r => [.sl 50 (r.1.map k50.e), .int .i64 r.2])
theorem s_spyref3_Hit_run (L : Nat) (a0 : List (Int × Int × (List (Int × Int × Bool × Unit)) × Unit)) (a1 : Int) : (s_spyref3_Hit L).run [.sl 42 (a0.map k42.e), .int .i64 a1] = (p_spyref3_Hit L a0 a1).map fun r => [.sl 50 (r.1.map k50.e), .int .i64 r.2] := specP_run (cCons k22 (cCons (cI .i64) cNil)) (fun x => p_spyref3_Hit L x.1 x.2.1) (fun r => [.sl 50 (r.1.map k50.e), .int .i64 r.2]) (a0, a1, ())
theorem ok_spyref3_Hit (L : Nat) (hL : L ≤ 4611686018427387904) : SpecOk Try.prog 6 (s_spyref3_Hit L) := specP_ok mixed (Go_spyref3_Hit L hL) (To_spyref3_Hit L) fun x r h => ⟨L, 1, e_spyref3_Hit L hL x.1 x.2.1 r h⟩
end Go.Proofs.Ytnopgienncmcmaa.P
end
section
set_option linter.unusedVariables false
set_option linter.unusedSimpArgs false
set_option maxRecDepth 100000
namespace Go.Proofs.Ytnopgienncmcmaa.E
open Go.Ev
noncomputable def en7 : Entry := ⟨Try.f7, [(1000000, mb 31 0 [0])]⟩
theorem mk7_1000000 (vs : List V) : mask (maskOf en7.ms 1000000) vs = km 31 0 [0] vs := mask_mb _ _ _ _
end Go.Proofs.Ytnopgienncmcmaa.E
end
section
set_option linter.unusedVariables false
set_option linter.unusedSimpArgs false
set_option maxRecDepth 100000
namespace Go.Proofs.Ytnopgienncmcmaa.E
open Go.Ev
noncomputable def en17 : Entry := ⟨Try.f17, [(1000000, mb 10 0 [4])]⟩
theorem mk17_1000000 (vs : List V) : mask (maskOf en17.ms 1000000) vs = km 10 0 [4] vs := mask_mb _ _ _ _
end Go.Proofs.Ytnopgienncmcmaa.E
end
section
set_option linter.unusedVariables false
set_option linter.unusedSimpArgs false
set_option maxRecDepth 100000
namespace Go.Proofs.Ytnopgienncmcmaa.P
open Go.Ev Go.IntKind Go.Proofs.Ytnopgienncmcmaa Go.Proofs.Ytnopgienncmcmaa.Ty Go.Proofs.Ytnopgienncmcmaa.E
def p_spylaw3_cleans_1 (L : Nat) (a0 : Int) (a1 : Int) : Option (Int × Int × (List (Int × Int × Bool × Unit))) := some (1, 1, [(a0, a1, false, ())])
attribute [local go_sem] Ev.putR_s Ev.putR_0 Ev.thenO_s Ev.thenO_0 Ev.seqR_n Ev.seqR_e Ev.seqR_r Ev.seqR_0 Ev.blkR_e Ev.blkR_n Ev.blkR_r Ev.blkR_0 Ev.normR_s Ev.normR_0 Ev.outR_r Ev.outR_n Ev.outR_0 Ev.retS_s Ev.retS_0 Ev.pureO_s Ev.pureO_0 Ev.topR_0 Ev.topR_t Ev.topR_t0 Ev.oneL_0 Ev.oneL_s Ev.topR_d Ev.topR_nils Ev.topR_agg Ev.topR_rs Ev.evOp_move Ev.evOp_assign Ev.evOp_pick Ev.evOp_alloc Ev.evOp_box Ev.evOp_build Ev.evOp_buildSlice Ev.evOp_load Ev.evOp_store Ev.evOp_makeMap Ev.evOp_lookup Ev.evOp_mapUpdate Ev.evOp_insert Ev.evOp_nilCheck Ev.evOp_binOp Ev.evOp_unOp Ev.evOp_convert Ev.evOp_makeFunc Ev.evOp_makeSlice Ev.evOp_slice Ev.evOp_fieldAddr Ev.evOp_field Ev.evOp_indexAddr Ev.evOp_index Ev.evOp_extract Ev.evOp_call Ev.evOp_append Ev.evOp_clear Ev.evOp_len Ev.evLen_d Ev.evLen_rs Ev.evLen_nils Ev.evLen_nila Ev.evLen_mp Ev.evOp_min Ev.evOp_max Ev.condR_b Ev.condR_t Ev.evOps_nil Ev.evOps_plain Ev.evOps_guard Ev.runG_eq Ev.skipG_eq Ev.condL_tt Ev.condL_ff Ev.condL_tf Ev.condL_ft Ev.condL_u Ev.condC_t Ev.condC_f Ev.evC_skip Ev.evC_ret Ev.evC_exit Ev.evC_label Ev.evC_region Ev.evC_draw Ev.evC_seq Ev.evC_cond Ev.evC_block Ev.evC_loop Ev.fin_d Ev.fin_nila Ev.fin_nils Ev.fin_agg_ Ev.fin_rs Ev.finS_s Ev.mapO_fin Ev.upd_upd Ev.argv_d Ev.argv_nila Ev.argv_nils Ev.argv_agg Ev.argv_rs Ev.argv_p Ev.fk_low Ev.appendTo_nils Ev.appendTo_nila Ev.appendTo_rs Ev.consV_d Ev.consV_agg Ev.consV_p Ev.consV_rs Ev.consV_nila Ev.consV_nils Ev.consV_fn Ev.consV_und Ev.consV_jk Ev.consV_grown Ev.topR_grown Ev.len_grown Ev.consV_mp Ev.sameK_i Ev.sameK_s Ev.mget_0 Ev.mget_hit Ev.mget_miss Ev.mput_0 Ev.mput_hit Ev.mput_miss Ev.apartAll Ev.apartL Ev.apartV Ev.freeAll Ev.sel Ev.keyOfV Ev.evLookup Ev.evPut Ev.hintOk Ev.keyOk Ev.consP Ev.lookV Ev.guardV Ev.dstAt Ev.evPure Ev.evStore Ev.evBin Ev.evBinO Ev.evNil Ev.isNilC Ev.evUn Ev.evConv Ev.evSlice Ev.optI Ev.foldI Ev.capsOk Ev.noTup Ev.nth Ev.setN Ev.killAt Ev.pad Ev.V.get Ev.V.put Ev.putD Ev.newBlk Ev.upd Ev.keq Ev.empty Ev.evCall Ev.V.args Ev.argP Ev.callOf Ev.evNilP Ev.isNilP Ev.look Ev.V.view.views Ev.V.view Ev.V.toD Ev.V.toD.V.toDs Ev.V.pure.pures Ev.V.pure Ev.D.flat.flats Ev.D.flat Ev.mkAgg Ev.allD Ev.aggParts Ev.setParts Ev.setElems Ev.getPath Ev.setPath Ev.subL Ev.eqD Ev.eqD.eqDs Ev.and2 Ev.strCut Ev.evalT Ev.constT Ev.evArgs Ev.mask Ev.maskOf Ev.tableOf Ev.compT Ev.resV Ev.retV Ev.mapO Ev.hT_nila Ev.eO_nila Ev.pL_nila Ev.evLen_gl Ev.r_nila Ev.frzO_n Ev.frzO_e Ev.frzO_r Ev.frzO_0 Ev.mb_z Ev.mb_0 Ev.mb_s Ev.frzL_t Ev.frzL_f Ev.frzL_0 Ev.frzT_nils Ev.frzT_rs Ev.frzT_p Ev.frzK_i Ev.keyIn_i Ev.rI_nil Ev.rI_cons Ev.rI_row Ev.rI_app Ev.r_d Ev.r_nils Ev.r_agg Ev.r_rs Ev.r_gl Ev.vw_row Ev.vw_app Ev.appO_s Ev.frzT_gl Ev.allD_gl Ev.killAt_i Ev.tkOne_i Ev.hT_agg Ev.hT_vagg Ev.hT_int Ev.hT_bool Ev.hT_str Ev.hT_sl Ev.hT_ptr Ev.hT_np Ev.hT_p Ev.hT_rs Ev.hT_mp Ev.hT_nils Ev.hT_fn Ev.hT_jk Ev.hT_gl Ev.eO_sl Ev.eO_nils Ev.eO_rs Ev.eT_sl Ev.eT_rs Ev.pL_str Ev.pL_sl Ev.pL_rs Ev.pL_nils Ev.pL_min Ev.pL_max Ev.len_glB Ev.noTup_gl Ev.rowV_len Ev.rowV_nil Ev.rowV_cons Ev.rowV_append Ev.rowV_set Ev.rowV_replicate Ev.nth_row Ev.row_take Ev.row_drop Ev.toDs_row Ev.fin_row Ev.map_row Ev.map_take_ Ev.map_drop_ Ev.Bk_i Ev.GlB_0 Ev.GlB_mk Ev.gl_nil Ev.gl_cons Ev.gl_snoc Ev.gl_setN Ev.appendTo_gl Ev.consV_gl Ev.elems_gl Ev.fin_gl Ev.view_gl Ev.argv_gl Ev.topR_gl Ev.sp_z Ev.sp_0 Ev.sp_s Ev.km_z Ev.km_0 Ev.km_s Ev.beq_toList Ev.nc0 Ev.bq_t Ev.bq_f Ev.bodyN Ev.le_maxRow Int.cast_ofNat_Int IntWalk.i64_in IntWalk.u64_in IntWalk.u8_in beq_self_eq_true Bool.true_beq Bool.false_beq Bool.and_true Bool.true_and Bool.false_and Bool.and_false Bool.and_self Bool.not_true Bool.not_false Bool.not_eq_true cond_true cond_false if_true if_false and_true true_and and_self decide_true decide_false Bool.or_true Bool.true_or Bool.or_false Bool.false_or List.isEmpty List.isEmpty_nil List.size_toArray List.map List.length_map List.length_cons List.length_nil Option.map Option.bind Option.getD Option.isSome List.replicate Bool.false_eq_true implies_true false_implies forall_const Array.toList Array.isEmpty List.append List.nil_append List.cons_append List.drop_zero List.take_length List.take_succ_cons List.take_zero List.take_nil List.getElem?_map List.getElem?_cons_zero List.getElem?_cons_succ List.getElem?_nil List.append_nil eq_self Int.toNat_natCast List.length_append Nat.zero_add Nat.add_zero List.length_replicate Nat.sub_zero Option.map_some Option.map_none Int.le_refl Nat.le_refl Int.natCast_nonneg List.map_append
attribute [local go_sem_proc] Nat.reduceAdd Nat.reduceSub Nat.reduceMul Nat.reduceEqDiff Nat.reduceBEq Nat.reduceLT Nat.reduceLeDiff Nat.reducePow Int.reduceToNat Int.reduceLT Int.reduceLE Int.reduceGT Int.reduceGE Int.reduceEq Int.reduceNeg Int.reduceAdd Int.reduceSub Int.reduceMul reduceCtorEq
attribute [local go_sem_proc ↓] reduceIte
noncomputable def G_spylaw3_cleans_1 (L : Nat) : Specs := []
noncomputable def T_spylaw3_cleans_1 : Table := tableOf [(17, en17)]
theorem Go_spylaw3_cleans_1 (L : Nat) (hL : L ≤ 4611686018427387904) : ∀ g s, Ev.look (G_spylaw3_cleans_1 L) g = some s → SpecOk Try.prog g s := specs_nil
theorem To_spylaw3_cleans_1 (L : Nat) : TableOk Try.prog ((G_spylaw3_cleans_1 L).map (·.1)) T_spylaw3_cleans_1 := (table_cons Try.func17 (by kernel_rfl) (by kernel_rfl) table_nil)
attribute [local go_sem] Ty.tk3 Ty.ik3 Ty.ek3 Ty.zv3 Ty.by3 Ty.so3 Ty.tk4 Ty.ub4 Ty.ek4 Ty.zv4 Ty.by4 Ty.so4 Ty.tk40 Ty.zv40 Ty.by40 Ty.so40 Ty.tk42 Ty.ct42 Ty.zv42 Ty.by42 Ty.so42 Ty.tk45 Ty.ik45 Ty.ek45 Ty.zv45 Ty.by45 Ty.so45 Ty.tk47 Ty.ct47 Ty.ek47 Ty.zv47 Ty.by47 Ty.so47 Ty.k40_e Ty.k42_e Ty.k47_e E.mk17_1000000 loopN loops Try.f17
theorem e_spylaw3_cleans_1 (L : Nat) (hL : L ≤ 4611686018427387904) (a0 : Int) (a1 : Int) (res : Int × Int × (List (Int × Int × Bool × Unit))) (h : p_spylaw3_cleans_1 L a0 a1 = some res) : evTop Try.prog (G_spylaw3_cleans_1 L) T_spylaw3_cleans_1 L 1 17 [.int .i64 a0, .int .i64 a1] = some [.agg 42 [.int .i64 res.1, .int .i64 res.2.1, .sl 47 (res.2.2.map k47.e)]] := by
  revert h
  unfold p_spylaw3_cleans_1 evTop
  simp only [List.map]
  rw [evF_s (fn := Try.f17) (msk := en17.ms) (hT := by rfl) (hb := by rfl)]
  rintro ⟨⟩
  simp only [go_sem, *]
noncomputable def s_spylaw3_cleans_1 (L : Nat) : Ev.Spec := specP (cCons (cI .i64) (cCons (cI .i64) cNil)) (fun x => p_spylaw3_cleans_1 L x.1 x.2.1) (fun r => [.agg 42 [.int .i64 r.1, .int .i64 r.2.1, .sl 47 (r.2.2.map k47.e)]])
theorem s_spylaw3_cleans_1_run (L : Nat) (a0 : Int) (a1 : Int) : (s_spylaw3_cleans_1 L).run [.int .i64 a0, .int .i64 a1] = (p_spylaw3_cleans_1 L a0 a1).map fun r => [.agg 42 [.int .i64 r.1, .int .i64 r.2.1, .sl 47 (r.2.2.map k47.e)]] := specP_run (cCons (cI .i64) (cCons (cI .i64) cNil)) (fun x => p_spylaw3_cleans_1 L x.1 x.2.1) (fun r => [.agg 42 [.int .i64 r.1, .int .i64 r.2.1, .sl 47 (r.2.2.map k47.e)]]) (a0, a1, ())
theorem ok_spylaw3_cleans_1 (L : Nat) (hL : L ≤ 4611686018427387904) : SpecOk Try.prog 17 (s_spylaw3_cleans_1 L) := specP_ok mixed (Go_spylaw3_cleans_1 L hL) (To_spylaw3_cleans_1 L) fun x r h => ⟨L, 1, e_spylaw3_cleans_1 L hL x.1 x.2.1 r h⟩
def sk_spylaw3_cleans_1 : Ev.Spec := specK (c := (cCons (cI .i64) (cCons (cI .i64) cNil))) (dCons (dI .i64) (dCons (dI .i64) dNil)) (fun x => p_spylaw3_cleans_1 1000 x.1 x.2.1) (fun r => [.agg 42 [.int .i64 r.1, .int .i64 r.2.1, .sl 47 (r.2.2.map k47.e)]])
theorem okk_spylaw3_cleans_1 : SpecOk Try.prog 17 sk_spylaw3_cleans_1 := specK_ok (dCons (dI .i64) (dCons (dI .i64) dNil)) mixed (Go_spylaw3_cleans_1 1000 (by decide)) (To_spylaw3_cleans_1 1000) fun x r h => ⟨1000, 1, e_spylaw3_cleans_1 1000 (by decide) x.1 x.2.1 r h⟩
end Go.Proofs.Ytnopgienncmcmaa.P
end
section
set_option linter.unusedVariables false
set_option linter.unusedSimpArgs false
set_option maxRecDepth 100000
namespace Go.Proofs.Ytnopgienncmcmaa.P
open Go.Ev Go.IntKind Go.Proofs.Ytnopgienncmcmaa Go.Proofs.Ytnopgienncmcmaa.Ty Go.Proofs.Ytnopgienncmcmaa.E
def p_spylaw3_cleans (L : Nat) : Option Bool := some true
attribute [local go_sem] Ev.putR_s Ev.putR_0 Ev.thenO_s Ev.thenO_0 Ev.seqR_n Ev.seqR_e Ev.seqR_r Ev.seqR_0 Ev.blkR_e Ev.blkR_n Ev.blkR_r Ev.blkR_0 Ev.normR_s Ev.normR_0 Ev.outR_r Ev.outR_n Ev.outR_0 Ev.retS_s Ev.retS_0 Ev.pureO_s Ev.pureO_0 Ev.topR_0 Ev.topR_t Ev.topR_t0 Ev.oneL_0 Ev.oneL_s Ev.topR_d Ev.topR_nils Ev.topR_agg Ev.topR_rs Ev.evOp_move Ev.evOp_assign Ev.evOp_pick Ev.evOp_alloc Ev.evOp_box Ev.evOp_build Ev.evOp_buildSlice Ev.evOp_load Ev.evOp_store Ev.evOp_makeMap Ev.evOp_lookup Ev.evOp_mapUpdate Ev.evOp_insert Ev.evOp_nilCheck Ev.evOp_binOp Ev.evOp_unOp Ev.evOp_convert Ev.evOp_makeFunc Ev.evOp_makeSlice Ev.evOp_slice Ev.evOp_fieldAddr Ev.evOp_field Ev.evOp_indexAddr Ev.evOp_index Ev.evOp_extract Ev.evOp_call Ev.evOp_append Ev.evOp_clear Ev.evOp_len Ev.evLen_d Ev.evLen_rs Ev.evLen_nils Ev.evLen_nila Ev.evLen_mp Ev.evOp_min Ev.evOp_max Ev.condR_b Ev.condR_t Ev.evOps_nil Ev.evOps_plain Ev.evOps_guard Ev.runG_eq Ev.skipG_eq Ev.condL_tt Ev.condL_ff Ev.condL_tf Ev.condL_ft Ev.condL_u Ev.condC_t Ev.condC_f Ev.evC_skip Ev.evC_ret Ev.evC_exit Ev.evC_label Ev.evC_region Ev.evC_draw Ev.evC_seq Ev.evC_cond Ev.evC_block Ev.evC_loop Ev.fin_d Ev.fin_nila Ev.fin_nils Ev.fin_agg_ Ev.fin_rs Ev.finS_s Ev.mapO_fin Ev.upd_upd Ev.argv_d Ev.argv_nila Ev.argv_nils Ev.argv_agg Ev.argv_rs Ev.argv_p Ev.fk_low Ev.appendTo_nils Ev.appendTo_nila Ev.appendTo_rs Ev.consV_d Ev.consV_agg Ev.consV_p Ev.consV_rs Ev.consV_nila Ev.consV_nils Ev.consV_fn Ev.consV_und Ev.consV_jk Ev.consV_grown Ev.topR_grown Ev.len_grown Ev.consV_mp Ev.sameK_i Ev.sameK_s Ev.mget_0 Ev.mget_hit Ev.mget_miss Ev.mput_0 Ev.mput_hit Ev.mput_miss Ev.apartAll Ev.apartL Ev.apartV Ev.freeAll Ev.sel Ev.keyOfV Ev.evLookup Ev.evPut Ev.hintOk Ev.keyOk Ev.consP Ev.lookV Ev.guardV Ev.dstAt Ev.evPure Ev.evStore Ev.evBin Ev.evBinO Ev.evNil Ev.isNilC Ev.evUn Ev.evConv Ev.evSlice Ev.optI Ev.foldI Ev.capsOk Ev.noTup Ev.nth Ev.setN Ev.killAt Ev.pad Ev.V.get Ev.V.put Ev.putD Ev.newBlk Ev.upd Ev.keq Ev.empty Ev.evCall Ev.V.args Ev.argP Ev.callOf Ev.evNilP Ev.isNilP Ev.look Ev.V.view.views Ev.V.view Ev.V.toD Ev.V.toD.V.toDs Ev.V.pure.pures Ev.V.pure Ev.D.flat.flats Ev.D.flat Ev.mkAgg Ev.allD Ev.aggParts Ev.setParts Ev.setElems Ev.getPath Ev.setPath Ev.subL Ev.eqD Ev.eqD.eqDs Ev.and2 Ev.strCut Ev.evalT Ev.constT Ev.evArgs Ev.mask Ev.maskOf Ev.tableOf Ev.compT Ev.resV Ev.retV Ev.mapO Ev.hT_nila Ev.eO_nila Ev.pL_nila Ev.evLen_gl Ev.r_nila Ev.frzO_n Ev.frzO_e Ev.frzO_r Ev.frzO_0 Ev.mb_z Ev.mb_0 Ev.mb_s Ev.frzL_t Ev.frzL_f Ev.frzL_0 Ev.frzT_nils Ev.frzT_rs Ev.frzT_p Ev.frzK_i Ev.keyIn_i Ev.rI_nil Ev.rI_cons Ev.rI_row Ev.rI_app Ev.r_d Ev.r_nils Ev.r_agg Ev.r_rs Ev.r_gl Ev.vw_row Ev.vw_app Ev.appO_s Ev.frzT_gl Ev.allD_gl Ev.killAt_i Ev.tkOne_i Ev.hT_agg Ev.hT_vagg Ev.hT_int Ev.hT_bool Ev.hT_str Ev.hT_sl Ev.hT_ptr Ev.hT_np Ev.hT_p Ev.hT_rs Ev.hT_mp Ev.hT_nils Ev.hT_fn Ev.hT_jk Ev.hT_gl Ev.eO_sl Ev.eO_nils Ev.eO_rs Ev.eT_sl Ev.eT_rs Ev.pL_str Ev.pL_sl Ev.pL_rs Ev.pL_nils Ev.pL_min Ev.pL_max Ev.len_glB Ev.noTup_gl Ev.rowV_len Ev.rowV_nil Ev.rowV_cons Ev.rowV_append Ev.rowV_set Ev.rowV_replicate Ev.nth_row Ev.row_take Ev.row_drop Ev.toDs_row Ev.fin_row Ev.map_row Ev.map_take_ Ev.map_drop_ Ev.Bk_i Ev.GlB_0 Ev.GlB_mk Ev.gl_nil Ev.gl_cons Ev.gl_snoc Ev.gl_setN Ev.appendTo_gl Ev.consV_gl Ev.elems_gl Ev.fin_gl Ev.view_gl Ev.argv_gl Ev.topR_gl Ev.sp_z Ev.sp_0 Ev.sp_s Ev.km_z Ev.km_0 Ev.km_s Ev.beq_toList Ev.nc0 Ev.bq_t Ev.bq_f Ev.bodyN Ev.le_maxRow Int.cast_ofNat_Int IntWalk.i64_in IntWalk.u64_in IntWalk.u8_in beq_self_eq_true Bool.true_beq Bool.false_beq Bool.and_true Bool.true_and Bool.false_and Bool.and_false Bool.and_self Bool.not_true Bool.not_false Bool.not_eq_true cond_true cond_false if_true if_false and_true true_and and_self decide_true decide_false Bool.or_true Bool.true_or Bool.or_false Bool.false_or List.isEmpty List.isEmpty_nil List.size_toArray List.map List.length_map List.length_cons List.length_nil Option.map Option.bind Option.getD Option.isSome List.replicate Bool.false_eq_true implies_true false_implies forall_const Array.toList Array.isEmpty List.append List.nil_append List.cons_append List.drop_zero List.take_length List.take_succ_cons List.take_zero List.take_nil List.getElem?_map List.getElem?_cons_zero List.getElem?_cons_succ List.getElem?_nil List.append_nil eq_self Int.toNat_natCast List.length_append Nat.zero_add Nat.add_zero List.length_replicate Nat.sub_zero Option.map_some Option.map_none Int.le_refl Nat.le_refl Int.natCast_nonneg List.map_append
attribute [local go_sem_proc] Nat.reduceAdd Nat.reduceSub Nat.reduceMul Nat.reduceEqDiff Nat.reduceBEq Nat.reduceLT Nat.reduceLeDiff Nat.reducePow Int.reduceToNat Int.reduceLT Int.reduceLE Int.reduceGT Int.reduceGE Int.reduceEq Int.reduceNeg Int.reduceAdd Int.reduceSub Int.reduceMul reduceCtorEq
attribute [local go_sem_proc ↓] reduceIte
def Gk_spylaw3_cleans : Specs := [(17, sk_spylaw3_cleans_1), (27, sk_bound_Fuse_Quanta)]
noncomputable def T_spylaw3_cleans : Table := tableOf [(7, en7), (14, en14), (26, en26), (41, en41), (49, en49)]
theorem Gko_spylaw3_cleans : ∀ g s, Ev.look Gk_spylaw3_cleans g = some s → SpecOk Try.prog g s := (specs_cons okk_spylaw3_cleans_1 (specs_cons okk_bound_Fuse_Quanta specs_nil))
theorem To_spylaw3_cleans : TableOk Try.prog (Gk_spylaw3_cleans.map (·.1)) T_spylaw3_cleans := (table_cons Try.func7 (by kernel_rfl) (by kernel_rfl) (table_cons Try.func14 (by kernel_rfl) (by kernel_rfl) (table_cons Try.func26 (by kernel_rfl) (by kernel_rfl) (table_cons Try.func41 (by kernel_rfl) (by kernel_rfl) (table_cons Try.func49 (by kernel_rfl) (by kernel_rfl) table_nil)))))
theorem ek_spylaw3_cleans : evTop Try.prog Gk_spylaw3_cleans T_spylaw3_cleans 1000 40 7 [] = some [.bool true] := by kernel_rfl
def s_spylaw3_cleans (L : Nat) : Ev.Spec := ⟨fun xs => match xs with | [] => some [.bool true] | _ => none⟩
theorem s_spylaw3_cleans_run (L : Nat) : (s_spylaw3_cleans L).run [] = (p_spylaw3_cleans L).map fun r => [.bool r] := rfl
theorem ok_spylaw3_cleans (L : Nat) (hL : L ≤ 4611686018427387904) : SpecOk Try.prog 7 (s_spylaw3_cleans L) := spec_of_ev mixed Gko_spylaw3_cleans To_spylaw3_cleans fun xs rs hr => by
  simp only [s_spylaw3_cleans] at hr
  split at hr
  · cases hr; exact ⟨1000, 40, ek_spylaw3_cleans⟩
  · cases hr
end Go.Proofs.Ytnopgienncmcmaa.P
end
section
set_option linter.unusedVariables false
set_option linter.unusedSimpArgs false
set_option maxRecDepth 100000
namespace Go.Proofs.Ytnopgienncmcmaa.E
open Go.Ev
noncomputable def en8 : Entry := ⟨Try.f8, [(1000000, mb 8 0 [4])]⟩
theorem mk8_1000000 (vs : List V) : mask (maskOf en8.ms 1000000) vs = km 8 0 [4] vs := mask_mb _ _ _ _
end Go.Proofs.Ytnopgienncmcmaa.E
end
section
set_option linter.unusedVariables false
set_option linter.unusedSimpArgs false
set_option maxRecDepth 100000
namespace Go.Proofs.Ytnopgienncmcmaa.E
open Go.Ev
noncomputable def en18 : Entry := ⟨Try.f18, [(0, mb 32 0 [1, 2, 15, 16, 17]), (1000001, mb 32 0 []), (1000002, mb 32 0 [1, 2, 15, 16, 17]), (1000000, mb 32 0 [6])]⟩
theorem mk18_0 (vs : List V) : mask (maskOf en18.ms 0) vs = km 32 0 [1, 2, 15, 16, 17] vs := mask_mb _ _ _ _
theorem mk18_1000001 (vs : List V) : mask (maskOf en18.ms 1000001) vs = km 32 0 [] vs := mask_mb _ _ _ _
theorem mk18_1000002 (vs : List V) : mask (maskOf en18.ms 1000002) vs = km 32 0 [1, 2, 15, 16, 17] vs := mask_mb _ _ _ _
theorem mk18_1000000 (vs : List V) : mask (maskOf en18.ms 1000000) vs = km 32 0 [6] vs := mask_mb _ _ _ _
theorem fz18_0 (lv : Nat) (f : Run) : frzF en18.ms lv 0 f = f := nr rfl
theorem fi18_0 (lv : Nat) (env : List V) (st : Store) (q : Store → Out) : frzI en18.ms lv 0 env st q = q st := nr rfl
noncomputable def lb18_0 : Code := loopN Try.f18 0
end Go.Proofs.Ytnopgienncmcmaa.E
end
section
set_option linter.unusedVariables false
set_option linter.unusedSimpArgs false
set_option maxRecDepth 100000
namespace Go.Proofs.Ytnopgienncmcmaa.E
open Go.Ev
noncomputable def en19 : Entry := ⟨Try.f19, [(0, mb 26 0 [0, 1, 12, 13]), (1000001, mb 26 0 []), (1000002, mb 26 0 [0, 1, 12, 13]), (1000000, mb 26 0 [4])]⟩
theorem dw19_6 (lv : Nat) (env : List V) (st : Store) (o : Option (List V × Store)) : drawR en19.ms 6 lv env st o = if lv < 1000000000000000000000000000000 then (o) else none := nr rfl
theorem kl19_6 (lv : Nat) (st : Store) : killR en19.ms 6 lv st = st := nr rfl
theorem nc19_6 : ncOf en19.ms 6 = false := nr rfl
theorem mk19_0 (vs : List V) : mask (maskOf en19.ms 0) vs = km 26 0 [0, 1, 12, 13] vs := mask_mb _ _ _ _
theorem mk19_1000001 (vs : List V) : mask (maskOf en19.ms 1000001) vs = km 26 0 [] vs := mask_mb _ _ _ _
theorem mk19_1000002 (vs : List V) : mask (maskOf en19.ms 1000002) vs = km 26 0 [0, 1, 12, 13] vs := mask_mb _ _ _ _
theorem mk19_1000000 (vs : List V) : mask (maskOf en19.ms 1000000) vs = km 26 0 [4] vs := mask_mb _ _ _ _
theorem fz19_0 (lv : Nat) (f : Run) : frzF en19.ms lv 0 f = f := nr rfl
theorem fi19_0 (lv : Nat) (env : List V) (st : Store) (q : Store → Out) : frzI en19.ms lv 0 env st q = q st := nr rfl
noncomputable def lb19_0 : Code := loopN Try.f19 0
end Go.Proofs.Ytnopgienncmcmaa.E
end
section
set_option linter.unusedVariables false
set_option linter.unusedSimpArgs false
set_option maxRecDepth 100000
namespace Go.Proofs.Ytnopgienncmcmaa.P
open Go.Ev Go.IntKind Go.Proofs.Ytnopgienncmcmaa Go.Proofs.Ytnopgienncmcmaa.Ty Go.Proofs.Ytnopgienncmcmaa.E
def p_slices_Equal_int_l0 (L : Nat) (a0 : List Int) (a1 : List Int) : Nat → Int → Option (Sum Unit Unit)
  | 0, s3 => some (.inl ())
  | tl + 1, s3 => bnd (idx a0 s3) fun x6 => bnd (idx a1 s3) fun x7 => cb (decide (x6 = x7)) (p_slices_Equal_int_l0 L a0 a1 tl (s3 + 1)) (some (.inr ()))
def p_slices_Equal_int (L : Nat) (a0 : List Int) (a1 : List Int) : Option Bool := cb (decide ((a0.length : Int) = (a1.length : Int))) (rq ((a0.length : Int).toNat < L) <| rq ((a0.length : Int) < 4611686018427387904) <| bnd (p_slices_Equal_int_l0 L a0 a1 (a0.length : Int).toNat 0) fun o8 => match o8 with | (.inl o8_0) => (some true) | (.inr o8_1) => (some false)) (some false)
attribute [local go_sem] Ev.putR_s Ev.putR_0 Ev.thenO_s Ev.thenO_0 Ev.seqR_n Ev.seqR_e Ev.seqR_r Ev.seqR_0 Ev.blkR_e Ev.blkR_n Ev.blkR_r Ev.blkR_0 Ev.normR_s Ev.normR_0 Ev.outR_r Ev.outR_n Ev.outR_0 Ev.retS_s Ev.retS_0 Ev.pureO_s Ev.pureO_0 Ev.topR_0 Ev.topR_t Ev.topR_t0 Ev.oneL_0 Ev.oneL_s Ev.topR_d Ev.topR_nils Ev.topR_agg Ev.topR_rs Ev.evOp_move Ev.evOp_assign Ev.evOp_pick Ev.evOp_alloc Ev.evOp_box Ev.evOp_build Ev.evOp_buildSlice Ev.evOp_load Ev.evOp_store Ev.evOp_makeMap Ev.evOp_lookup Ev.evOp_mapUpdate Ev.evOp_insert Ev.evOp_nilCheck Ev.evOp_binOp Ev.evOp_unOp Ev.evOp_convert Ev.evOp_makeFunc Ev.evOp_makeSlice Ev.evOp_slice Ev.evOp_fieldAddr Ev.evOp_field Ev.evOp_indexAddr Ev.evOp_index Ev.evOp_extract Ev.evOp_call Ev.evOp_append Ev.evOp_clear Ev.evOp_len Ev.evLen_d Ev.evLen_rs Ev.evLen_nils Ev.evLen_nila Ev.evLen_mp Ev.evOp_min Ev.evOp_max Ev.condR_b Ev.condR_t Ev.evOps_nil Ev.evOps_plain Ev.evOps_guard Ev.runG_eq Ev.skipG_eq Ev.condL_tt Ev.condL_ff Ev.condL_tf Ev.condL_ft Ev.condL_u Ev.condC_t Ev.condC_f Ev.evC_skip Ev.evC_ret Ev.evC_exit Ev.evC_label Ev.evC_region Ev.evC_draw Ev.evC_seq Ev.evC_cond Ev.evC_block Ev.evC_loop Ev.fin_d Ev.fin_nila Ev.fin_nils Ev.fin_agg_ Ev.fin_rs Ev.finS_s Ev.mapO_fin Ev.upd_upd Ev.argv_d Ev.argv_nila Ev.argv_nils Ev.argv_agg Ev.argv_rs Ev.argv_p Ev.fk_low Ev.appendTo_nils Ev.appendTo_nila Ev.appendTo_rs Ev.consV_d Ev.consV_agg Ev.consV_p Ev.consV_rs Ev.consV_nila Ev.consV_nils Ev.consV_fn Ev.consV_und Ev.consV_jk Ev.consV_grown Ev.topR_grown Ev.len_grown Ev.consV_mp Ev.sameK_i Ev.sameK_s Ev.mget_0 Ev.mget_hit Ev.mget_miss Ev.mput_0 Ev.mput_hit Ev.mput_miss Ev.apartAll Ev.apartL Ev.apartV Ev.freeAll Ev.sel Ev.keyOfV Ev.evLookup Ev.evPut Ev.hintOk Ev.keyOk Ev.consP Ev.lookV Ev.guardV Ev.dstAt Ev.evPure Ev.evStore Ev.evBin Ev.evBinO Ev.evNil Ev.isNilC Ev.evUn Ev.evConv Ev.evSlice Ev.optI Ev.foldI Ev.capsOk Ev.noTup Ev.nth Ev.setN Ev.killAt Ev.pad Ev.V.get Ev.V.put Ev.putD Ev.newBlk Ev.upd Ev.keq Ev.empty Ev.evCall Ev.V.args Ev.argP Ev.callOf Ev.evNilP Ev.isNilP Ev.look Ev.V.view.views Ev.V.view Ev.V.toD Ev.V.toD.V.toDs Ev.V.pure.pures Ev.V.pure Ev.D.flat.flats Ev.D.flat Ev.mkAgg Ev.allD Ev.aggParts Ev.setParts Ev.setElems Ev.getPath Ev.setPath Ev.subL Ev.eqD Ev.eqD.eqDs Ev.and2 Ev.strCut Ev.evalT Ev.constT Ev.evArgs Ev.mask Ev.maskOf Ev.tableOf Ev.compT Ev.resV Ev.retV Ev.mapO Ev.hT_nila Ev.eO_nila Ev.pL_nila Ev.evLen_gl Ev.r_nila Ev.frzO_n Ev.frzO_e Ev.frzO_r Ev.frzO_0 Ev.mb_z Ev.mb_0 Ev.mb_s Ev.frzL_t Ev.frzL_f Ev.frzL_0 Ev.frzT_nils Ev.frzT_rs Ev.frzT_p Ev.frzK_i Ev.keyIn_i Ev.rI_nil Ev.rI_cons Ev.rI_row Ev.rI_app Ev.r_d Ev.r_nils Ev.r_agg Ev.r_rs Ev.r_gl Ev.vw_row Ev.vw_app Ev.appO_s Ev.frzT_gl Ev.allD_gl Ev.killAt_i Ev.tkOne_i Ev.hT_agg Ev.hT_vagg Ev.hT_int Ev.hT_bool Ev.hT_str Ev.hT_sl Ev.hT_ptr Ev.hT_np Ev.hT_p Ev.hT_rs Ev.hT_mp Ev.hT_nils Ev.hT_fn Ev.hT_jk Ev.hT_gl Ev.eO_sl Ev.eO_nils Ev.eO_rs Ev.eT_sl Ev.eT_rs Ev.pL_str Ev.pL_sl Ev.pL_rs Ev.pL_nils Ev.pL_min Ev.pL_max Ev.len_glB Ev.noTup_gl Ev.rowV_len Ev.rowV_nil Ev.rowV_cons Ev.rowV_append Ev.rowV_set Ev.rowV_replicate Ev.nth_row Ev.row_take Ev.row_drop Ev.toDs_row Ev.fin_row Ev.map_row Ev.map_take_ Ev.map_drop_ Ev.Bk_i Ev.GlB_0 Ev.GlB_mk Ev.gl_nil Ev.gl_cons Ev.gl_snoc Ev.gl_setN Ev.appendTo_gl Ev.consV_gl Ev.elems_gl Ev.fin_gl Ev.view_gl Ev.argv_gl Ev.topR_gl Ev.sp_z Ev.sp_0 Ev.sp_s Ev.km_z Ev.km_0 Ev.km_s Ev.beq_toList Ev.nc0 Ev.bq_t Ev.bq_f Ev.bodyN Ev.le_maxRow Int.cast_ofNat_Int IntWalk.i64_in IntWalk.u64_in IntWalk.u8_in beq_self_eq_true Bool.true_beq Bool.false_beq Bool.and_true Bool.true_and Bool.false_and Bool.and_false Bool.and_self Bool.not_true Bool.not_false Bool.not_eq_true cond_true cond_false if_true if_false and_true true_and and_self decide_true decide_false Bool.or_true Bool.true_or Bool.or_false Bool.false_or List.isEmpty List.isEmpty_nil List.size_toArray List.map List.length_map List.length_cons List.length_nil Option.map Option.bind Option.getD Option.isSome List.replicate Bool.false_eq_true implies_true false_implies forall_const Array.toList Array.isEmpty List.append List.nil_append List.cons_append List.drop_zero List.take_length List.take_succ_cons List.take_zero List.take_nil List.getElem?_map List.getElem?_cons_zero List.getElem?_cons_succ List.getElem?_nil List.append_nil eq_self Int.toNat_natCast List.length_append Nat.zero_add Nat.add_zero List.length_replicate Nat.sub_zero Option.map_some Option.map_none Int.le_refl Nat.le_refl Int.natCast_nonneg List.map_append
attribute [local go_sem_proc] Nat.reduceAdd Nat.reduceSub Nat.reduceMul Nat.reduceEqDiff Nat.reduceBEq Nat.reduceLT Nat.reduceLeDiff Nat.reducePow Int.reduceToNat Int.reduceLT Int.reduceLE Int.reduceGT Int.reduceGE Int.reduceEq Int.reduceNeg Int.reduceAdd Int.reduceSub Int.reduceMul reduceCtorEq
attribute [local go_sem_proc ↓] reduceIte
noncomputable def G_slices_Equal_int (L : Nat) : Specs := []
noncomputable def T_slices_Equal_int : Table := tableOf [(19, en19)]
theorem Go_slices_Equal_int (L : Nat) (hL : L ≤ 4611686018427387904) : ∀ g s, Ev.look (G_slices_Equal_int L) g = some s → SpecOk Try.prog g s := specs_nil
theorem To_slices_Equal_int (L : Nat) : TableOk Try.prog ((G_slices_Equal_int L).map (·.1)) T_slices_Equal_int := (table_cons Try.func19 (by kernel_rfl) (by kernel_rfl) table_nil)
attribute [local go_sem] Ty.tk3 Ty.ik3 Ty.ek3 Ty.zv3 Ty.by3 Ty.so3 Ty.tk4 Ty.ub4 Ty.ek4 Ty.zv4 Ty.by4 Ty.so4 Ty.tk50 Ty.zv50 Ty.by50 Ty.so50 Ty.k50_e E.dw19_6 E.kl19_6 E.nc19_6 E.mk19_0 E.mk19_1000001 E.mk19_1000002 E.mk19_1000000 E.fz19_0 E.fi19_0 E.lb19_0 loopN loops Try.f19
def Q0_p_slices_Equal_int_l0 (a0 : List Int) (a1 : List Int) (a2 : Int) (u : Unit) (z : Out) : Prop := ∃ env st, z = some (.exit 0, env, st) ∧ env = sp 26 0 []
def Q1_p_slices_Equal_int_l0 (a0 : List Int) (a1 : List Int) (a2 : Int) (u : Unit) (z : Out) : Prop := ∃ env st, z = some (.ret, env, st) ∧ env = sp 26 0 [(4, .d (.bool false))]
def Q_p_slices_Equal_int_l0 (a0 : List Int) (a1 : List Int) (a2 : Int) (o : Sum Unit Unit) (z : Out) : Prop := match o with | (.inl u) => Q0_p_slices_Equal_int_l0 a0 a1 a2 u z | (.inr u) => Q1_p_slices_Equal_int_l0 a0 a1 a2 u z
theorem l_p_slices_Equal_int_l0 (L : Nat) (hL : L ≤ 4611686018427387904) (a0 : List Int) (a1 : List Int) (a2 : Int) : ∀ (tl n : Nat) (s3 : Int) (env : List V) (st : Store) (o : Sum Unit Unit), tl < n → Cnt a2 s3 tl → mask (maskOf en19.ms 0) env = sp 26 0 [(0, .d (.sl 3 (a0.map (D.int .i64)))), (1, .d (.sl 3 (a1.map (D.int .i64)))), (12, .d (.int .i64 a2)), (13, .d (.int .i64 s3))] → p_slices_Equal_int_l0 L a0 a1 tl s3  = some o →
    Q_p_slices_Equal_int_l0 a0 a1 a2 o (iter (evC Try.prog (G_slices_Equal_int L) (evF Try.prog (G_slices_Equal_int L) T_slices_Equal_int L 0) L en19.ms 0 0 lb19_0) (maskOf en19.ms 0) n env st) := by
  intro tl
  induction tl with
  | zero =>
    intro n s3  env st o hn hR he  h
    obtain ⟨n, rfl⟩ : ∃ m, n = m + 1 := ⟨n - 1, by omega⟩
    have g0 := cnt_nil hR
    rw [iter, he]
    clear he
    generalize hK : iter _ _ n = K
    rw [p_slices_Equal_int_l0] at h
    revert h
    rintro ⟨⟩
    simp only [go_sem, *]
    refine (⟨_, _, rfl, ?_⟩ : Q0_p_slices_Equal_int_l0 _ _ _ _ _)
    all_goals simp only [go_sem, *]
  | succ tl ih =>
    intro n s3  env st o hn hR he  h
    obtain ⟨n, rfl⟩ : ∃ m, n = m + 1 := ⟨n - 1, by omega⟩
    replace ih : Hold _ := ih
    replace hR := cnt_s hR
    obtain ⟨g0, g1, g3, hR⟩ := hR
    rw [iter, he]
    clear he
    generalize hK : iter _ _ n = K
    rw [p_slices_Equal_int_l0] at h
    revert h
    refine idx_i fun x6 c1 c2 c3 => ?_
    refine idx_i fun x7 c4 c5 c6 => ?_
    refine cb_i (fun c7 => ?_) (fun c7 => ?_)
    · intro h
      simp only [go_sem, *]
      subst hK
      refine ih n (s3 + 1)  _ _ _ (by omega) hR ?_ h
      all_goals simp only [go_sem, *]
    · rintro ⟨⟩
      simp only [go_sem, *]
      refine (⟨_, _, rfl, ?_⟩ : Q1_p_slices_Equal_int_l0 _ _ _ _ _)
      all_goals simp only [go_sem, *]
theorem e_slices_Equal_int (L : Nat) (hL : L ≤ 4611686018427387904) (a0 : List Int) (a1 : List Int) (res : Bool) (h : p_slices_Equal_int L a0 a1 = some res) : evTop Try.prog (G_slices_Equal_int L) T_slices_Equal_int L 1 19 [.sl 3 (a0.map (D.int .i64)), .sl 3 (a1.map (D.int .i64))] = some [.bool res] := by
  revert h
  unfold p_slices_Equal_int evTop
  simp only [List.map]
  rw [evF_s (fn := Try.f19) (msk := en19.ms) (hT := by rfl) (hb := by rfl)]
  refine cb_i (fun c1 => ?_) (fun c1 => ?_)
  · refine rq_i fun c2 => ?_
    refine rq_i fun c3 => ?_
    refine bnd_i fun o8 ho4 => ?_
    intro h
    simp only [go_sem, *]
    generalize hz6 : iter _ _ _ _ _ = z5
    have hq7 : Q_p_slices_Equal_int_l0 a0 a1 (a0.length : Int) o8 z5 := by
      rw [← hz6]
      refine l_p_slices_Equal_int_l0 L hL a0 a1 (a0.length : Int) _ L 0  _ _ _ c2 (cnt_00 (by decide) c3) ?_ ho4
      all_goals simp only [go_sem, *]
    clear hz6 ho4
    rcases o8 with o8_0 | o8_1
    · obtain ⟨_, st9, rfl, rfl⟩ := hq7
      dsimp only at h
      revert h
      rintro ⟨⟩
      simp only [go_sem, *]
    · obtain ⟨_, st10, rfl, rfl⟩ := hq7
      dsimp only at h
      revert h
      rintro ⟨⟩
      simp only [go_sem, *]
  · rintro ⟨⟩
    simp only [go_sem, *]
noncomputable def s_slices_Equal_int (L : Nat) : Ev.Spec := specP (cCons k50 (cCons k50 cNil)) (fun x => p_slices_Equal_int L x.1 x.2.1) (fun r => [.bool r])
theorem s_slices_Equal_int_run (L : Nat) (a0 : List Int) (a1 : List Int) : (s_slices_Equal_int L).run [.sl 3 (a0.map (D.int .i64)), .sl 3 (a1.map (D.int .i64))] = (p_slices_Equal_int L a0 a1).map fun r => [.bool r] := specP_run (cCons k50 (cCons k50 cNil)) (fun x => p_slices_Equal_int L x.1 x.2.1) (fun r => [.bool r]) (a0, a1, ())
theorem ok_slices_Equal_int (L : Nat) (hL : L ≤ 4611686018427387904) : SpecOk Try.prog 19 (s_slices_Equal_int L) := specP_ok mixed (Go_slices_Equal_int L hL) (To_slices_Equal_int L) fun x r h => ⟨L, 1, e_slices_Equal_int L hL x.1 x.2.1 r h⟩
end Go.Proofs.Ytnopgienncmcmaa.P
end
section
set_option linter.unusedVariables false
set_option linter.unusedSimpArgs false
set_option maxRecDepth 100000
namespace Go.Proofs.Ytnopgienncmcmaa.P
open Go.Ev Go.IntKind Go.Proofs.Ytnopgienncmcmaa Go.Proofs.Ytnopgienncmcmaa.Ty Go.Proofs.Ytnopgienncmcmaa.E
def p_spyref3_SameLists_l0 (L : Nat) (a1 : List (List Int)) : List (List Int) → Int → Option (Sum Unit Unit)
  | [], s2 => some (.inl ())
  | x1 :: tl, s2 => bnd (idx a1 s2) fun x5 => bnd (p_slices_Equal_int L x1 x5) fun r6 => cb r6 (p_spyref3_SameLists_l0 L a1 tl (s2 + 1)) (some (.inr ()))
def p_spyref3_SameLists (L : Nat) (a0 : List (List Int)) (a1 : List (List Int)) : Option Bool := cb (decide ((a0.length : Int) = (a1.length : Int))) (rq (a0.length < L) <| bnd (p_spyref3_SameLists_l0 L a1 a0 0) fun o7 => match o7 with | (.inl o7_0) => (some true) | (.inr o7_1) => (some false)) (some false)
attribute [local go_sem] Ev.putR_s Ev.putR_0 Ev.thenO_s Ev.thenO_0 Ev.seqR_n Ev.seqR_e Ev.seqR_r Ev.seqR_0 Ev.blkR_e Ev.blkR_n Ev.blkR_r Ev.blkR_0 Ev.normR_s Ev.normR_0 Ev.outR_r Ev.outR_n Ev.outR_0 Ev.retS_s Ev.retS_0 Ev.pureO_s Ev.pureO_0 Ev.topR_0 Ev.topR_t Ev.topR_t0 Ev.oneL_0 Ev.oneL_s Ev.topR_d Ev.topR_nils Ev.topR_agg Ev.topR_rs Ev.evOp_move Ev.evOp_assign Ev.evOp_pick Ev.evOp_alloc Ev.evOp_box Ev.evOp_build Ev.evOp_buildSlice Ev.evOp_load Ev.evOp_store Ev.evOp_makeMap Ev.evOp_lookup Ev.evOp_mapUpdate Ev.evOp_insert Ev.evOp_nilCheck Ev.evOp_binOp Ev.evOp_unOp Ev.evOp_convert Ev.evOp_makeFunc Ev.evOp_makeSlice Ev.evOp_slice Ev.evOp_fieldAddr Ev.evOp_field Ev.evOp_indexAddr Ev.evOp_index Ev.evOp_extract Ev.evOp_call Ev.evOp_append Ev.evOp_clear Ev.evOp_len Ev.evLen_d Ev.evLen_rs Ev.evLen_nils Ev.evLen_nila Ev.evLen_mp Ev.evOp_min Ev.evOp_max Ev.condR_b Ev.condR_t Ev.evOps_nil Ev.evOps_plain Ev.evOps_guard Ev.runG_eq Ev.skipG_eq Ev.condL_tt Ev.condL_ff Ev.condL_tf Ev.condL_ft Ev.condL_u Ev.condC_t Ev.condC_f Ev.evC_skip Ev.evC_ret Ev.evC_exit Ev.evC_label Ev.evC_region Ev.evC_draw Ev.evC_seq Ev.evC_cond Ev.evC_block Ev.evC_loop Ev.fin_d Ev.fin_nila Ev.fin_nils Ev.fin_agg_ Ev.fin_rs Ev.finS_s Ev.mapO_fin Ev.upd_upd Ev.argv_d Ev.argv_nila Ev.argv_nils Ev.argv_agg Ev.argv_rs Ev.argv_p Ev.fk_low Ev.appendTo_nils Ev.appendTo_nila Ev.appendTo_rs Ev.consV_d Ev.consV_agg Ev.consV_p Ev.consV_rs Ev.consV_nila Ev.consV_nils Ev.consV_fn Ev.consV_und Ev.consV_jk Ev.consV_grown Ev.topR_grown Ev.len_grown Ev.consV_mp Ev.sameK_i Ev.sameK_s Ev.mget_0 Ev.mget_hit Ev.mget_miss Ev.mput_0 Ev.mput_hit Ev.mput_miss Ev.apartAll Ev.apartL Ev.apartV Ev.freeAll Ev.sel Ev.keyOfV Ev.evLookup Ev.evPut Ev.hintOk Ev.keyOk Ev.consP Ev.lookV Ev.guardV Ev.dstAt Ev.evPure Ev.evStore Ev.evBin Ev.evBinO Ev.evNil Ev.isNilC Ev.evUn Ev.evConv Ev.evSlice Ev.optI Ev.foldI Ev.capsOk Ev.noTup Ev.nth Ev.setN Ev.killAt Ev.pad Ev.V.get Ev.V.put Ev.putD Ev.newBlk Ev.upd Ev.keq Ev.empty Ev.evCall Ev.V.args Ev.argP Ev.callOf Ev.evNilP Ev.isNilP Ev.look Ev.V.view.views Ev.V.view Ev.V.toD Ev.V.toD.V.toDs Ev.V.pure.pures Ev.V.pure Ev.D.flat.flats Ev.D.flat Ev.mkAgg Ev.allD Ev.aggParts Ev.setParts Ev.setElems Ev.getPath Ev.setPath Ev.subL Ev.eqD Ev.eqD.eqDs Ev.and2 Ev.strCut Ev.evalT Ev.constT Ev.evArgs Ev.mask Ev.maskOf Ev.tableOf Ev.compT Ev.resV Ev.retV Ev.mapO Ev.hT_nila Ev.eO_nila Ev.pL_nila Ev.evLen_gl Ev.r_nila Ev.frzO_n Ev.frzO_e Ev.frzO_r Ev.frzO_0 Ev.mb_z Ev.mb_0 Ev.mb_s Ev.frzL_t Ev.frzL_f Ev.frzL_0 Ev.frzT_nils Ev.frzT_rs Ev.frzT_p Ev.frzK_i Ev.keyIn_i Ev.rI_nil Ev.rI_cons Ev.rI_row Ev.rI_app Ev.r_d Ev.r_nils Ev.r_agg Ev.r_rs Ev.r_gl Ev.vw_row Ev.vw_app Ev.appO_s Ev.frzT_gl Ev.allD_gl Ev.killAt_i Ev.tkOne_i Ev.hT_agg Ev.hT_vagg Ev.hT_int Ev.hT_bool Ev.hT_str Ev.hT_sl Ev.hT_ptr Ev.hT_np Ev.hT_p Ev.hT_rs Ev.hT_mp Ev.hT_nils Ev.hT_fn Ev.hT_jk Ev.hT_gl Ev.eO_sl Ev.eO_nils Ev.eO_rs Ev.eT_sl Ev.eT_rs Ev.pL_str Ev.pL_sl Ev.pL_rs Ev.pL_nils Ev.pL_min Ev.pL_max Ev.len_glB Ev.noTup_gl Ev.rowV_len Ev.rowV_nil Ev.rowV_cons Ev.rowV_append Ev.rowV_set Ev.rowV_replicate Ev.nth_row Ev.row_take Ev.row_drop Ev.toDs_row Ev.fin_row Ev.map_row Ev.map_take_ Ev.map_drop_ Ev.Bk_i Ev.GlB_0 Ev.GlB_mk Ev.gl_nil Ev.gl_cons Ev.gl_snoc Ev.gl_setN Ev.appendTo_gl Ev.consV_gl Ev.elems_gl Ev.fin_gl Ev.view_gl Ev.argv_gl Ev.topR_gl Ev.sp_z Ev.sp_0 Ev.sp_s Ev.km_z Ev.km_0 Ev.km_s Ev.beq_toList Ev.nc0 Ev.bq_t Ev.bq_f Ev.bodyN Ev.le_maxRow Int.cast_ofNat_Int IntWalk.i64_in IntWalk.u64_in IntWalk.u8_in beq_self_eq_true Bool.true_beq Bool.false_beq Bool.and_true Bool.true_and Bool.false_and Bool.and_false Bool.and_self Bool.not_true Bool.not_false Bool.not_eq_true cond_true cond_false if_true if_false and_true true_and and_self decide_true decide_false Bool.or_true Bool.true_or Bool.or_false Bool.false_or List.isEmpty List.isEmpty_nil List.size_toArray List.map List.length_map List.length_cons List.length_nil Option.map Option.bind Option.getD Option.isSome List.replicate Bool.false_eq_true implies_true false_implies forall_const Array.toList Array.isEmpty List.append List.nil_append List.cons_append List.drop_zero List.take_length List.take_succ_cons List.take_zero List.take_nil List.getElem?_map List.getElem?_cons_zero List.getElem?_cons_succ List.getElem?_nil List.append_nil eq_self Int.toNat_natCast List.length_append Nat.zero_add Nat.add_zero List.length_replicate Nat.sub_zero Option.map_some Option.map_none Int.le_refl Nat.le_refl Int.natCast_nonneg List.map_append
attribute [local go_sem_proc] Nat.reduceAdd Nat.reduceSub Nat.reduceMul Nat.reduceEqDiff Nat.reduceBEq Nat.reduceLT Nat.reduceLeDiff Nat.reducePow Int.reduceToNat Int.reduceLT Int.reduceLE Int.reduceGT Int.reduceGE Int.reduceEq Int.reduceNeg Int.reduceAdd Int.reduceSub Int.reduceMul reduceCtorEq
attribute [local go_sem_proc ↓] reduceIte
noncomputable def G_spyref3_SameLists (L : Nat) : Specs := [(19, s_slices_Equal_int L)]
noncomputable def T_spyref3_SameLists : Table := tableOf [(8, en8), (18, en18)]
theorem Go_spyref3_SameLists (L : Nat) (hL : L ≤ 4611686018427387904) : ∀ g s, Ev.look (G_spyref3_SameLists L) g = some s → SpecOk Try.prog g s := (specs_cons (ok_slices_Equal_int L hL) specs_nil)
theorem To_spyref3_SameLists (L : Nat) : TableOk Try.prog ((G_spyref3_SameLists L).map (·.1)) T_spyref3_SameLists := (table_cons Try.func8 (by kernel_rfl) (by kernel_rfl) (table_cons Try.func18 (by kernel_rfl) (by kernel_rfl) table_nil))
theorem lk_spyref3_SameLists_19 (L : Nat) : Ev.look (G_spyref3_SameLists L) 19 = some (s_slices_Equal_int L) := nr rfl
theorem lk_spyref3_SameLists_18 (L : Nat) : Ev.look (G_spyref3_SameLists L) 18 = none := nr rfl
theorem in_spyref3_SameLists_18 (L c lv : Nat) (xs : List V) (st : Store) : evF Try.prog (G_spyref3_SameLists L) T_spyref3_SameLists L (c + 1) 18 xs lv st = outR Try.prog Try.f18.results.toList (evC Try.prog (G_spyref3_SameLists L) (evF Try.prog (G_spyref3_SameLists L) T_spyref3_SameLists L c) L en18.ms lv 0 (bodyN Try.f18) (pad xs Try.f18.ntmps) st) := evF_s (hT := by rfl) (hb := by rfl) ..
attribute [local go_sem] Ty.tk3 Ty.ik3 Ty.ek3 Ty.zv3 Ty.by3 Ty.so3 Ty.tk4 Ty.ub4 Ty.ek4 Ty.zv4 Ty.by4 Ty.so4 Ty.tk23 Ty.zv23 Ty.by23 Ty.so23 Ty.tk50 Ty.zv50 Ty.by50 Ty.so50 Ty.tk53 Ty.zv53 Ty.by53 Ty.so53 Ty.k23_e Ty.k50_e E.mk8_1000000 E.mk18_0 E.mk18_1000001 E.mk18_1000002 E.mk18_1000000 E.fz18_0 E.fi18_0 E.lb18_0 lk_spyref3_SameLists_19 lk_spyref3_SameLists_18 in_spyref3_SameLists_18 s_slices_Equal_int_run loopN loops Try.f8 Try.f18
def Q0_p_spyref3_SameLists_l0 (a1 : List (List Int)) (a0 : List (List Int)) (u : Unit) (z : Out) : Prop := ∃ env st, z = some (.exit 0, env, st) ∧ env = sp 32 0 []
def Q1_p_spyref3_SameLists_l0 (a1 : List (List Int)) (a0 : List (List Int)) (u : Unit) (z : Out) : Prop := ∃ env st, z = some (.ret, env, st) ∧ env = sp 32 0 [(6, .d (.bool false))]
def Q_p_spyref3_SameLists_l0 (a1 : List (List Int)) (a0 : List (List Int)) (o : Sum Unit Unit) (z : Out) : Prop := match o with | (.inl u) => Q0_p_spyref3_SameLists_l0 a1 a0 u z | (.inr u) => Q1_p_spyref3_SameLists_l0 a1 a0 u z
theorem l_p_spyref3_SameLists_l0 (L : Nat) (hL : L ≤ 4611686018427387904) (a1 : List (List Int)) (a0 : List (List Int)) : ∀ (tl : List (List Int)) (n : Nat) (s2 : Int) (env : List V) (st : Store) (o : Sum Unit Unit), tl.length < n → Rng a0 s2 tl → mask (maskOf en18.ms 0) env = sp 32 0 [(1, .d (.sl 50 (a1.map k50.e))), (2, .fn 19 []), (15, .d (.sl 50 (a0.map k50.e))), (16, .d (.int .i64 (a0.length : Int))), (17, .d (.int .i64 s2))] → p_spyref3_SameLists_l0 L a1 tl s2  = some o →
    Q_p_spyref3_SameLists_l0 a1 a0 o (iter (evC Try.prog (G_spyref3_SameLists L) (evF Try.prog (G_spyref3_SameLists L) T_spyref3_SameLists L 0) L en18.ms 8 0 lb18_0) (maskOf en18.ms 0) n env st) := by
  intro tl
  induction tl with
  | nil =>
    intro n s2  env st o hn hR he  h
    obtain ⟨n, rfl⟩ : ∃ m, n = m + 1 := ⟨n - 1, by omega⟩
    have g0 := rng_nil hR
    rw [iter, he]
    clear he
    generalize hK : iter _ _ n = K
    rw [p_spyref3_SameLists_l0] at h
    revert h
    rintro ⟨⟩
    simp only [go_sem, *]
    refine (⟨_, _, rfl, ?_⟩ : Q0_p_spyref3_SameLists_l0 _ _ _ _)
    all_goals simp only [go_sem, *]
  | cons x1 tl ih =>
    intro n s2  env st o hn hR he  h
    obtain ⟨n, rfl⟩ : ∃ m, n = m + 1 := ⟨n - 1, by omega⟩
    replace ih : Hold _ := ih
    replace hR := rng_s hR
    obtain ⟨g0, g1, g2, g3, hR⟩ := hR
    rw [iter, he]
    clear he
    generalize hK : iter _ _ n = K
    rw [p_spyref3_SameLists_l0] at h
    revert h
    refine idx_i fun x5 c1 c2 c3 => ?_
    refine bnd_i fun r6 c4 => ?_
    refine cb_i (fun c5 => ?_) (fun c5 => ?_)
    · intro h
      simp only [go_sem, *]
      subst hK
      refine ih n (s2 + 1)  _ _ _ (by simp only [List.length_cons] at hn; omega) hR ?_ h
      all_goals simp only [go_sem, *]
    · rintro ⟨⟩
      simp only [go_sem, *]
      refine (⟨_, _, rfl, ?_⟩ : Q1_p_spyref3_SameLists_l0 _ _ _ _)
      all_goals simp only [go_sem, *]
theorem e_spyref3_SameLists (L : Nat) (hL : L ≤ 4611686018427387904) (a0 : List (List Int)) (a1 : List (List Int)) (res : Bool) (h : p_spyref3_SameLists L a0 a1 = some res) : evTop Try.prog (G_spyref3_SameLists L) T_spyref3_SameLists L 2 8 [.sl 50 (a0.map k50.e), .sl 50 (a1.map k50.e)] = some [.bool res] := by
  revert h
  unfold p_spyref3_SameLists evTop
  simp only [List.map]
  rw [evF_s (fn := Try.f8) (msk := en8.ms) (hT := by rfl) (hb := by rfl)]
  refine cb_i (fun c1 => ?_) (fun c1 => ?_)
  · refine rq_i fun c2 => ?_
    refine bnd_i fun o7 ho3 => ?_
    intro h
    simp only [go_sem, *]
    generalize hz5 : iter _ _ _ _ _ = z4
    have hq6 : Q_p_spyref3_SameLists_l0 a1 a0 o7 z4 := by
      rw [← hz5]
      refine l_p_spyref3_SameLists_l0 L hL a1 a0 a0 L 0  _ _ _ c2 (rng_0 c2 hL) ?_ ho3
      all_goals simp only [go_sem, *]
    clear hz5 ho3
    rcases o7 with o7_0 | o7_1
    · obtain ⟨_, st8, rfl, rfl⟩ := hq6
      dsimp only at h
      revert h
      rintro ⟨⟩
      simp only [go_sem, *]
    · obtain ⟨_, st9, rfl, rfl⟩ := hq6
      dsimp only at h
      revert h
      rintro ⟨⟩
      simp only [go_sem, *]
  · rintro ⟨⟩
    simp only [go_sem, *]
noncomputable def s_spyref3_SameLists (L : Nat) : Ev.Spec := specP (cCons k23 (cCons k23 cNil)) (fun x => p_spyref3_SameLists L x.1 x.2.1) (fun r => [.bool r])
theorem s_spyref3_SameLists_run (L : Nat) (a0 : List (List Int)) (a1 : List (List Int)) : (s_spyref3_SameLists L).run [.sl 50 (a0.map k50.e), .sl 50 (a1.map k50.e)] = (p_spyref3_SameLists L a0 a1).map fun r => [.bool r] := specP_run (cCons k23 (cCons k23 cNil)) (fun x => p_spyref3_SameLists L x.1 x.2.1) (fun r => [.bool r]) (a0, a1, ())
theorem ok_spyref3_SameLists (L : Nat) (hL : L ≤ 4611686018427387904) : SpecOk Try.prog 8 (s_spyref3_SameLists L) := specP_ok mixed (Go_spyref3_SameLists L hL) (To_spyref3_SameLists L) fun x r h => ⟨L, 2, e_spyref3_SameLists L hL x.1 x.2.1 r h⟩
end Go.Proofs.Ytnopgienncmcmaa.P
end
section
set_option linter.unusedVariables false
set_option linter.unusedSimpArgs false
set_option maxRecDepth 100000
namespace Go.Proofs.Ytnopgienncmcmaa.E
open Go.Ev
noncomputable def en5 : Entry := ⟨Try.f5, [(0, mb 67 0 [6, 8, 27, 28, 29]), (2, mb 67 0 [6, 8, 9, 27, 28, 29, 35, 36, 37]), (1000001, mb 67 0 [8]), (1000002, mb 67 0 [6, 8, 27, 28, 29]), (1000003, mb 67 0 [6, 8, 27, 28, 29]), (1000004, mb 67 0 [6, 8, 9, 27, 28, 29, 35, 36, 37]), (1000000, mb 67 0 [4, 5]), (5000011, mb 67 0 [13]), (6000000, mb 67 0 [8]), (7000000, mb 67 0 [62]), (8000000, mb 1 0 [0])]⟩
theorem dw5_11 (lv : Nat) (env : List V) (st : Store) (o : Option (List V × Store)) : drawR en5.ms 11 lv env st o = if lv < 1000000000000000000000000000000 then (if (!(st (lv, 13)).live && true) = true then (o) else none) else none := nr rfl
theorem kl5_11 (lv : Nat) (st : Store) : killR en5.ms 11 lv st = killAt (st) (lv, 13) := nr rfl
theorem nc5_11 : ncOf en5.ms 11 = false := nr rfl
theorem mk5_0 (vs : List V) : mask (maskOf en5.ms 0) vs = km 67 0 [6, 8, 27, 28, 29] vs := mask_mb _ _ _ _
theorem mk5_2 (vs : List V) : mask (maskOf en5.ms 2) vs = km 67 0 [6, 8, 9, 27, 28, 29, 35, 36, 37] vs := mask_mb _ _ _ _
theorem mk5_1000001 (vs : List V) : mask (maskOf en5.ms 1000001) vs = km 67 0 [8] vs := mask_mb _ _ _ _
theorem mk5_1000002 (vs : List V) : mask (maskOf en5.ms 1000002) vs = km 67 0 [6, 8, 27, 28, 29] vs := mask_mb _ _ _ _
theorem mk5_1000003 (vs : List V) : mask (maskOf en5.ms 1000003) vs = km 67 0 [6, 8, 27, 28, 29] vs := mask_mb _ _ _ _
theorem mk5_1000004 (vs : List V) : mask (maskOf en5.ms 1000004) vs = km 67 0 [6, 8, 9, 27, 28, 29, 35, 36, 37] vs := mask_mb _ _ _ _
theorem mk5_1000000 (vs : List V) : mask (maskOf en5.ms 1000000) vs = km 67 0 [4, 5] vs := mask_mb _ _ _ _
def fk5_0 : List Bool := mb 67 0 [62]
theorem fz5_0 (lv : Nat) (f : Run) : frzF en5.ms lv 0 f = fun env st => frzO true lv (mb 67 0 [8]) fk5_0 (f env st) := nr rfl
theorem fi5_0 (lv : Nat) (env : List V) (st : Store) (q : Store → Out) : frzI en5.ms lv 0 env st q = (match frzL true st lv fk5_0 (mb 67 0 [8]) env st with | some st' => q (killL lv fk5_0 0 st') | none => none) := nr rfl
theorem kq5_0 (lv : Nat) (st : Store) : killL lv fk5_0 0 st = killAt (st) (lv, 62) := nr rfl
theorem gd5_0_6 : fk5_0.getD 6 false = false := by kernel_rfl
theorem gd5_0_10 : fk5_0.getD 10 false = false := by kernel_rfl
theorem gd5_0_12 : fk5_0.getD 12 false = false := by kernel_rfl
theorem gd5_0_13 : fk5_0.getD 13 false = false := by kernel_rfl
theorem gd5_0_18 : fk5_0.getD 18 false = false := by kernel_rfl
theorem gd5_0_25 : fk5_0.getD 25 false = false := by kernel_rfl
theorem gd5_0_26 : fk5_0.getD 26 false = false := by kernel_rfl
theorem gd5_0_28 : fk5_0.getD 28 false = false := by kernel_rfl
theorem gd5_0_36 : fk5_0.getD 36 false = false := by kernel_rfl
theorem gd5_0_49 : fk5_0.getD 49 false = false := by kernel_rfl
theorem gd5_0_61 : fk5_0.getD 61 false = false := by kernel_rfl
theorem gd5_0_62 : fk5_0.getD 62 false = true := by kernel_rfl
theorem fz5_2 (lv : Nat) (f : Run) : frzF en5.ms lv 2 f = f := nr rfl
theorem fi5_2 (lv : Nat) (env : List V) (st : Store) (q : Store → Out) : frzI en5.ms lv 2 env st q = q st := nr rfl
noncomputable def lb5_0 : Code := loopN Try.f5 0
noncomputable def lb5_2 : Code := loopN Try.f5 1
end Go.Proofs.Ytnopgienncmcmaa.E
end
section
set_option linter.unusedVariables false
set_option linter.unusedSimpArgs false
set_option maxRecDepth 100000
namespace Go.Proofs.Ytnopgienncmcmaa.E
open Go.Ev
noncomputable def en15 : Entry := ⟨Try.f15, [(1000001, mb 42 0 [2, 3, 4]), (1000000, mb 42 0 [4, 5])]⟩
theorem dw15_1 (lv : Nat) (env : List V) (st : Store) (o : Option (List V × Store)) : drawR en15.ms 1 lv env st o = if lv < 1000000000000000000000000000000 then (o) else none := nr rfl
theorem kl15_1 (lv : Nat) (st : Store) : killR en15.ms 1 lv st = st := nr rfl
theorem nc15_1 : ncOf en15.ms 1 = false := nr rfl
theorem mk15_1000001 (vs : List V) : mask (maskOf en15.ms 1000001) vs = km 42 0 [2, 3, 4] vs := mask_mb _ _ _ _
theorem mk15_1000000 (vs : List V) : mask (maskOf en15.ms 1000000) vs = km 42 0 [4, 5] vs := mask_mb _ _ _ _
end Go.Proofs.Ytnopgienncmcmaa.E
end
section
set_option linter.unusedVariables false
set_option linter.unusedSimpArgs false
set_option maxRecDepth 100000
namespace Go.Proofs.Ytnopgienncmcmaa.P
open Go.Ev Go.IntKind Go.Proofs.Ytnopgienncmcmaa Go.Proofs.Ytnopgienncmcmaa.Ty Go.Proofs.Ytnopgienncmcmaa.E
def p_bound_Meet_Quanta (L : Nat) (a0_0 : Int) (a0_1 : Int) (a0_2 : Bool) (a1_0 : Int) (a1_1 : Int) (a1_2 : Bool) : Option (Int × Int × Bool × Bool) := bnd (p_bound_Norm_Quanta L a0_0 a0_1 a0_2) fun r1 => bnd (p_bound_Norm_Quanta L a1_0 a1_1 a1_2) fun r2 => cb r1.2.2 (some (r2.1, r2.2.1, r2.2.2, true)) (cb r2.2.2 (some (r1.1, r1.2.1, r1.2.2, true)) (if (maxI r1.1 r2.1) > (minI r1.2.1 r2.2.1) then (some (0, 0, false, false)) else (bnd (p_bound_Of_Quanta L (maxI r1.1 r2.1) (minI r1.2.1 r2.2.1)) fun r3 => some (r3.1, r3.2.1, r3.2.2, true))))
attribute [local go_sem] Ev.putR_s Ev.putR_0 Ev.thenO_s Ev.thenO_0 Ev.seqR_n Ev.seqR_e Ev.seqR_r Ev.seqR_0 Ev.blkR_e Ev.blkR_n Ev.blkR_r Ev.blkR_0 Ev.normR_s Ev.normR_0 Ev.outR_r Ev.outR_n Ev.outR_0 Ev.retS_s Ev.retS_0 Ev.pureO_s Ev.pureO_0 Ev.topR_0 Ev.topR_t Ev.topR_t0 Ev.oneL_0 Ev.oneL_s Ev.topR_d Ev.topR_nils Ev.topR_agg Ev.topR_rs Ev.evOp_move Ev.evOp_assign Ev.evOp_pick Ev.evOp_alloc Ev.evOp_box Ev.evOp_build Ev.evOp_buildSlice Ev.evOp_load Ev.evOp_store Ev.evOp_makeMap Ev.evOp_lookup Ev.evOp_mapUpdate Ev.evOp_insert Ev.evOp_nilCheck Ev.evOp_binOp Ev.evOp_unOp Ev.evOp_convert Ev.evOp_makeFunc Ev.evOp_makeSlice Ev.evOp_slice Ev.evOp_fieldAddr Ev.evOp_field Ev.evOp_indexAddr Ev.evOp_index Ev.evOp_extract Ev.evOp_call Ev.evOp_append Ev.evOp_clear Ev.evOp_len Ev.evLen_d Ev.evLen_rs Ev.evLen_nils Ev.evLen_nila Ev.evLen_mp Ev.evOp_min Ev.evOp_max Ev.condR_b Ev.condR_t Ev.evOps_nil Ev.evOps_plain Ev.evOps_guard Ev.runG_eq Ev.skipG_eq Ev.condL_tt Ev.condL_ff Ev.condL_tf Ev.condL_ft Ev.condL_u Ev.condC_t Ev.condC_f Ev.evC_skip Ev.evC_ret Ev.evC_exit Ev.evC_label Ev.evC_region Ev.evC_draw Ev.evC_seq Ev.evC_cond Ev.evC_block Ev.evC_loop Ev.fin_d Ev.fin_nila Ev.fin_nils Ev.fin_agg_ Ev.fin_rs Ev.finS_s Ev.mapO_fin Ev.upd_upd Ev.argv_d Ev.argv_nila Ev.argv_nils Ev.argv_agg Ev.argv_rs Ev.argv_p Ev.fk_low Ev.appendTo_nils Ev.appendTo_nila Ev.appendTo_rs Ev.consV_d Ev.consV_agg Ev.consV_p Ev.consV_rs Ev.consV_nila Ev.consV_nils Ev.consV_fn Ev.consV_und Ev.consV_jk Ev.consV_grown Ev.topR_grown Ev.len_grown Ev.consV_mp Ev.sameK_i Ev.sameK_s Ev.mget_0 Ev.mget_hit Ev.mget_miss Ev.mput_0 Ev.mput_hit Ev.mput_miss Ev.apartAll Ev.apartL Ev.apartV Ev.freeAll Ev.sel Ev.keyOfV Ev.evLookup Ev.evPut Ev.hintOk Ev.keyOk Ev.consP Ev.lookV Ev.guardV Ev.dstAt Ev.evPure Ev.evStore Ev.evBin Ev.evBinO Ev.evNil Ev.isNilC Ev.evUn Ev.evConv Ev.evSlice Ev.optI Ev.foldI Ev.capsOk Ev.noTup Ev.nth Ev.setN Ev.killAt Ev.pad Ev.V.get Ev.V.put Ev.putD Ev.newBlk Ev.upd Ev.keq Ev.empty Ev.evCall Ev.V.args Ev.argP Ev.callOf Ev.evNilP Ev.isNilP Ev.look Ev.V.view.views Ev.V.view Ev.V.toD Ev.V.toD.V.toDs Ev.V.pure.pures Ev.V.pure Ev.D.flat.flats Ev.D.flat Ev.mkAgg Ev.allD Ev.aggParts Ev.setParts Ev.setElems Ev.getPath Ev.setPath Ev.subL Ev.eqD Ev.eqD.eqDs Ev.and2 Ev.strCut Ev.evalT Ev.constT Ev.evArgs Ev.mask Ev.maskOf Ev.tableOf Ev.compT Ev.resV Ev.retV Ev.mapO Ev.hT_nila Ev.eO_nila Ev.pL_nila Ev.evLen_gl Ev.r_nila Ev.frzO_n Ev.frzO_e Ev.frzO_r Ev.frzO_0 Ev.mb_z Ev.mb_0 Ev.mb_s Ev.frzL_t Ev.frzL_f Ev.frzL_0 Ev.frzT_nils Ev.frzT_rs Ev.frzT_p Ev.frzK_i Ev.keyIn_i Ev.rI_nil Ev.rI_cons Ev.rI_row Ev.rI_app Ev.r_d Ev.r_nils Ev.r_agg Ev.r_rs Ev.r_gl Ev.vw_row Ev.vw_app Ev.appO_s Ev.frzT_gl Ev.allD_gl Ev.killAt_i Ev.tkOne_i Ev.hT_agg Ev.hT_vagg Ev.hT_int Ev.hT_bool Ev.hT_str Ev.hT_sl Ev.hT_ptr Ev.hT_np Ev.hT_p Ev.hT_rs Ev.hT_mp Ev.hT_nils Ev.hT_fn Ev.hT_jk Ev.hT_gl Ev.eO_sl Ev.eO_nils Ev.eO_rs Ev.eT_sl Ev.eT_rs Ev.pL_str Ev.pL_sl Ev.pL_rs Ev.pL_nils Ev.pL_min Ev.pL_max Ev.len_glB Ev.noTup_gl Ev.rowV_len Ev.rowV_nil Ev.rowV_cons Ev.rowV_append Ev.rowV_set Ev.rowV_replicate Ev.nth_row Ev.row_take Ev.row_drop Ev.toDs_row Ev.fin_row Ev.map_row Ev.map_take_ Ev.map_drop_ Ev.Bk_i Ev.GlB_0 Ev.GlB_mk Ev.gl_nil Ev.gl_cons Ev.gl_snoc Ev.gl_setN Ev.appendTo_gl Ev.consV_gl Ev.elems_gl Ev.fin_gl Ev.view_gl Ev.argv_gl Ev.topR_gl Ev.sp_z Ev.sp_0 Ev.sp_s Ev.km_z Ev.km_0 Ev.km_s Ev.beq_toList Ev.nc0 Ev.bq_t Ev.bq_f Ev.bodyN Ev.le_maxRow Int.cast_ofNat_Int IntWalk.i64_in IntWalk.u64_in IntWalk.u8_in beq_self_eq_true Bool.true_beq Bool.false_beq Bool.and_true Bool.true_and Bool.false_and Bool.and_false Bool.and_self Bool.not_true Bool.not_false Bool.not_eq_true cond_true cond_false if_true if_false and_true true_and and_self decide_true decide_false Bool.or_true Bool.true_or Bool.or_false Bool.false_or List.isEmpty List.isEmpty_nil List.size_toArray List.map List.length_map List.length_cons List.length_nil Option.map Option.bind Option.getD Option.isSome List.replicate Bool.false_eq_true implies_true false_implies forall_const Array.toList Array.isEmpty List.append List.nil_append List.cons_append List.drop_zero List.take_length List.take_succ_cons List.take_zero List.take_nil List.getElem?_map List.getElem?_cons_zero List.getElem?_cons_succ List.getElem?_nil List.append_nil eq_self Int.toNat_natCast List.length_append Nat.zero_add Nat.add_zero List.length_replicate Nat.sub_zero Option.map_some Option.map_none Int.le_refl Nat.le_refl Int.natCast_nonneg List.map_append
attribute [local go_sem_proc] Nat.reduceAdd Nat.reduceSub Nat.reduceMul Nat.reduceEqDiff Nat.reduceBEq Nat.reduceLT Nat.reduceLeDiff Nat.reducePow Int.reduceToNat Int.reduceLT Int.reduceLE Int.reduceGT Int.reduceGE Int.reduceEq Int.reduceNeg Int.reduceAdd Int.reduceSub Int.reduceMul reduceCtorEq
attribute [local go_sem_proc ↓] reduceIte
noncomputable def G_bound_Meet_Quanta (L : Nat) : Specs := [(28, s_bound_Norm_Quanta L), (29, s_bound_Of_Quanta L)]
noncomputable def T_bound_Meet_Quanta : Table := tableOf [(15, en15)]
theorem Go_bound_Meet_Quanta (L : Nat) (hL : L ≤ 4611686018427387904) : ∀ g s, Ev.look (G_bound_Meet_Quanta L) g = some s → SpecOk Try.prog g s := (specs_cons (ok_bound_Norm_Quanta L hL) (specs_cons (ok_bound_Of_Quanta L hL) specs_nil))
theorem To_bound_Meet_Quanta (L : Nat) : TableOk Try.prog ((G_bound_Meet_Quanta L).map (·.1)) T_bound_Meet_Quanta := (table_cons Try.func15 (by kernel_rfl) (by kernel_rfl) table_nil)
theorem lk_bound_Meet_Quanta_28 (L : Nat) : Ev.look (G_bound_Meet_Quanta L) 28 = some (s_bound_Norm_Quanta L) := nr rfl
theorem lk_bound_Meet_Quanta_29 (L : Nat) : Ev.look (G_bound_Meet_Quanta L) 29 = some (s_bound_Of_Quanta L) := nr rfl
attribute [local go_sem] Ty.tk4 Ty.ub4 Ty.ek4 Ty.zv4 Ty.by4 Ty.so4 Ty.tk45 Ty.ik45 Ty.ek45 Ty.zv45 Ty.by45 Ty.so45 Ty.tk47 Ty.ct47 Ty.ek47 Ty.zv47 Ty.by47 Ty.so47 Ty.k47_e E.dw15_1 E.kl15_1 E.nc15_1 E.mk15_1000001 E.mk15_1000000 lk_bound_Meet_Quanta_28 lk_bound_Meet_Quanta_29 s_bound_Norm_Quanta_run s_bound_Of_Quanta_run loopN loops Try.f15
theorem e_bound_Meet_Quanta (L : Nat) (hL : L ≤ 4611686018427387904) (a0_0 : Int) (a0_1 : Int) (a0_2 : Bool) (a1_0 : Int) (a1_1 : Int) (a1_2 : Bool) (res : Int × Int × Bool × Bool) (h : p_bound_Meet_Quanta L a0_0 a0_1 a0_2 a1_0 a1_1 a1_2 = some res) : evTop Try.prog (G_bound_Meet_Quanta L) T_bound_Meet_Quanta L 1 15 [.agg 47 [.int .i64 a0_0, .int .i64 a0_1, .bool a0_2], .agg 47 [.int .i64 a1_0, .int .i64 a1_1, .bool a1_2]] = some [.agg 47 [.int .i64 res.1, .int .i64 res.2.1, .bool res.2.2.1], .bool res.2.2.2] := by
  revert h
  unfold p_bound_Meet_Quanta evTop
  simp only [List.map]
  rw [evF_s (fn := Try.f15) (msk := en15.ms) (hT := by rfl) (hb := by rfl)]
  refine bnd_i fun r1 c1 => ?_
  refine bnd_i fun r2 c2 => ?_
  refine cb_i (fun c3 => ?_) (fun c3 => ?_)
  · rintro ⟨⟩
    simp only [go_sem, *]
  · refine cb_i (fun c4 => ?_) (fun c4 => ?_)
    · rintro ⟨⟩
      simp only [go_sem, *]
    · refine ite_i (fun c5 => ?_) (fun c5 => ?_)
      · rintro ⟨⟩
        simp only [go_sem, *]
      · refine bnd_i fun r3 c6 => ?_
        rintro ⟨⟩
        simp only [go_sem, *]
noncomputable def s_bound_Meet_Quanta (L : Nat) : Ev.Spec := specP (cCons k47 (cCons k47 cNil)) (fun x => p_bound_Meet_Quanta L x.1.1 x.1.2.1 x.1.2.2.1 x.2.1.1 x.2.1.2.1 x.2.1.2.2.1) (fun r => [.agg 47 [.int .i64 r.1, .int .i64 r.2.1, .bool r.2.2.1], .bool r.2.2.2])
theorem s_bound_Meet_Quanta_run (L : Nat) (a0_0 : Int) (a0_1 : Int) (a0_2 : Bool) (a1_0 : Int) (a1_1 : Int) (a1_2 : Bool) : (s_bound_Meet_Quanta L).run [.agg 47 [.int .i64 a0_0, .int .i64 a0_1, .bool a0_2], .agg 47 [.int .i64 a1_0, .int .i64 a1_1, .bool a1_2]] = (p_bound_Meet_Quanta L a0_0 a0_1 a0_2 a1_0 a1_1 a1_2).map fun r => [.agg 47 [.int .i64 r.1, .int .i64 r.2.1, .bool r.2.2.1], .bool r.2.2.2] := specP_run (cCons k47 (cCons k47 cNil)) (fun x => p_bound_Meet_Quanta L x.1.1 x.1.2.1 x.1.2.2.1 x.2.1.1 x.2.1.2.1 x.2.1.2.2.1) (fun r => [.agg 47 [.int .i64 r.1, .int .i64 r.2.1, .bool r.2.2.1], .bool r.2.2.2]) ((a0_0, a0_1, a0_2, ()), (a1_0, a1_1, a1_2, ()), ())
theorem ok_bound_Meet_Quanta (L : Nat) (hL : L ≤ 4611686018427387904) : SpecOk Try.prog 15 (s_bound_Meet_Quanta L) := specP_ok mixed (Go_bound_Meet_Quanta L hL) (To_bound_Meet_Quanta L) fun x r h => ⟨L, 1, e_bound_Meet_Quanta L hL x.1.1 x.1.2.1 x.1.2.2.1 x.2.1.1 x.2.1.2.1 x.2.1.2.2.1 r h⟩
end Go.Proofs.Ytnopgienncmcmaa.P
end
section
set_option linter.unusedVariables false
set_option linter.unusedSimpArgs false
set_option maxRecDepth 100000
namespace Go.Proofs.Ytnopgienncmcmaa.P
open Go.Ev Go.IntKind Go.Proofs.Ytnopgienncmcmaa Go.Proofs.Ytnopgienncmcmaa.Ty Go.Proofs.Ytnopgienncmcmaa.E
def p_clean_Struck_l1 (L : Nat) (a6 : List (Int × Int × Bool × Unit)) : List (Int × Int × Bool × Unit) → Int → List Int → Option (List Int)
  | [], _, s => some s
  | x :: tl, i, s => bnd (idx a6 i) fun y => bnd (p_bound_Meet_Quanta L x.1 x.2.1 x.2.2.1 y.1 y.2.1 y.2.2.1) fun r => cb r.2.2.2 (p_clean_Struck_l1 L a6 tl (i + 1) s) (rq (s.length + 1 ≤ maxRow) <| rq ((s.length + 1) * 8 ≤ maxRow) <| p_clean_Struck_l1 L a6 tl (i + 1) (s ++ [i]))
def p_clean_Struck_l0 (L : Nat) (a6 : List (Int × Int × Bool × Unit)) : List (Int × Int × (List (Int × Int × Bool × Unit)) × Unit) → List (List Int) → Option (List (List Int))
  | [], d => some d
  | x :: tl, d => rq (x.2.2.1.length < L) <| bnd (p_clean_Struck_l1 L a6 x.2.2.1 0 []) fun s => p_clean_Struck_l0 L a6 tl (d ++ [s])
def p_clean_Struck (L : Nat) (a0 : List (Int × Int × (List (Int × Int × Bool × Unit)) × Unit)) (a1 : Int) : Option ((List (List Int)) × Int) := bnd (p_clean_Combine L a0 a1) fun r1 => cb (decide (r1.2.2.2 = 0)) (rq (a0.length * 24 ≤ maxRow) <| rq (a0.length ≤ maxRow) <| rq (a0.length < L) <| bnd (p_clean_Struck_l0 L r1.2.2.1 a0 []) fun o => some (o, 0)) (some (([] : List (List Int)), r1.2.2.2))
/-- A cell that is nil while it is empty. -/
def gz (x : List Int) : V := match x with | [] => .nils 3 | _ => .d (.sl 3 (x.map (D.int .i64)))
def gzV (X : List (List Int)) : List V := X.map gz
theorem gzV_len (X : List (List Int)) : (gzV X).length = X.length := by simp [gzV]
theorem gz_data (x : List Int) : gz x = .nils 3 ∨ gz x = .d (.sl 3 (x.map (D.int .i64))) := by cases x; exact .inl rfl; exact .inr rfl
theorem gz_view (st : Store) (x : List Int) : V.view st (gz x) = some (.sl 3 (x.map (D.int .i64))) := by cases x <;> rfl
theorem gz_fin (st : Store) (n : Nat) (x : List Int) : V.fin st (n + 1) (gz x) = some (.sl 3 (x.map (D.int .i64))) := by cases x <;> rfl
theorem gzV_fin (st : Store) (n : Nat) : ∀ X : List (List Int), mapO (V.fin st (n + 1)) (gzV X) = some (X.map k50.e)
  | [] => rfl
  | x :: r => by
    have := gzV_fin st n r
    simp only [gzV, List.map_cons, mapO] at this ⊢
    rw [this, gz_fin]
    rfl
theorem gz_refs (lv : Nat) (K : List Bool) (x : List Int) : refsIn lv K (gz x) = true := by cases x <;> rfl
theorem gzV_refs (lv : Nat) (K : List Bool) (v : V) (hv : refsIn lv K v = true) : ∀ (X : List (List Int)) (j : Nat), refsIn.refsIns lv K ((gzV X).set j v) = true
  | [], _ => rfl
  | x :: r, 0 => by
    show (refsIn lv K v && refsIn.refsIns lv K (gzV r)) = true
    have : ∀ Y, refsIn.refsIns lv K (gzV Y) = true := by
      intro Y
      induction Y with
      | nil => rfl
      | cons y q ih => show (refsIn lv K (gz y) && refsIn.refsIns lv K (gzV q)) = true; rw [gz_refs, ih]; rfl
    rw [hv, this]; rfl
  | x :: r, j + 1 => by
    show (refsIn lv K (gz x) && refsIn.refsIns lv K ((gzV r).set j v)) = true
    rw [gz_refs, gzV_refs lv K v hv r j]; rfl
theorem gzV_views (st : Store) : ∀ X : List (List Int), V.view.views st (gzV X) = some (X.map k50.e)
  | [] => rfl
  | x :: r => by
    have := gzV_views st r
    show (match V.view st (gz x), V.view.views st (gzV r) with | some x, some xs => some (x :: xs) | _, _ => none) = _
    rw [this, gz_view]; rfl
theorem gzV_keep : ∀ X : List (List Int), keepL (gzV X) (X.map k50.e) = gzV X
  | [] => rfl
  | x :: r => by
    show keepL (gz x :: gzV r) (k50.e x :: r.map k50.e) = gz x :: gzV r
    rw [keep_cons, gzV_keep r]
    cases x <;> rfl
/-- Where the cell's own row is turned to data. -/
theorem gzV_views_set (st : Store) (v : V) (s : List Int) (hv : V.view st v = some (.sl 3 (s.map (D.int .i64)))) : ∀ (X : List (List Int)) (j : Nat), V.view.views st ((gzV X).set j v) = some ((X.set j s).map k50.e)
  | [], _ => rfl
  | x :: r, 0 => by
    show (match V.view st v, V.view.views st (gzV r) with | some x, some xs => some (x :: xs) | _, _ => none) = _
    rw [hv, gzV_views st r]; rfl
  | x :: r, j + 1 => by
    show (match V.view st (gz x), V.view.views st ((gzV r).set j v) with | some x, some xs => some (x :: xs) | _, _ => none) = _
    rw [gz_view, gzV_views_set st v s hv r j]; rfl
theorem gzV_keep_set (v : V) (s : List Int) (hv : (match v with | .nils e => V.nils e | _ => .d (k50.e s)) = gz s) : ∀ (X : List (List Int)) (j : Nat), keepL ((gzV X).set j v) ((X.set j s).map k50.e) = gzV (X.set j s)
  | [], _ => rfl
  | x :: r, 0 => by
    show keepL (v :: gzV r) (k50.e s :: r.map k50.e) = gz s :: gzV r
    rw [keep_cons, gzV_keep r]
    exact congrArg (· :: gzV r) hv
  | x :: r, j + 1 => by
    show keepL (gz x :: (gzV r).set j v) (k50.e x :: (r.set j s).map k50.e) = gz x :: gzV (r.set j s)
    rw [keep_cons, gzV_keep_set v s hv r j]
    cases x <;> rfl
theorem rI_rep (lv : Nat) (K : List Bool) : ∀ n, refsIn.refsIns lv K (List.replicate n (V.nils 3)) = true
  | 0 => rfl
  | n + 1 => by show (true && refsIn.refsIns lv K (List.replicate n (V.nils 3))) = true; rw [rI_rep lv K n]; rfl
theorem vw_rep (st : Store) : ∀ n, V.view.views st (List.replicate n (V.nils 3)) = some (List.replicate n (.sl 3 []))
  | 0 => rfl
  | n + 1 => by
    show (match V.view st (.nils 3), V.view.views st (List.replicate n (V.nils 3)) with | some x, some xs => some (x :: xs) | _, _ => none) = _
    rw [vw_rep st n]; rfl
theorem keep_rep : ∀ n, keepL (List.replicate n (V.nils 3)) (List.replicate n (.sl 3 [])) = List.replicate n (V.nils 3)
  | 0 => rfl
  | n + 1 => by show keepL (V.nils 3 :: List.replicate n (V.nils 3)) (.sl 3 [] :: List.replicate n (.sl 3 [])) = V.nils 3 :: List.replicate n (V.nils 3); rw [keep_cons, keep_rep n]
theorem setN_set (X : List V) (j : Nat) (a b : V) : setN (X.set j a) j b = X.set j b := by rw [setN_eq]; simp
theorem nth_set {X : List V} {j : Nat} (h : j < X.length) (a : V) : nth (X.set j a) j = some a := by
  have : ∀ (X : List V) (j : Nat), nth X j = X[j]? := by
    intro X
    induction X with
    | nil => intro j; rfl
    | cons y r ih => intro j; cases j with
      | zero => rfl
      | succ j => exact ih j
  rw [this]; simp [h]
theorem gz_start (d : List (List Int)) (n : Nat) (ver : Nat) : gzV (d ++ List.replicate (n + 1) []) = (gzV (d ++ List.replicate (n + 1) [])).set d.length (gl 3 (0, 62) ver (rowV (D.int .i64) ([] : List Int))) := by
  have e : gzV (d ++ List.replicate (n + 1) []) = gzV d ++ V.nils 3 :: gzV (List.replicate n []) := by simp [gzV, List.replicate_succ, gz]
  rw [e, List.set_append_right _ _ (by simp [gzV])]
  simp [gzV, rowV, gl]
theorem gz_end (d : List (List Int)) (n : Nat) (s : List Int) : (d ++ List.replicate (n + 1) []).set d.length s = (d ++ [s]) ++ List.replicate n [] := by
  rw [List.set_append_right _ _ (Nat.le_refl _)]
  simp [List.replicate_succ]
attribute [local go_sem] Ev.putR_s Ev.putR_0 Ev.thenO_s Ev.thenO_0 Ev.seqR_n Ev.seqR_e Ev.seqR_r Ev.seqR_0 Ev.blkR_e Ev.blkR_n Ev.blkR_r Ev.blkR_0 Ev.normR_s Ev.normR_0 Ev.outR_r Ev.outR_n Ev.outR_0 Ev.retS_s Ev.retS_0 Ev.pureO_s Ev.pureO_0 Ev.topR_0 Ev.topR_t Ev.topR_t0 Ev.oneL_0 Ev.oneL_s Ev.topR_d Ev.topR_nils Ev.topR_agg Ev.topR_rs Ev.evOp_move Ev.evOp_assign Ev.evOp_pick Ev.evOp_alloc Ev.evOp_box Ev.evOp_build Ev.evOp_buildSlice Ev.evOp_load Ev.evOp_store Ev.evOp_makeMap Ev.evOp_lookup Ev.evOp_mapUpdate Ev.evOp_insert Ev.evOp_nilCheck Ev.evOp_binOp Ev.evOp_unOp Ev.evOp_convert Ev.evOp_makeFunc Ev.evOp_makeSlice Ev.evOp_slice Ev.evOp_fieldAddr Ev.evOp_field Ev.evOp_indexAddr Ev.evOp_index Ev.evOp_extract Ev.evOp_call Ev.evOp_append Ev.evOp_clear Ev.evOp_len Ev.evLen_d Ev.evLen_rs Ev.evLen_nils Ev.evLen_nila Ev.evLen_mp Ev.evOp_min Ev.evOp_max Ev.condR_b Ev.condR_t Ev.evOps_nil Ev.evOps_plain Ev.evOps_guard Ev.runG_eq Ev.skipG_eq Ev.condL_tt Ev.condL_ff Ev.condL_tf Ev.condL_ft Ev.condL_u Ev.condC_t Ev.condC_f Ev.evC_skip Ev.evC_ret Ev.evC_exit Ev.evC_label Ev.evC_region Ev.evC_draw Ev.evC_seq Ev.evC_cond Ev.evC_block Ev.evC_loop Ev.fin_d Ev.fin_nila Ev.fin_nils Ev.fin_agg_ Ev.fin_rs Ev.finS_s Ev.mapO_fin Ev.upd_upd Ev.argv_d Ev.argv_nila Ev.argv_nils Ev.argv_agg Ev.argv_rs Ev.argv_p Ev.fk_low Ev.appendTo_nils Ev.appendTo_nila Ev.appendTo_rs Ev.consV_d Ev.consV_agg Ev.consV_p Ev.consV_rs Ev.consV_nila Ev.consV_nils Ev.consV_fn Ev.consV_und Ev.consV_jk Ev.consV_grown Ev.topR_grown Ev.len_grown Ev.consV_mp Ev.sameK_i Ev.sameK_s Ev.mget_0 Ev.mget_hit Ev.mget_miss Ev.mput_0 Ev.mput_hit Ev.mput_miss Ev.apartAll Ev.apartL Ev.apartV Ev.freeAll Ev.sel Ev.keyOfV Ev.evLookup Ev.evPut Ev.hintOk Ev.keyOk Ev.consP Ev.lookV Ev.guardV Ev.dstAt Ev.evPure Ev.evStore Ev.evBin Ev.evBinO Ev.evNil Ev.isNilC Ev.evUn Ev.evConv Ev.evSlice Ev.optI Ev.foldI Ev.capsOk Ev.noTup Ev.nth Ev.setN Ev.killAt Ev.pad Ev.V.get Ev.V.put Ev.putD Ev.newBlk Ev.upd Ev.keq Ev.empty Ev.evCall Ev.V.args Ev.argP Ev.callOf Ev.evNilP Ev.isNilP Ev.look Ev.V.view.views Ev.V.view Ev.V.toD Ev.V.toD.V.toDs Ev.V.pure.pures Ev.V.pure Ev.D.flat.flats Ev.D.flat Ev.mkAgg Ev.allD Ev.aggParts Ev.setParts Ev.setElems Ev.getPath Ev.setPath Ev.subL Ev.eqD Ev.eqD.eqDs Ev.and2 Ev.strCut Ev.evalT Ev.constT Ev.evArgs Ev.mask Ev.maskOf Ev.tableOf Ev.compT Ev.resV Ev.retV Ev.mapO Ev.hT_nila Ev.eO_nila Ev.pL_nila Ev.evLen_gl Ev.r_nila Ev.frzO_n Ev.frzO_e Ev.frzO_r Ev.frzO_0 Ev.mb_z Ev.mb_0 Ev.mb_s Ev.frzL_t Ev.frzL_f Ev.frzL_0 Ev.frzT_nils Ev.frzT_rs Ev.frzT_p Ev.keyIn_i Ev.rI_nil Ev.rI_cons Ev.rI_row Ev.rI_app Ev.r_d Ev.r_nils Ev.r_agg Ev.r_rs Ev.r_gl Ev.vw_row Ev.vw_app Ev.appO_s Ev.frzT_gl Ev.allD_gl Ev.killAt_i Ev.tkOne_i Ev.hT_agg Ev.hT_vagg Ev.hT_int Ev.hT_bool Ev.hT_str Ev.hT_sl Ev.hT_ptr Ev.hT_np Ev.hT_p Ev.hT_rs Ev.hT_mp Ev.hT_nils Ev.hT_fn Ev.hT_jk Ev.hT_gl Ev.eO_sl Ev.eO_nils Ev.eO_rs Ev.eT_sl Ev.eT_rs Ev.pL_str Ev.pL_sl Ev.pL_rs Ev.pL_nils Ev.pL_min Ev.pL_max Ev.len_glB Ev.noTup_gl Ev.rowV_len Ev.rowV_nil Ev.rowV_cons Ev.rowV_append Ev.rowV_set Ev.rowV_replicate Ev.nth_row Ev.row_take Ev.row_drop Ev.toDs_row Ev.fin_row Ev.map_row Ev.map_take_ Ev.map_drop_ Ev.Bk_i Ev.GlB_0 Ev.GlB_mk Ev.gl_nil Ev.gl_cons Ev.gl_snoc Ev.gl_setN Ev.appendTo_gl Ev.consV_gl Ev.elems_gl Ev.fin_gl Ev.view_gl Ev.argv_gl Ev.topR_gl Ev.sp_z Ev.sp_0 Ev.sp_s Ev.km_z Ev.km_0 Ev.km_s Ev.beq_toList Ev.nc0 Ev.bq_t Ev.bq_f Ev.bodyN Ev.le_maxRow Int.cast_ofNat_Int IntWalk.i64_in IntWalk.u64_in IntWalk.u8_in beq_self_eq_true Bool.true_beq Bool.false_beq Bool.and_true Bool.true_and Bool.false_and Bool.and_false Bool.and_self Bool.not_true Bool.not_false Bool.not_eq_true cond_true cond_false if_true if_false and_true true_and and_self decide_true decide_false Bool.or_true Bool.true_or Bool.or_false Bool.false_or List.isEmpty List.isEmpty_nil List.size_toArray List.map List.length_map List.length_cons List.length_nil Option.map Option.bind Option.getD Option.isSome List.replicate Bool.false_eq_true implies_true false_implies forall_const Array.toList Array.isEmpty List.append List.nil_append List.cons_append List.drop_zero List.take_length List.take_succ_cons List.take_zero List.take_nil List.getElem?_map List.getElem?_cons_zero List.getElem?_cons_succ List.getElem?_nil List.append_nil eq_self Int.toNat_natCast List.length_append Nat.zero_add Nat.add_zero List.length_replicate Nat.sub_zero Option.map_some Option.map_none Int.le_refl Nat.le_refl Int.natCast_nonneg List.map_append
attribute [local go_sem_proc] Nat.reduceAdd Nat.reduceSub Nat.reduceMul Nat.reduceEqDiff Nat.reduceBEq Nat.reduceLT Nat.reduceLeDiff Nat.reducePow Int.reduceToNat Int.reduceLT Int.reduceLE Int.reduceGT Int.reduceGE Int.reduceEq Int.reduceNeg Int.reduceAdd Int.reduceSub Int.reduceMul reduceCtorEq
attribute [local go_sem_proc ↓] reduceIte
noncomputable def G_clean_Struck (L : Nat) : Specs := [(14, s_clean_Combine L), (15, s_bound_Meet_Quanta L)]
noncomputable def T_clean_Struck : Table := tableOf [(5, en5)]
theorem Go_clean_Struck (L : Nat) (hL : L ≤ 4611686018427387904) : ∀ g s, Ev.look (G_clean_Struck L) g = some s → SpecOk Try.prog g s := (specs_cons (ok_clean_Combine L hL) (specs_cons (ok_bound_Meet_Quanta L hL) specs_nil))
theorem To_clean_Struck (L : Nat) : TableOk Try.prog ((G_clean_Struck L).map (·.1)) T_clean_Struck := (table_cons Try.func5 (by kernel_rfl) (by kernel_rfl) table_nil)
theorem lk_clean_Struck_14 (L : Nat) : Ev.look (G_clean_Struck L) 14 = some (s_clean_Combine L) := nr rfl
theorem lk_clean_Struck_15 (L : Nat) : Ev.look (G_clean_Struck L) 15 = some (s_bound_Meet_Quanta L) := nr rfl
attribute [local go_sem] Ty.tk3 Ty.ik3 Ty.ek3 Ty.zv3 Ty.by3 Ty.so3 Ty.tk4 Ty.ub4 Ty.ek4 Ty.zv4 Ty.by4 Ty.so4 Ty.tk22 Ty.zv22 Ty.by22 Ty.so22 Ty.tk23 Ty.zv23 Ty.by23 Ty.so23 Ty.tk24 Ty.ik24 Ty.ek24 Ty.zv24 Ty.by24 Ty.so24 Ty.tk40 Ty.zv40 Ty.by40 Ty.so40 Ty.tk42 Ty.ct42 Ty.zv42 Ty.by42 Ty.so42 Ty.tk45 Ty.ik45 Ty.ek45 Ty.zv45 Ty.by45 Ty.so45 Ty.tk47 Ty.ct47 Ty.ek47 Ty.zv47 Ty.by47 Ty.so47 Ty.tk50 Ty.zv50 Ty.by50 Ty.so50 Ty.k22_e Ty.k23_e Ty.k40_e Ty.k42_e Ty.k47_e Ty.k50_e E.dw5_11 E.kl5_11 E.nc5_11 E.mk5_0 E.mk5_2 E.mk5_1000001 E.mk5_1000002 E.mk5_1000003 E.mk5_1000004 E.mk5_1000000 E.kq5_0 E.gd5_0_6 E.gd5_0_10 E.gd5_0_12 E.gd5_0_13 E.gd5_0_18 E.gd5_0_25 E.gd5_0_26 E.gd5_0_28 E.gd5_0_36 E.gd5_0_49 E.gd5_0_61 E.gd5_0_62 E.fz5_0 E.fi5_0 E.fz5_2 E.fi5_2 E.lb5_0 E.lb5_2 lk_clean_Struck_14 lk_clean_Struck_15 s_clean_Combine_run s_bound_Meet_Quanta_run loopN loops Try.f5 setN_set gzV_len List.length_set
def Q1 (a0 : List (Int × Int × (List (Int × Int × Bool × Unit)) × Unit)) (a29 : Int) (s3 : Int) (a4 a5 : Int) (a6 : List (Int × Int × Bool × Unit)) (X : List (List Int)) (j : Nat) (u : List Int) (z : Out) : Prop := ∃ env st, z = some (.exit 2, env, st) ∧ env = sp 67 0 [(6, .p (0, 6) (st (0, 6)).ver 0 []), (8, .rs 50 (0, 26) (st (0, 26)).ver 0 X.length true), (27, .d (.sl 42 (a0.map k42.e))), (28, .d (.int .i64 a29)), (29, .d (.int .i64 s3))] ∧ Bk (st (0, 6)) 42 [.d (.agg 42 [.int .i64 a4, .int .i64 a5, .sl 47 (a6.map k47.e)])] ∧ Bk (st (0, 26)) 50 ((gzV X).set j (gl 3 (0, 62) (st (0, 62)).ver (rowV (D.int .i64) u))) ∧ GlB (st (0, 62)) 3 (rowV (D.int .i64) u)
theorem l1 (L : Nat) (hL : L ≤ 4611686018427387904) (a0 : List (Int × Int × (List (Int × Int × Bool × Unit)) × Unit)) (a29 : Int) (s3 : Int) (a30 : List (Int × Int × Bool × Unit)) (a4 a5 : Int) (a6 : List (Int × Int × Bool × Unit)) (X : List (List Int)) (j : Nat) (hj0 : s3.toNat = j) (hj1 : 0 ≤ s3) (hj2 : j < X.length) (hj3 : s3 < (X.length : Int)) : ∀ (tl : List (Int × Int × Bool × Unit)) (n : Nat) (s37 : Int) (s : List Int) (env : List V) (st : Store) (o : List Int), tl.length < n → Rng a30 s37 tl → mask (maskOf en5.ms 2) env = sp 67 0 [(6, .p (0, 6) (st (0, 6)).ver 0 []), (8, .rs 50 (0, 26) (st (0, 26)).ver 0 X.length true), (9, .d (.int .i64 s3)), (27, .d (.sl 42 (a0.map k42.e))), (28, .d (.int .i64 a29)), (29, .d (.int .i64 s3)), (35, .d (.sl 47 (a30.map k47.e))), (36, .d (.int .i64 (a30.length : Int))), (37, .d (.int .i64 s37))] → Bk (st (0, 6)) 42 [.d (.agg 42 [.int .i64 a4, .int .i64 a5, .sl 47 (a6.map k47.e)])] → Bk (st (0, 26)) 50 ((gzV X).set j (gl 3 (0, 62) (st (0, 62)).ver (rowV (D.int .i64) s))) → GlB (st (0, 62)) 3 (rowV (D.int .i64) s) → p_clean_Struck_l1 L a6 tl s37 s = some o →
    Q1 a0 a29 s3 a4 a5 a6 X j o (iter (evC Try.prog (G_clean_Struck L) (evF Try.prog (G_clean_Struck L) T_clean_Struck L 0) L en5.ms 0 2 lb5_2) (maskOf en5.ms 2) n env st) := by
  have hn0 : ∀ a, nth ((gzV X).set j a) j = some a := nth_set (by rw [gzV_len]; exact hj2)
  intro tl
  induction tl with
  | nil =>
    intro n s37 s env st o hn hR he hb0 hb1 hb2 h
    obtain ⟨n, rfl⟩ : ∃ m, n = m + 1 := ⟨n - 1, by omega⟩
    obtain ⟨be0, bv0, bl0⟩ := hb0
    obtain ⟨be1, bv1, bl1⟩ := hb1
    have g0 := rng_nil hR
    rw [iter, he]
    clear he
    generalize hK : iter _ _ n = K
    rw [p_clean_Struck_l1] at h
    revert h
    rintro ⟨⟩
    simp only [go_sem, *]
    refine ⟨_, _, rfl, ?_, ?_, ?_, ?_⟩
    all_goals simp only [go_sem, *]
  | cons x tl ih =>
    intro n s37 s env st o hn hR he hb0 hb1 hb2 h
    obtain ⟨n, rfl⟩ : ∃ m, n = m + 1 := ⟨n - 1, by omega⟩
    obtain ⟨be0, bv0, bl0⟩ := hb0
    obtain ⟨be1, bv1, bl1⟩ := hb1
    replace ih : Hold _ := ih
    replace hR := rng_s hR
    obtain ⟨g0, g1, g2, g3, hR⟩ := hR
    rw [iter, he]
    clear he
    generalize hK : iter _ _ n = K
    rw [p_clean_Struck_l1] at h
    revert h
    refine idx_i fun y c1 c2 c3 => ?_
    refine bnd_i fun r cr => ?_
    refine cb_i (fun c4 => ?_) (fun c4 => ?_)
    · intro h
      simp only [go_sem, *]
      subst hK
      refine ih n (s37 + 1) s _ _ _ (by simp only [List.length_cons] at hn; omega) hR ?_ ?_ ?_ ?_ h
      all_goals simp only [go_sem, *]
    · refine rq_i fun c7 => ?_
      refine rq_i fun c8 => ?_
      intro h
      simp only [go_sem, *]
      subst hK
      refine ih n (s37 + 1) (s ++ [s37]) _ _ _ (by simp only [List.length_cons] at hn; omega) hR ?_ ?_ ?_ ?_ h
      all_goals simp only [go_sem, *]
theorem frz_struck {st : Store} {X : List (List Int)} {j : Nat} {s : List Int} (h1 : Bk (st (0, 26)) 50 ((gzV X).set j (gl 3 (0, 62) (st (0, 62)).ver (rowV (D.int .i64) s)))) (h2 : GlB (st (0, 62)) 3 (rowV (D.int .i64) s)) : frzK true st st 0 fk5_0 (0, 26) = some (upd st (0, 26) ⟨(st (0, 26)).ver, 50, gzV (X.set j s), true⟩) := by
  obtain ⟨e1, e2, e3⟩ := h1
  have hr : refsIn 0 fk5_0 (gl 3 (0, 62) (st (0, 62)).ver (rowV (D.int .i64) s)) = true := r_gl 0 fk5_0 (by kernel_rfl)
  have hv : V.view st (gl 3 (0, 62) (st (0, 62)).ver (rowV (D.int .i64) s)) = some (.sl 3 (s.map (D.int .i64))) := by
    cases s with
    | nil => rfl
    | cons a r =>
      obtain ⟨g1, g2, g3⟩ := h2 (by simp [rowV])
      show V.view st (.rs 3 (0, 62) (st (0, 62)).ver 0 ((rowV (D.int .i64) r).length + 1) true) = _
      simp only [V.view, elemsOf, g2]
      rw [if_pos ⟨trivial, g3, by simp [rowV]⟩]
      simp only [List.drop_zero]
      rw [List.take_of_length_le (by simp [rowV])]
      rw [toDs_row]; rfl
  rw [frzK_i, if_pos ⟨e3, by kernel_rfl, by rw [e2]; exact gzV_refs 0 fk5_0 _ hr X j⟩, e2, gzV_views_set st _ s hv X j]
  simp only [cond_true, e1]
  rw [gzV_keep_set _ s (by cases s <;> rfl) X j]
def Q0 (N : Nat) (a0 : List (Int × Int × (List (Int × Int × Bool × Unit)) × Unit)) (a4 a5 : Int) (a6 : List (Int × Int × Bool × Unit)) (u : List (List Int)) (z : Out) : Prop := ∃ env st, z = some (.exit 0, env, st) ∧ env = sp 67 0 [(8, .rs 50 (0, 26) (st (0, 26)).ver 0 N true)] ∧ N = u.length ∧ Bk (st (0, 26)) 50 (gzV u)
theorem l0 (N : Nat) (L : Nat) (hL : L ≤ 4611686018427387904) (a0 : List (Int × Int × (List (Int × Int × Bool × Unit)) × Unit)) (a4 a5 : Int) (a6 : List (Int × Int × Bool × Unit)) : ∀ (tl : List (Int × Int × (List (Int × Int × Bool × Unit)) × Unit)) (n : Nat) (s3 : Int) (d : List (List Int)) (env : List V) (st : Store) (o : List (List Int)), tl.length < n → Rng a0 s3 tl → s3 = (d.length : Int) → N = d.length + tl.length → mask (maskOf en5.ms 0) env = sp 67 0 [(6, .p (0, 6) (st (0, 6)).ver 0 []), (8, .rs 50 (0, 26) (st (0, 26)).ver 0 N true), (27, .d (.sl 42 (a0.map k42.e))), (28, .d (.int .i64 (a0.length : Int))), (29, .d (.int .i64 s3))] → Bk (st (0, 6)) 42 [.d (.agg 42 [.int .i64 a4, .int .i64 a5, .sl 47 (a6.map k47.e)])] → Bk (st (0, 26)) 50 (gzV (d ++ List.replicate tl.length [])) → p_clean_Struck_l0 L a6 tl d = some o →
    Q0 N a0 a4 a5 a6 o (iter (fun env st => frzO true 0 (mb 67 0 [8]) fk5_0 (evC Try.prog (G_clean_Struck L) (evF Try.prog (G_clean_Struck L) T_clean_Struck L 0) L en5.ms 0 0 lb5_0 env st)) (maskOf en5.ms 0) n env st) := by
  intro tl
  induction tl with
  | nil =>
    intro n s3 d env st o hn hR hd hN he hb0 hb1 h
    obtain ⟨n, rfl⟩ : ∃ m, n = m + 1 := ⟨n - 1, by omega⟩
    obtain ⟨be0, bv0, bl0⟩ := hb0
    have g0 := rng_nil hR
    clear hd
    rw [iter, he]
    clear he
    generalize hK : iter _ _ n = K
    rw [p_clean_Struck_l0] at h
    revert h
    rintro ⟨⟩
    have hb2 : Bk (st (0, 26)) 50 (gzV d) := by simpa using hb1
    have hN2 : N = d.length := by simpa using hN
    clear hb1 hN
    simp only [go_sem, g0]
    refine ⟨_, _, rfl, ?_, hN2, hb2⟩
    all_goals simp only [go_sem]
  | cons x tl ih =>
    intro n s3 d env st o hn hR hd hN he hb0 hb1 h
    obtain ⟨n, rfl⟩ : ∃ m, n = m + 1 := ⟨n - 1, by omega⟩
    have hb2 : Bk (st (0, 26)) 50 ((gzV (d ++ List.replicate (tl.length + 1) [])).set d.length (gl 3 (0, 62) (st (0, 62)).ver (rowV (D.int .i64) ([] : List Int)))) := by rw [← gz_start]; simpa using hb1
    clear hb1
    generalize hXX : d ++ List.replicate (tl.length + 1) ([] : List Int) = X at hb2
    obtain ⟨be0, bv0, bl0⟩ := hb0
    replace ih : Hold _ := ih
    replace hR := rng_s hR
    obtain ⟨g0, g1, g2, g3, hR⟩ := hR
    rw [iter, he]
    clear he
    generalize hK : iter _ _ n = K
    rw [p_clean_Struck_l0] at h
    revert h
    refine rq_i fun c1 => ?_
    refine bnd_i fun s ho => ?_
    intro h
    have hN2 : N = (d ++ [s]).length + tl.length := by simp only [List.length_cons] at hN; simp; omega
    have hl : X.length = N := by rw [← hXX]; simp only [List.length_cons] at hN; simp; omega
    have hset : X.set d.length s = (d ++ [s]) ++ List.replicate tl.length [] := by rw [← hXX]; exact gz_end d tl.length s
    have hj0 : s3.toNat = d.length := by omega
    have hj1 : 0 ≤ s3 := by omega
    have hj2 : d.length < X.length := by simp only [List.length_cons] at hN; omega
    have hj3 : s3 < (X.length : Int) := by omega
    have hd2 : s3 + 1 = ((d ++ [s]).length : Int) := by simp; omega
    clear hXX hd hN
    subst hl
    have hn' : tl.length < n := by simp only [List.length_cons] at hn; omega
    obtain ⟨be1, bv1, bl1⟩ := id hb2
    simp only [go_sem, be0, bv0, bl0, be1, bv1, bl1, g0, g1, g2, g3]
    generalize hz4 : iter _ _ _ _ _ = z3
    have hq5 : Q1 a0 (a0.length : Int) s3 a4 a5 a6 X d.length s z3 := by
      rw [← hz4]
      refine l1 L hL a0 (a0.length : Int) s3 x.2.2.1 a4 a5 a6 X d.length hj0 hj1 hj2 hj3 x.2.2.1 L 0 [] _ _ _ c1 (rng_0 c1 hL) ?_ ?_ ?_ ?_ ho
      all_goals simp only [go_sem, be0, bv0, bl0, be1, bv1, bl1]
    clear hz4 ho
    obtain ⟨_, st37, rfl, rfl, hk1, hk2, hk3⟩ := hq5
    have hf := frz_struck hk2 hk3
    obtain ⟨k61, k62, k63⟩ := hk1
    obtain ⟨k71, k72, k73⟩ := hk2
    rw [hset] at hf
    simp only [go_sem, k61, k62, k63, k71, k73, hf]
    subst hK
    refine ih n (s3 + 1) (d ++ [s]) _ _ _ hn' hR hd2 hN2 ?_ ?_ ?_ h
    all_goals simp only [go_sem, k61, k62, k63, g3]
theorem e_clean_Struck (L : Nat) (hL : L ≤ 4611686018427387904) (a0 : List (Int × Int × (List (Int × Int × Bool × Unit)) × Unit)) (a1 : Int) (res : (List (List Int)) × Int) (h : p_clean_Struck L a0 a1 = some res) : evTop Try.prog (G_clean_Struck L) T_clean_Struck L 1 5 [.sl 42 (a0.map k42.e), .int .i64 a1] = some [.sl 50 (res.1.map k50.e), .int .i64 res.2] := by
  revert h
  unfold p_clean_Struck evTop
  simp only [List.map]
  rw [evF_s (fn := Try.f5) (msk := en5.ms) (hT := by rfl) (hb := by rfl)]
  refine bnd_i fun r1 c1 => ?_
  refine cb_i (fun c2 => ?_) (fun c2 => ?_)
  · refine rq_i fun c3 => ?_
    refine rq_i fun c4 => ?_
    refine rq_i fun c5 => ?_
    refine bnd_i fun o ho => ?_
    intro h
    simp only [go_sem, Ev.frzK_i, rI_rep, vw_rep, keep_rep, *]
    generalize hz6 : iter _ _ _ _ _ = z5
    have hq7 : Q0 a0.length a0 r1.1 r1.2.1 r1.2.2.1 o z5 := by
      rw [← hz6]
      refine l0 a0.length L hL a0 r1.1 r1.2.1 r1.2.2.1 a0 L 0 [] _ _ _ c5 (rng_0 c5 hL) rfl (by simp) ?_ ?_ ?_ ho
      all_goals simp only [go_sem, *]
      all_goals simp [Bk, gzV, gz]
    clear hz6 ho
    obtain ⟨_, st39, rfl, rfl, hl, k81, k82, k83⟩ := hq7
    revert h
    rintro ⟨⟩
    have hfin : mapO (V.fin st39 8) (gzV o) = some (o.map k50.e) := gzV_fin st39 7 o
    have htake : List.take o.length (gzV o) = gzV o := List.take_of_length_le (by rw [gzV_len]; omega)
    simp only [go_sem, *]
  · rintro ⟨⟩
    simp only [go_sem, *]
noncomputable def s_clean_Struck (L : Nat) : Ev.Spec := specP (cCons k22 (cCons (cI .i64) cNil)) (fun x => p_clean_Struck L x.1 x.2.1) (fun r => [.sl 50 (r.1.map k50.e), .int .i64 r.2])
theorem s_clean_Struck_run (L : Nat) (a0 : List (Int × Int × (List (Int × Int × Bool × Unit)) × Unit)) (a1 : Int) : (s_clean_Struck L).run [.sl 42 (a0.map k42.e), .int .i64 a1] = (p_clean_Struck L a0 a1).map fun r => [.sl 50 (r.1.map k50.e), .int .i64 r.2] := specP_run (cCons k22 (cCons (cI .i64) cNil)) (fun x => p_clean_Struck L x.1 x.2.1) (fun r => [.sl 50 (r.1.map k50.e), .int .i64 r.2]) (a0, a1, ())
theorem ok_clean_Struck (L : Nat) (hL : L ≤ 4611686018427387904) : SpecOk Try.prog 5 (s_clean_Struck L) := specP_ok mixed (Go_clean_Struck L hL) (To_clean_Struck L) fun x r h => ⟨L, 1, e_clean_Struck L hL x.1 x.2.1 r h⟩
end Go.Proofs.Ytnopgienncmcmaa.P
end
section
set_option linter.unusedVariables false
set_option linter.unusedSimpArgs false
set_option maxRecDepth 100000
namespace Go.Proofs.Ytnopgienncmcmaa.P
open Go.Ev Go.IntKind Go.Proofs.Ytnopgienncmcmaa Go.Proofs.Ytnopgienncmcmaa.Ty Go.Proofs.Ytnopgienncmcmaa.E
def p_spylaw3_CleanStrikes (L : Nat) (a0 : List (Int × Int × (List (Int × Int × Bool × Unit)) × Unit)) (a1 : Int) : Option Bool := bnd (p_clean_Struck L a0 a1) fun r1 => bnd (p_spyref3_Hit L a0 a1) fun r2 => bnd (p_spylaw3_cleans L) fun r3 => cb r3 (cb (decide (r1.2 = r2.2)) (bnd (p_spyref3_SameLists L r1.1 r2.1) fun r4 => some r4) (some false)) (some false)
attribute [local go_sem] Ev.putR_s Ev.putR_0 Ev.thenO_s Ev.thenO_0 Ev.seqR_n Ev.seqR_e Ev.seqR_r Ev.seqR_0 Ev.blkR_e Ev.blkR_n Ev.blkR_r Ev.blkR_0 Ev.normR_s Ev.normR_0 Ev.outR_r Ev.outR_n Ev.outR_0 Ev.retS_s Ev.retS_0 Ev.pureO_s Ev.pureO_0 Ev.topR_0 Ev.topR_t Ev.topR_t0 Ev.oneL_0 Ev.oneL_s Ev.topR_d Ev.topR_nils Ev.topR_agg Ev.topR_rs Ev.evOp_move Ev.evOp_assign Ev.evOp_pick Ev.evOp_alloc Ev.evOp_box Ev.evOp_build Ev.evOp_buildSlice Ev.evOp_load Ev.evOp_store Ev.evOp_makeMap Ev.evOp_lookup Ev.evOp_mapUpdate Ev.evOp_insert Ev.evOp_nilCheck Ev.evOp_binOp Ev.evOp_unOp Ev.evOp_convert Ev.evOp_makeFunc Ev.evOp_makeSlice Ev.evOp_slice Ev.evOp_fieldAddr Ev.evOp_field Ev.evOp_indexAddr Ev.evOp_index Ev.evOp_extract Ev.evOp_call Ev.evOp_append Ev.evOp_clear Ev.evOp_len Ev.evLen_d Ev.evLen_rs Ev.evLen_nils Ev.evLen_nila Ev.evLen_mp Ev.evOp_min Ev.evOp_max Ev.condR_b Ev.condR_t Ev.evOps_nil Ev.evOps_plain Ev.evOps_guard Ev.runG_eq Ev.skipG_eq Ev.condL_tt Ev.condL_ff Ev.condL_tf Ev.condL_ft Ev.condL_u Ev.condC_t Ev.condC_f Ev.evC_skip Ev.evC_ret Ev.evC_exit Ev.evC_label Ev.evC_region Ev.evC_draw Ev.evC_seq Ev.evC_cond Ev.evC_block Ev.evC_loop Ev.fin_d Ev.fin_nila Ev.fin_nils Ev.fin_agg_ Ev.fin_rs Ev.finS_s Ev.mapO_fin Ev.upd_upd Ev.argv_d Ev.argv_nila Ev.argv_nils Ev.argv_agg Ev.argv_rs Ev.argv_p Ev.fk_low Ev.appendTo_nils Ev.appendTo_nila Ev.appendTo_rs Ev.consV_d Ev.consV_agg Ev.consV_p Ev.consV_rs Ev.consV_nila Ev.consV_nils Ev.consV_fn Ev.consV_und Ev.consV_jk Ev.consV_grown Ev.topR_grown Ev.len_grown Ev.consV_mp Ev.sameK_i Ev.sameK_s Ev.mget_0 Ev.mget_hit Ev.mget_miss Ev.mput_0 Ev.mput_hit Ev.mput_miss Ev.apartAll Ev.apartL Ev.apartV Ev.freeAll Ev.sel Ev.keyOfV Ev.evLookup Ev.evPut Ev.hintOk Ev.keyOk Ev.consP Ev.lookV Ev.guardV Ev.dstAt Ev.evPure Ev.evStore Ev.evBin Ev.evBinO Ev.evNil Ev.isNilC Ev.evUn Ev.evConv Ev.evSlice Ev.optI Ev.foldI Ev.capsOk Ev.noTup Ev.nth Ev.setN Ev.killAt Ev.pad Ev.V.get Ev.V.put Ev.putD Ev.newBlk Ev.upd Ev.keq Ev.empty Ev.evCall Ev.V.args Ev.argP Ev.callOf Ev.evNilP Ev.isNilP Ev.look Ev.V.view.views Ev.V.view Ev.V.toD Ev.V.toD.V.toDs Ev.V.pure.pures Ev.V.pure Ev.D.flat.flats Ev.D.flat Ev.mkAgg Ev.allD Ev.aggParts Ev.setParts Ev.setElems Ev.getPath Ev.setPath Ev.subL Ev.eqD Ev.eqD.eqDs Ev.and2 Ev.strCut Ev.evalT Ev.constT Ev.evArgs Ev.mask Ev.maskOf Ev.tableOf Ev.compT Ev.resV Ev.retV Ev.mapO Ev.hT_nila Ev.eO_nila Ev.pL_nila Ev.evLen_gl Ev.r_nila Ev.frzO_n Ev.frzO_e Ev.frzO_r Ev.frzO_0 Ev.mb_z Ev.mb_0 Ev.mb_s Ev.frzL_t Ev.frzL_f Ev.frzL_0 Ev.frzT_nils Ev.frzT_rs Ev.frzT_p Ev.frzK_i Ev.keyIn_i Ev.rI_nil Ev.rI_cons Ev.rI_row Ev.rI_app Ev.r_d Ev.r_nils Ev.r_agg Ev.r_rs Ev.r_gl Ev.vw_row Ev.vw_app Ev.appO_s Ev.frzT_gl Ev.allD_gl Ev.killAt_i Ev.tkOne_i Ev.hT_agg Ev.hT_vagg Ev.hT_int Ev.hT_bool Ev.hT_str Ev.hT_sl Ev.hT_ptr Ev.hT_np Ev.hT_p Ev.hT_rs Ev.hT_mp Ev.hT_nils Ev.hT_fn Ev.hT_jk Ev.hT_gl Ev.eO_sl Ev.eO_nils Ev.eO_rs Ev.eT_sl Ev.eT_rs Ev.pL_str Ev.pL_sl Ev.pL_rs Ev.pL_nils Ev.pL_min Ev.pL_max Ev.len_glB Ev.noTup_gl Ev.rowV_len Ev.rowV_nil Ev.rowV_cons Ev.rowV_append Ev.rowV_set Ev.rowV_replicate Ev.nth_row Ev.row_take Ev.row_drop Ev.toDs_row Ev.fin_row Ev.map_row Ev.map_take_ Ev.map_drop_ Ev.Bk_i Ev.GlB_0 Ev.GlB_mk Ev.gl_nil Ev.gl_cons Ev.gl_snoc Ev.gl_setN Ev.appendTo_gl Ev.consV_gl Ev.elems_gl Ev.fin_gl Ev.view_gl Ev.argv_gl Ev.topR_gl Ev.sp_z Ev.sp_0 Ev.sp_s Ev.km_z Ev.km_0 Ev.km_s Ev.beq_toList Ev.nc0 Ev.bq_t Ev.bq_f Ev.bodyN Ev.le_maxRow Int.cast_ofNat_Int IntWalk.i64_in IntWalk.u64_in IntWalk.u8_in beq_self_eq_true Bool.true_beq Bool.false_beq Bool.and_true Bool.true_and Bool.false_and Bool.and_false Bool.and_self Bool.not_true Bool.not_false Bool.not_eq_true cond_true cond_false if_true if_false and_true true_and and_self decide_true decide_false Bool.or_true Bool.true_or Bool.or_false Bool.false_or List.isEmpty List.isEmpty_nil List.size_toArray List.map List.length_map List.length_cons List.length_nil Option.map Option.bind Option.getD Option.isSome List.replicate Bool.false_eq_true implies_true false_implies forall_const Array.toList Array.isEmpty List.append List.nil_append List.cons_append List.drop_zero List.take_length List.take_succ_cons List.take_zero List.take_nil List.getElem?_map List.getElem?_cons_zero List.getElem?_cons_succ List.getElem?_nil List.append_nil eq_self Int.toNat_natCast List.length_append Nat.zero_add Nat.add_zero List.length_replicate Nat.sub_zero Option.map_some Option.map_none Int.le_refl Nat.le_refl Int.natCast_nonneg List.map_append
attribute [local go_sem_proc] Nat.reduceAdd Nat.reduceSub Nat.reduceMul Nat.reduceEqDiff Nat.reduceBEq Nat.reduceLT Nat.reduceLeDiff Nat.reducePow Int.reduceToNat Int.reduceLT Int.reduceLE Int.reduceGT Int.reduceGE Int.reduceEq Int.reduceNeg Int.reduceAdd Int.reduceSub Int.reduceMul reduceCtorEq
attribute [local go_sem_proc ↓] reduceIte
noncomputable def G_spylaw3_CleanStrikes (L : Nat) : Specs := [(5, s_clean_Struck L), (6, s_spyref3_Hit L), (7, s_spylaw3_cleans L), (8, s_spyref3_SameLists L)]
noncomputable def T_spylaw3_CleanStrikes : Table := tableOf [(3, en3)]
theorem Go_spylaw3_CleanStrikes (L : Nat) (hL : L ≤ 4611686018427387904) : ∀ g s, Ev.look (G_spylaw3_CleanStrikes L) g = some s → SpecOk Try.prog g s := (specs_cons (ok_clean_Struck L hL) (specs_cons (ok_spyref3_Hit L hL) (specs_cons (ok_spylaw3_cleans L hL) (specs_cons (ok_spyref3_SameLists L hL) specs_nil))))
theorem To_spylaw3_CleanStrikes (L : Nat) : TableOk Try.prog ((G_spylaw3_CleanStrikes L).map (·.1)) T_spylaw3_CleanStrikes := (table_cons Try.func3 (by kernel_rfl) (by kernel_rfl) table_nil)
theorem lk_spylaw3_CleanStrikes_5 (L : Nat) : Ev.look (G_spylaw3_CleanStrikes L) 5 = some (s_clean_Struck L) := nr rfl
theorem lk_spylaw3_CleanStrikes_6 (L : Nat) : Ev.look (G_spylaw3_CleanStrikes L) 6 = some (s_spyref3_Hit L) := nr rfl
theorem lk_spylaw3_CleanStrikes_7 (L : Nat) : Ev.look (G_spylaw3_CleanStrikes L) 7 = some (s_spylaw3_cleans L) := nr rfl
theorem lk_spylaw3_CleanStrikes_8 (L : Nat) : Ev.look (G_spylaw3_CleanStrikes L) 8 = some (s_spyref3_SameLists L) := nr rfl
attribute [local go_sem] Ty.tk3 Ty.ik3 Ty.ek3 Ty.zv3 Ty.by3 Ty.so3 Ty.tk4 Ty.ub4 Ty.ek4 Ty.zv4 Ty.by4 Ty.so4 Ty.tk22 Ty.zv22 Ty.by22 Ty.so22 Ty.tk23 Ty.zv23 Ty.by23 Ty.so23 Ty.tk24 Ty.ik24 Ty.ek24 Ty.zv24 Ty.by24 Ty.so24 Ty.tk40 Ty.zv40 Ty.by40 Ty.so40 Ty.tk42 Ty.ct42 Ty.zv42 Ty.by42 Ty.so42 Ty.tk45 Ty.ik45 Ty.ek45 Ty.zv45 Ty.by45 Ty.so45 Ty.tk47 Ty.ct47 Ty.ek47 Ty.zv47 Ty.by47 Ty.so47 Ty.tk50 Ty.zv50 Ty.by50 Ty.so50 Ty.k22_e Ty.k23_e Ty.k40_e Ty.k42_e Ty.k47_e Ty.k50_e E.mk3_1000000 lk_spylaw3_CleanStrikes_5 lk_spylaw3_CleanStrikes_6 lk_spylaw3_CleanStrikes_7 lk_spylaw3_CleanStrikes_8 s_clean_Struck_run s_spyref3_Hit_run s_spylaw3_cleans_run s_spyref3_SameLists_run loopN loops Try.f3
theorem e_spylaw3_CleanStrikes (L : Nat) (hL : L ≤ 4611686018427387904) (a0 : List (Int × Int × (List (Int × Int × Bool × Unit)) × Unit)) (a1 : Int) (res : Bool) (h : p_spylaw3_CleanStrikes L a0 a1 = some res) : evTop Try.prog (G_spylaw3_CleanStrikes L) T_spylaw3_CleanStrikes L 1 3 [.sl 42 (a0.map k42.e), .int .i64 a1] = some [.bool res] := by
  revert h
  unfold p_spylaw3_CleanStrikes evTop
  simp only [List.map]
  rw [evF_s (fn := Try.f3) (msk := en3.ms) (hT := by rfl) (hb := by rfl)]
  refine bnd_i fun r1 c1 => ?_
  refine bnd_i fun r2 c2 => ?_
  refine bnd_i fun r3 c3 => ?_
  refine cb_i (fun c4 => ?_) (fun c4 => ?_)
  · refine cb_i (fun c5 => ?_) (fun c5 => ?_)
    · refine bnd_i fun r4 c6 => ?_
      rintro ⟨⟩
      simp only [go_sem, *]
    · rintro ⟨⟩
      simp only [go_sem, *]
  · rintro ⟨⟩
    simp only [go_sem, *]
noncomputable def s_spylaw3_CleanStrikes (L : Nat) : Ev.Spec := specP (cCons k22 (cCons (cI .i64) cNil)) (fun x => p_spylaw3_CleanStrikes L x.1 x.2.1) (fun r => [.bool r])
theorem s_spylaw3_CleanStrikes_run (L : Nat) (a0 : List (Int × Int × (List (Int × Int × Bool × Unit)) × Unit)) (a1 : Int) : (s_spylaw3_CleanStrikes L).run [.sl 42 (a0.map k42.e), .int .i64 a1] = (p_spylaw3_CleanStrikes L a0 a1).map fun r => [.bool r] := specP_run (cCons k22 (cCons (cI .i64) cNil)) (fun x => p_spylaw3_CleanStrikes L x.1 x.2.1) (fun r => [.bool r]) (a0, a1, ())
theorem ok_spylaw3_CleanStrikes (L : Nat) (hL : L ≤ 4611686018427387904) : SpecOk Try.prog 3 (s_spylaw3_CleanStrikes L) := specP_ok mixed (Go_spylaw3_CleanStrikes L hL) (To_spylaw3_CleanStrikes L) fun x r h => ⟨L, 1, e_spylaw3_CleanStrikes L hL x.1 x.2.1 r h⟩
end Go.Proofs.Ytnopgienncmcmaa.P
end
