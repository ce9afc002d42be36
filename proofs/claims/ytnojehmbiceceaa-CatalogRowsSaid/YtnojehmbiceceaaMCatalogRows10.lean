/- Parts of one proof, joined: G43, G47. -/
import Derived.Test.YtnojehmbiceceaaMCatalogRows9
section
attribute [local go_sem] Go.Ev.putR_s Go.Ev.putR_0 Go.Ev.thenO_s Go.Ev.thenO_0 Go.Ev.seqR_n Go.Ev.seqR_e Go.Ev.seqR_r Go.Ev.seqR_0 Go.Ev.blkR_e Go.Ev.blkR_n Go.Ev.blkR_r Go.Ev.blkR_0 Go.Ev.normR_s Go.Ev.normR_0 Go.Ev.outR_r Go.Ev.outR_n Go.Ev.outR_0 Go.Ev.retS_s Go.Ev.retS_0 Go.Ev.pureO_s Go.Ev.pureO_0 Go.Ev.topR_0 Go.Ev.topR_t Go.Ev.topR_t0 Go.Ev.oneL_0 Go.Ev.oneL_s Go.Ev.topR_d Go.Ev.topR_nils Go.Ev.topR_agg Go.Ev.topR_rs Go.Ev.evOp_move Go.Ev.evOp_assign Go.Ev.evOp_pick Go.Ev.evOp_alloc Go.Ev.evOp_box Go.Ev.evOp_build Go.Ev.evOp_buildSlice Go.Ev.evOp_load Go.Ev.evOp_store Go.Ev.evOp_makeMap Go.Ev.evOp_lookup Go.Ev.evOp_mapUpdate Go.Ev.evOp_insert Go.Ev.evOp_nilCheck Go.Ev.evOp_binOp Go.Ev.evOp_unOp Go.Ev.evOp_convert Go.Ev.evOp_makeFunc Go.Ev.evOp_makeSlice Go.Ev.evOp_slice Go.Ev.evOp_fieldAddr Go.Ev.evOp_field Go.Ev.evOp_indexAddr Go.Ev.evOp_index Go.Ev.evOp_extract Go.Ev.evOp_call Go.Ev.evOp_append Go.Ev.evOp_clear Go.Ev.evOp_len Go.Ev.evLen_d Go.Ev.evLen_rs Go.Ev.evLen_nils Go.Ev.evLen_nila Go.Ev.evLen_mp Go.Ev.evOp_min Go.Ev.evOp_max Go.Ev.condR_b Go.Ev.condR_t Go.Ev.evOps_nil Go.Ev.evOps_plain Go.Ev.evOps_guard Go.Ev.runG_eq Go.Ev.skipG_eq Go.Ev.condL_tt Go.Ev.condL_ff Go.Ev.condL_tf Go.Ev.condL_ft Go.Ev.condL_u Go.Ev.condC_t Go.Ev.condC_f Go.Ev.evC_skip Go.Ev.evC_ret Go.Ev.evC_exit Go.Ev.evC_label Go.Ev.evC_region Go.Ev.evC_draw Go.Ev.evC_seq Go.Ev.evC_cond Go.Ev.evC_block Go.Ev.evC_loop Go.Ev.fin_d Go.Ev.fin_nila Go.Ev.fin_nils Go.Ev.fin_agg_ Go.Ev.fin_rs Go.Ev.finS_s Go.Ev.mapO_fin Go.Ev.upd_upd Go.Ev.argv_d Go.Ev.argv_nila Go.Ev.argv_nils Go.Ev.argv_agg Go.Ev.argv_rs Go.Ev.argv_p Go.Ev.fk_low Go.Ev.appendTo_nils Go.Ev.appendTo_nila Go.Ev.appendTo_rs Go.Ev.consV_d Go.Ev.consV_agg Go.Ev.consV_p Go.Ev.consV_rs Go.Ev.consV_nila Go.Ev.consV_nils Go.Ev.consV_fn Go.Ev.consV_und Go.Ev.consV_jk Go.Ev.consV_grown Go.Ev.topR_grown Go.Ev.len_grown Go.Ev.consV_nilm Go.Ev.consV_mp Go.Ev.sameK_i Go.Ev.sameK_s Go.Ev.mget_0 Go.Ev.mget_hit Go.Ev.mget_miss Go.Ev.mput_0 Go.Ev.mput_hit Go.Ev.mput_miss Go.Ev.apartAll Go.Ev.apartL Go.Ev.apartV Go.Ev.freeAll Go.Ev.sel Go.Ev.keyOfV Go.Ev.evLookup Go.Ev.evPut Go.Ev.hintOk Go.Ev.keyOk Go.Ev.consP Go.Ev.lookV Go.Ev.guardV Go.Ev.dstAt Go.Ev.evPure Go.Ev.evStore Go.Ev.evBin Go.Ev.evBinO Go.Ev.evNil Go.Ev.isNilC Go.Ev.evUn Go.Ev.evConv Go.Ev.evSlice Go.Ev.optI Go.Ev.foldI Go.Ev.capsOk Go.Ev.noTup Go.Ev.nth Go.Ev.setN Go.Ev.killAt Go.Ev.pad Go.Ev.V.get Go.Ev.V.put Go.Ev.putD Go.Ev.newBlk Go.Ev.upd Go.Ev.keq Go.Ev.empty Go.Ev.evCall Go.Ev.V.args Go.Ev.argP Go.Ev.callOf Go.Ev.evNilP Go.Ev.isNilP Go.Ev.look Go.Ev.V.view.views Go.Ev.V.view Go.Ev.V.toD Go.Ev.V.toD.V.toDs Go.Ev.V.pure.pures Go.Ev.V.pure Go.Ev.D.flat.flats Go.Ev.D.flat Go.Ev.mkAgg Go.Ev.allD Go.Ev.aggParts Go.Ev.setParts Go.Ev.setElems Go.Ev.getPath Go.Ev.setPath Go.Ev.subL Go.Ev.eqD Go.Ev.eqD.eqDs Go.Ev.and2 Go.Ev.strCut Go.Ev.evalT Go.Ev.constT Go.Ev.evArgs Go.Ev.mask Go.Ev.maskOf Go.Ev.tableOf Go.Ev.compT Go.Ev.resV Go.Ev.retV Go.Ev.mapO Go.Ev.eT_nils Go.Ev.ag_t Go.Ev.ag_f Go.Ev.ag_0 Go.Ev.ag_n Go.Ev.mx_u64 Go.Ev.mx_u32 Go.Ev.mx_u16 Go.Ev.mx_u8 Go.Ev.sg_i64 Go.Ev.sg_i32 Go.Ev.sg_i16 Go.Ev.sg_i8 Go.Ev.sg_u64 Go.Ev.sg_u32 Go.Ev.sg_u16 Go.Ev.sg_u8 Go.Ev.mapE_i Go.Ev.mapV_nil Go.Ev.hT_nilm Go.Ev.mget_map Go.Ev.mput_map Go.Ev.mapV_put Go.Ev.mapV_half Go.Ev.hT_nila Go.Ev.eO_nila Go.Ev.pL_nila Go.Ev.evLen_gl Go.Ev.r_nila Go.Ev.frzO_n Go.Ev.frzO_e Go.Ev.frzO_r Go.Ev.frzO_0 Go.Ev.mb_z Go.Ev.mb_0 Go.Ev.mb_s Go.Ev.frzL_t Go.Ev.frzL_f Go.Ev.frzL_0 Go.Ev.frzT_nils Go.Ev.frzT_rs Go.Ev.frzT_p Go.Ev.frzK_i Go.Ev.keyIn_i Go.Ev.rI_nil Go.Ev.rI_cons Go.Ev.rI_row Go.Ev.rI_app Go.Ev.r_d Go.Ev.r_nils Go.Ev.r_agg Go.Ev.r_rs Go.Ev.r_gl Go.Ev.vw_row Go.Ev.vw_app Go.Ev.appO_s Go.Ev.frzT_gl Go.Ev.allD_gl Go.Ev.killAt_i Go.Ev.tkOne_i Go.Ev.hT_agg Go.Ev.hT_vagg Go.Ev.hT_int Go.Ev.hT_bool Go.Ev.hT_str Go.Ev.hT_sl Go.Ev.hT_ptr Go.Ev.hT_np Go.Ev.hT_p Go.Ev.hT_rs Go.Ev.hT_mp Go.Ev.hT_nils Go.Ev.hT_fn Go.Ev.hT_jk Go.Ev.hT_gl Go.Ev.eO_sl Go.Ev.eO_nils Go.Ev.eO_rs Go.Ev.eT_sl Go.Ev.eT_rs Go.Ev.pL_str Go.Ev.pL_sl Go.Ev.pL_rs Go.Ev.pL_nils Go.Ev.pL_min Go.Ev.pL_max Go.Ev.len_glB Go.Ev.noTup_gl Go.Ev.rowV_len Go.Ev.rowV_nil Go.Ev.rowV_cons Go.Ev.rowV_append Go.Ev.rowV_set Go.Ev.rowV_replicate Go.Ev.nth_row Go.Ev.row_take Go.Ev.row_drop Go.Ev.toDs_row Go.Ev.fin_row Go.Ev.map_row Go.Ev.map_take_ Go.Ev.map_drop_ Go.Ev.Bk_i Go.Ev.GlB_0 Go.Ev.GlB_mk Go.Ev.gl_nil Go.Ev.gl_cons Go.Ev.gl_snoc Go.Ev.gl_setN Go.Ev.appendTo_gl Go.Ev.consV_gl Go.Ev.elems_gl Go.Ev.fin_gl Go.Ev.view_gl Go.Ev.argv_gl Go.Ev.topR_gl Go.Ev.sp_z Go.Ev.sp_0 Go.Ev.sp_s Go.Ev.km_z Go.Ev.km_0 Go.Ev.km_s Go.Ev.beq_toList Go.Ev.nc0 Go.Ev.bq_t Go.Ev.bq_f Go.Ev.bodyN Go.Ev.le_maxRow Int.cast_ofNat_Int Go.IntWalk.i64_in Go.IntWalk.u64_in Go.IntWalk.u8_in beq_self_eq_true Bool.true_beq Bool.false_beq Bool.and_true Bool.true_and Bool.false_and Bool.and_false Bool.and_self Bool.not_true Bool.not_false Bool.not_eq_true cond_true cond_false if_true if_false and_true true_and and_self decide_true decide_false Bool.or_true Bool.true_or Bool.or_false Bool.false_or List.isEmpty List.isEmpty_nil List.size_toArray List.map List.length_map List.length_cons List.length_nil Option.map Option.bind Option.getD Option.isSome List.replicate Bool.false_eq_true implies_true false_implies forall_const Array.toList Array.isEmpty List.append List.nil_append List.cons_append List.drop_zero List.take_length List.take_succ_cons List.take_zero List.take_nil List.getElem?_map List.getElem?_cons_zero List.getElem?_cons_succ List.getElem?_nil List.append_nil eq_self Int.toNat_natCast List.length_append List.length_set Nat.zero_add Nat.add_zero List.length_replicate Nat.sub_zero Option.map_some Option.map_none Int.le_refl Nat.le_refl Int.natCast_nonneg List.map_append
attribute [local go_sem_proc] Nat.reduceAdd Nat.reduceSub Nat.reduceMul Nat.reduceEqDiff Nat.reduceBEq Nat.reduceLT Nat.reduceLeDiff Nat.reducePow Int.reduceToNat Int.reduceLT Int.reduceLE Int.reduceGT Int.reduceGE Int.reduceEq Int.reduceNeg Int.reduceAdd Int.reduceSub Int.reduceMul reduceCtorEq
attribute [local go_sem_proc ↓] reduceIte
section
set_option linter.unusedVariables false
set_option linter.unusedSimpArgs false
set_option maxRecDepth 100000
namespace Go.Proofs.Ytnojehmbiceceaa.P
open Go.Ev Go.IntKind Go.Proofs.Ytnojehmbiceceaa Go.Proofs.Ytnojehmbiceceaa.Ty Go.Proofs.Ytnojehmbiceceaa.E
def p_spyref3_SameRows_l0 (L : Nat) (a1 : List (Int × ((Int × Int × Bool × Unit) × (Int × Int × Bool × Unit) × (Int × Int × Bool × Unit) × Unit) × (Int × Int × Bool × Unit) × (Int × Int × Bool × Unit) × (List Int) × Int × Unit)) : List (Int × ((Int × Int × Bool × Unit) × (Int × Int × Bool × Unit) × (Int × Int × Bool × Unit) × Unit) × (Int × Int × Bool × Unit) × (Int × Int × Bool × Unit) × (List Int) × Int × Unit) → Int → Option (Sum Unit Unit)
  | [], s2 => some (.inl ())
  | x1 :: tl, s2 => bnd (idx a1 s2) fun x5 => bnd (p_spyref3_SameRow L x1.1 x1.2.1.1.1 x1.2.1.1.2.1 x1.2.1.1.2.2.1 x1.2.1.2.1.1 x1.2.1.2.1.2.1 x1.2.1.2.1.2.2.1 x1.2.1.2.2.1.1 x1.2.1.2.2.1.2.1 x1.2.1.2.2.1.2.2.1 x1.2.2.1.1 x1.2.2.1.2.1 x1.2.2.1.2.2.1 x1.2.2.2.1.1 x1.2.2.2.1.2.1 x1.2.2.2.1.2.2.1 x1.2.2.2.2.1 x1.2.2.2.2.2.1 x5.1 x5.2.1.1.1 x5.2.1.1.2.1 x5.2.1.1.2.2.1 x5.2.1.2.1.1 x5.2.1.2.1.2.1 x5.2.1.2.1.2.2.1 x5.2.1.2.2.1.1 x5.2.1.2.2.1.2.1 x5.2.1.2.2.1.2.2.1 x5.2.2.1.1 x5.2.2.1.2.1 x5.2.2.1.2.2.1 x5.2.2.2.1.1 x5.2.2.2.1.2.1 x5.2.2.2.1.2.2.1 x5.2.2.2.2.1 x5.2.2.2.2.2.1) fun r6 => cb r6 (p_spyref3_SameRows_l0 L a1 tl (s2 + 1)) (some (.inr ()))
def p_spyref3_SameRows (L : Nat) (a0 : List (Int × ((Int × Int × Bool × Unit) × (Int × Int × Bool × Unit) × (Int × Int × Bool × Unit) × Unit) × (Int × Int × Bool × Unit) × (Int × Int × Bool × Unit) × (List Int) × Int × Unit)) (a1 : List (Int × ((Int × Int × Bool × Unit) × (Int × Int × Bool × Unit) × (Int × Int × Bool × Unit) × Unit) × (Int × Int × Bool × Unit) × (Int × Int × Bool × Unit) × (List Int) × Int × Unit)) : Option Bool := cb (decide ((a0.length : Int) = (a1.length : Int))) (rq (a0.length < L) <| bnd (p_spyref3_SameRows_l0 L a1 a0 0) fun o7 => match o7 with | (.inl o7_0) => (some true) | (.inr o7_1) => (some false)) (some false)
noncomputable def G_spyref3_SameRows (L : Nat) : Specs := [(48, s_spyref3_SameRow L)]
noncomputable def T_spyref3_SameRows : Table := tableOf [(43, en43), (123, en123)]
theorem Go_spyref3_SameRows (L : Nat) (hL : L ≤ 4611686018427387904) : ∀ g s, Ev.look (G_spyref3_SameRows L) g = some s → SpecOk Try.prog g s := (specs_cons (ok_spyref3_SameRow L hL) specs_nil)
theorem To_spyref3_SameRows (L : Nat) : TableOk Try.prog ((G_spyref3_SameRows L).map (·.1)) T_spyref3_SameRows := (table_cons Try.func43 (by kernel_rfl) (by kernel_rfl) (table_cons Try.func123 (by kernel_rfl) (by kernel_rfl) table_nil))
theorem lk_spyref3_SameRows_48 (L : Nat) : Ev.look (G_spyref3_SameRows L) 48 = some (s_spyref3_SameRow L) := nr rfl
theorem lk_spyref3_SameRows_123 (L : Nat) : Ev.look (G_spyref3_SameRows L) 123 = none := nr rfl
theorem in_spyref3_SameRows_123 (L c lv : Nat) (xs : List V) (st : Store) : evF Try.prog (G_spyref3_SameRows L) T_spyref3_SameRows L (c + 1) 123 xs lv st = outR Try.prog Try.f123.results.toList (evC Try.prog (G_spyref3_SameRows L) (evF Try.prog (G_spyref3_SameRows L) T_spyref3_SameRows L c) L en123.ms lv 0 (bodyN Try.f123) (pad xs Try.f123.ntmps) st) := evF_s (hT := by rfl) (hb := by rfl) ..
attribute [local go_sem] Ty.tk3 Ty.ik3 Ty.ek3 Ty.zv3 Ty.by3 Ty.so3 Ty.tk4 Ty.ub4 Ty.ek4 Ty.zv4 Ty.by4 Ty.so4 Ty.tk22 Ty.zv22 Ty.by22 Ty.so22 Ty.tk24 Ty.ik24 Ty.ek24 Ty.zv24 Ty.by24 Ty.so24 Ty.tk35 Ty.ct35 Ty.ek35 Ty.zv35 Ty.by35 Ty.so35 Ty.tk62 Ty.ik62 Ty.ek62 Ty.zv62 Ty.by62 Ty.so62 Ty.tk64 Ty.ct64 Ty.ek64 Ty.zv64 Ty.by64 Ty.so64 Ty.tk66 Ty.ct66 Ty.ek66 Ty.zv66 Ty.by66 Ty.so66 Ty.tk70 Ty.zv70 Ty.by70 Ty.so70 Ty.tk72 Ty.ik72 Ty.ek72 Ty.zv72 Ty.by72 Ty.so72 Ty.tk87 Ty.ct87 Ty.ek87 Ty.zv87 Ty.by87 Ty.so87 Ty.tk89 Ty.ct89 Ty.zv89 Ty.by89 Ty.so89 Ty.tk91 Ty.zv91 Ty.by91 Ty.so91 Ty.k22_e Ty.k35_e Ty.k64_e Ty.k66_e Ty.k70_e Ty.k87_e Ty.k89_e E.mk43_1000000 E.mk123_0 E.mk123_1000001 E.mk123_1000002 E.mk123_1000000 E.fz123_0 E.fi123_0 E.lb123_0 lk_spyref3_SameRows_48 lk_spyref3_SameRows_123 in_spyref3_SameRows_123 s_spyref3_SameRow_run loopN loops Try.f43 Try.f123
def Q0_p_spyref3_SameRows_l0 (a1 : List (Int × ((Int × Int × Bool × Unit) × (Int × Int × Bool × Unit) × (Int × Int × Bool × Unit) × Unit) × (Int × Int × Bool × Unit) × (Int × Int × Bool × Unit) × (List Int) × Int × Unit)) (a0 : List (Int × ((Int × Int × Bool × Unit) × (Int × Int × Bool × Unit) × (Int × Int × Bool × Unit) × Unit) × (Int × Int × Bool × Unit) × (Int × Int × Bool × Unit) × (List Int) × Int × Unit)) (u : Unit) (z : Out) : Prop := ∃ env st, z = some (.exit 0, env, st) ∧ env = sp 32 0 []
def Q1_p_spyref3_SameRows_l0 (a1 : List (Int × ((Int × Int × Bool × Unit) × (Int × Int × Bool × Unit) × (Int × Int × Bool × Unit) × Unit) × (Int × Int × Bool × Unit) × (Int × Int × Bool × Unit) × (List Int) × Int × Unit)) (a0 : List (Int × ((Int × Int × Bool × Unit) × (Int × Int × Bool × Unit) × (Int × Int × Bool × Unit) × Unit) × (Int × Int × Bool × Unit) × (Int × Int × Bool × Unit) × (List Int) × Int × Unit)) (u : Unit) (z : Out) : Prop := ∃ env st, z = some (.ret, env, st) ∧ env = sp 32 0 [(6, .d (.bool false))]
def Q_p_spyref3_SameRows_l0 (a1 : List (Int × ((Int × Int × Bool × Unit) × (Int × Int × Bool × Unit) × (Int × Int × Bool × Unit) × Unit) × (Int × Int × Bool × Unit) × (Int × Int × Bool × Unit) × (List Int) × Int × Unit)) (a0 : List (Int × ((Int × Int × Bool × Unit) × (Int × Int × Bool × Unit) × (Int × Int × Bool × Unit) × Unit) × (Int × Int × Bool × Unit) × (Int × Int × Bool × Unit) × (List Int) × Int × Unit)) (o : Sum Unit Unit) (z : Out) : Prop := match o with | (.inl u) => Q0_p_spyref3_SameRows_l0 a1 a0 u z | (.inr u) => Q1_p_spyref3_SameRows_l0 a1 a0 u z
theorem l_p_spyref3_SameRows_l0 (L : Nat) (hL : L ≤ 4611686018427387904) (a1 : List (Int × ((Int × Int × Bool × Unit) × (Int × Int × Bool × Unit) × (Int × Int × Bool × Unit) × Unit) × (Int × Int × Bool × Unit) × (Int × Int × Bool × Unit) × (List Int) × Int × Unit)) (a0 : List (Int × ((Int × Int × Bool × Unit) × (Int × Int × Bool × Unit) × (Int × Int × Bool × Unit) × Unit) × (Int × Int × Bool × Unit) × (Int × Int × Bool × Unit) × (List Int) × Int × Unit)) : ∀ (tl : List (Int × ((Int × Int × Bool × Unit) × (Int × Int × Bool × Unit) × (Int × Int × Bool × Unit) × Unit) × (Int × Int × Bool × Unit) × (Int × Int × Bool × Unit) × (List Int) × Int × Unit)) (n : Nat) (s2 : Int) (env : List V) (st : Store) (o : Sum Unit Unit), tl.length < n → Rng a0 s2 tl → mask (maskOf en123.ms 0) env = sp 32 0 [(1, .d (.sl 89 (a1.map k89.e))), (2, .fn 48 []), (15, .d (.sl 89 (a0.map k89.e))), (16, .d (.int .i64 (a0.length : Int))), (17, .d (.int .i64 s2))] → p_spyref3_SameRows_l0 L a1 tl s2  = some o →
    Q_p_spyref3_SameRows_l0 a1 a0 o (iter (evC Try.prog (G_spyref3_SameRows L) (evF Try.prog (G_spyref3_SameRows L) T_spyref3_SameRows L 0) L en123.ms 8 0 lb123_0) (maskOf en123.ms 0) n env st) := by
  intro tl
  induction tl with
  | nil =>
    intro n s2  env st o hn hR he  h
    obtain ⟨n, rfl⟩ : ∃ m, n = m + 1 := ⟨n - 1, by omega⟩
    have g0 := rng_nil hR
    rw [iter, he]
    clear he
    generalize hK : iter _ _ n = K
    rw [p_spyref3_SameRows_l0] at h
    revert h
    rintro ⟨⟩
    simp only [go_sem, *]
    refine (⟨_, _, rfl, ?_⟩ : Q0_p_spyref3_SameRows_l0 _ _ _ _)
    all_goals simp only [go_sem, *]
  | cons x1 tl ih =>
    intro n s2  env st o hn hR he  h
    obtain ⟨n, rfl⟩ : ∃ m, n = m + 1 := ⟨n - 1, by omega⟩
    replace ih : Hold _ := ih
    replace hR := rng_s hR
    obtain ⟨g0, g1, g2, g3, hR⟩ := hR
    rw [iter, he]
    clear he
    generalize hK : iter _ _ n = K
    rw [p_spyref3_SameRows_l0] at h
    revert h
    refine idx_i fun x5 c1 c2 c3 => ?_
    refine bnd_i fun r6 c4 => ?_
    refine cb_i (fun c5 => ?_) (fun c5 => ?_)
    · intro h
      simp only [go_sem, *]
      subst hK
      refine ih n (s2 + 1)  _ _ _ (by simp only [List.length_cons] at hn; omega) hR ?_ h
      all_goals simp only [go_sem, *]
    · rintro ⟨⟩
      simp only [go_sem, *]
      refine (⟨_, _, rfl, ?_⟩ : Q1_p_spyref3_SameRows_l0 _ _ _ _)
      all_goals simp only [go_sem, *]
theorem e_spyref3_SameRows (L : Nat) (hL : L ≤ 4611686018427387904) (a0 : List (Int × ((Int × Int × Bool × Unit) × (Int × Int × Bool × Unit) × (Int × Int × Bool × Unit) × Unit) × (Int × Int × Bool × Unit) × (Int × Int × Bool × Unit) × (List Int) × Int × Unit)) (a1 : List (Int × ((Int × Int × Bool × Unit) × (Int × Int × Bool × Unit) × (Int × Int × Bool × Unit) × Unit) × (Int × Int × Bool × Unit) × (Int × Int × Bool × Unit) × (List Int) × Int × Unit)) (res : Bool) (h : p_spyref3_SameRows L a0 a1 = some res) : evTop Try.prog (G_spyref3_SameRows L) T_spyref3_SameRows L 2 43 [.sl 89 (a0.map k89.e), .sl 89 (a1.map k89.e)] = some [.bool res] := by
  revert h
  unfold p_spyref3_SameRows evTop
  simp only [List.map]
  rw [evF_s (fn := Try.f43) (msk := en43.ms) (hT := by rfl) (hb := by rfl)]
  refine cb_i (fun c1 => ?_) (fun c1 => ?_)
  · refine rq_i fun c2 => ?_
    refine bnd_i fun o7 ho3 => ?_
    intro h
    simp only [go_sem, *]
    generalize hz5 : iter _ _ _ _ _ = z4
    have hq6 : Q_p_spyref3_SameRows_l0 a1 a0 o7 z4 := by
      rw [← hz5]
      refine l_p_spyref3_SameRows_l0 L hL a1 a0 a0 L 0  _ _ _ c2 (rng_0 c2 hL) ?_ ho3
      all_goals simp only [go_sem, *]
    clear hz5 ho3
    rcases o7 with o7_0 | o7_1
    · obtain ⟨_, st8, rfl, rfl⟩ := hq6
      dsimp only at h
      revert h
      rintro ⟨⟩
      simp only [go_sem, *]
    · obtain ⟨_, st9, rfl, rfl⟩ := hq6
      dsimp only at h
      revert h
      rintro ⟨⟩
      simp only [go_sem, *]
  · rintro ⟨⟩
    simp only [go_sem, *]
noncomputable def s_spyref3_SameRows (L : Nat) : Ev.Spec := specP (cCons k70 (cCons k70 cNil)) (fun x => p_spyref3_SameRows L x.1 x.2.1) (fun r => [.bool r])
theorem s_spyref3_SameRows_run (L : Nat) (a0 : List (Int × ((Int × Int × Bool × Unit) × (Int × Int × Bool × Unit) × (Int × Int × Bool × Unit) × Unit) × (Int × Int × Bool × Unit) × (Int × Int × Bool × Unit) × (List Int) × Int × Unit)) (a1 : List (Int × ((Int × Int × Bool × Unit) × (Int × Int × Bool × Unit) × (Int × Int × Bool × Unit) × Unit) × (Int × Int × Bool × Unit) × (Int × Int × Bool × Unit) × (List Int) × Int × Unit)) : (s_spyref3_SameRows L).run [.sl 89 (a0.map k89.e), .sl 89 (a1.map k89.e)] = (p_spyref3_SameRows L a0 a1).map fun r => [.bool r] := specP_run (cCons k70 (cCons k70 cNil)) (fun x => p_spyref3_SameRows L x.1 x.2.1) (fun r => [.bool r]) (a0, a1, ())
theorem ok_spyref3_SameRows (L : Nat) (hL : L ≤ 4611686018427387904) : SpecOk Try.prog 43 (s_spyref3_SameRows L) := specP_ok mixed (Go_spyref3_SameRows L hL) (To_spyref3_SameRows L) fun x r h => ⟨L, 2, e_spyref3_SameRows L hL x.1 x.2.1 r h⟩
end Go.Proofs.Ytnojehmbiceceaa.P
end
section
set_option linter.unusedVariables false
set_option linter.unusedSimpArgs false
set_option maxRecDepth 100000
namespace Go.Proofs.Ytnojehmbiceceaa.P
open Go.Ev Go.IntKind Go.Proofs.Ytnojehmbiceceaa Go.Proofs.Ytnojehmbiceceaa.Ty Go.Proofs.Ytnojehmbiceceaa.E
def p_catalog_Same (L : Nat) (a0_0 : Int) (a0_1_0_0 : Int) (a0_1_0_1 : Int) (a0_1_0_2 : Bool) (a0_1_1_0 : Int) (a0_1_1_1 : Int) (a0_1_1_2 : Bool) (a0_1_2_0 : Int) (a0_1_2_1 : Int) (a0_1_2_2 : Bool) (a0_2_0 : Int) (a0_2_1 : Int) (a0_2_2 : Bool) (a0_3_0 : Int) (a0_3_1 : Int) (a0_3_2 : Bool) (a0_4 : List Int) (a0_5 : Int) (a1_0 : Int) (a1_1_0_0 : Int) (a1_1_0_1 : Int) (a1_1_0_2 : Bool) (a1_1_1_0 : Int) (a1_1_1_1 : Int) (a1_1_1_2 : Bool) (a1_1_2_0 : Int) (a1_1_2_1 : Int) (a1_1_2_2 : Bool) (a1_2_0 : Int) (a1_2_1 : Int) (a1_2_2 : Bool) (a1_3_0 : Int) (a1_3_1 : Int) (a1_3_2 : Bool) (a1_4 : List Int) (a1_5 : Int) : Option Bool := cb (decide (a0_0 = a1_0)) (cb (((decide (a0_1_0_0 = a1_1_0_0)) && ((decide (a0_1_0_1 = a1_1_0_1)) && (a0_1_0_2 == a1_1_0_2))) && (((decide (a0_1_1_0 = a1_1_1_0)) && ((decide (a0_1_1_1 = a1_1_1_1)) && (a0_1_1_2 == a1_1_1_2))) && ((decide (a0_1_2_0 = a1_1_2_0)) && ((decide (a0_1_2_1 = a1_1_2_1)) && (a0_1_2_2 == a1_1_2_2))))) (cb ((decide (a0_2_0 = a1_2_0)) && ((decide (a0_2_1 = a1_2_1)) && (a0_2_2 == a1_2_2))) (cb ((decide (a0_3_0 = a1_3_0)) && ((decide (a0_3_1 = a1_3_1)) && (a0_3_2 == a1_3_2))) (cb (decide (a0_5 = a1_5)) (bnd (p_slices_Equal_int L a0_4 a1_4) fun r1 => some r1) (some false)) (some false)) (some false)) (some false)) (some false)
noncomputable def G_catalog_Same (L : Nat) : Specs := [(25, s_slices_Equal_int L)]
noncomputable def T_catalog_Same : Table := tableOf [(47, en47)]
theorem Go_catalog_Same (L : Nat) (hL : L ≤ 4611686018427387904) : ∀ g s, Ev.look (G_catalog_Same L) g = some s → SpecOk Try.prog g s := (specs_cons (ok_slices_Equal_int L hL) specs_nil)
theorem To_catalog_Same (L : Nat) : TableOk Try.prog ((G_catalog_Same L).map (·.1)) T_catalog_Same := (table_cons Try.func47 (by kernel_rfl) (by kernel_rfl) table_nil)
theorem lk_catalog_Same_25 (L : Nat) : Ev.look (G_catalog_Same L) 25 = some (s_slices_Equal_int L) := nr rfl
attribute [local go_sem] Ty.tk3 Ty.ik3 Ty.ek3 Ty.zv3 Ty.by3 Ty.so3 Ty.tk4 Ty.ub4 Ty.ek4 Ty.zv4 Ty.by4 Ty.so4 Ty.tk22 Ty.zv22 Ty.by22 Ty.so22 Ty.tk24 Ty.ik24 Ty.ek24 Ty.zv24 Ty.by24 Ty.so24 Ty.tk35 Ty.ct35 Ty.ek35 Ty.zv35 Ty.by35 Ty.so35 Ty.tk62 Ty.ik62 Ty.ek62 Ty.zv62 Ty.by62 Ty.so62 Ty.tk64 Ty.ct64 Ty.ek64 Ty.zv64 Ty.by64 Ty.so64 Ty.tk66 Ty.ct66 Ty.ek66 Ty.zv66 Ty.by66 Ty.so66 Ty.tk72 Ty.ik72 Ty.ek72 Ty.zv72 Ty.by72 Ty.so72 Ty.tk87 Ty.ct87 Ty.ek87 Ty.zv87 Ty.by87 Ty.so87 Ty.tk89 Ty.ct89 Ty.zv89 Ty.by89 Ty.so89 Ty.k22_e Ty.k35_e Ty.k64_e Ty.k66_e Ty.k87_e Ty.k89_e E.mk47_1000000 lk_catalog_Same_25 s_slices_Equal_int_run loopN loops Try.f47
theorem e_catalog_Same (L : Nat) (hL : L ≤ 4611686018427387904) (a0_0 : Int) (a0_1_0_0 : Int) (a0_1_0_1 : Int) (a0_1_0_2 : Bool) (a0_1_1_0 : Int) (a0_1_1_1 : Int) (a0_1_1_2 : Bool) (a0_1_2_0 : Int) (a0_1_2_1 : Int) (a0_1_2_2 : Bool) (a0_2_0 : Int) (a0_2_1 : Int) (a0_2_2 : Bool) (a0_3_0 : Int) (a0_3_1 : Int) (a0_3_2 : Bool) (a0_4 : List Int) (a0_5 : Int) (a1_0 : Int) (a1_1_0_0 : Int) (a1_1_0_1 : Int) (a1_1_0_2 : Bool) (a1_1_1_0 : Int) (a1_1_1_1 : Int) (a1_1_1_2 : Bool) (a1_1_2_0 : Int) (a1_1_2_1 : Int) (a1_1_2_2 : Bool) (a1_2_0 : Int) (a1_2_1 : Int) (a1_2_2 : Bool) (a1_3_0 : Int) (a1_3_1 : Int) (a1_3_2 : Bool) (a1_4 : List Int) (a1_5 : Int) (res : Bool) (h : p_catalog_Same L a0_0 a0_1_0_0 a0_1_0_1 a0_1_0_2 a0_1_1_0 a0_1_1_1 a0_1_1_2 a0_1_2_0 a0_1_2_1 a0_1_2_2 a0_2_0 a0_2_1 a0_2_2 a0_3_0 a0_3_1 a0_3_2 a0_4 a0_5 a1_0 a1_1_0_0 a1_1_0_1 a1_1_0_2 a1_1_1_0 a1_1_1_1 a1_1_1_2 a1_1_2_0 a1_1_2_1 a1_1_2_2 a1_2_0 a1_2_1 a1_2_2 a1_3_0 a1_3_1 a1_3_2 a1_4 a1_5 = some res) : evTop Try.prog (G_catalog_Same L) T_catalog_Same L 1 47 [.agg 89 [.int .i64 a0_0, .agg 66 [.agg 64 [.int .i64 a0_1_0_0, .int .i64 a0_1_0_1, .bool a0_1_0_2], .agg 64 [.int .i64 a0_1_1_0, .int .i64 a0_1_1_1, .bool a0_1_1_2], .agg 64 [.int .i64 a0_1_2_0, .int .i64 a0_1_2_1, .bool a0_1_2_2]], .agg 35 [.int .i64 a0_2_0, .int .i64 a0_2_1, .bool a0_2_2], .agg 87 [.int .i64 a0_3_0, .int .i64 a0_3_1, .bool a0_3_2], .sl 3 (a0_4.map (D.int .i64)), .int .i64 a0_5], .agg 89 [.int .i64 a1_0, .agg 66 [.agg 64 [.int .i64 a1_1_0_0, .int .i64 a1_1_0_1, .bool a1_1_0_2], .agg 64 [.int .i64 a1_1_1_0, .int .i64 a1_1_1_1, .bool a1_1_1_2], .agg 64 [.int .i64 a1_1_2_0, .int .i64 a1_1_2_1, .bool a1_1_2_2]], .agg 35 [.int .i64 a1_2_0, .int .i64 a1_2_1, .bool a1_2_2], .agg 87 [.int .i64 a1_3_0, .int .i64 a1_3_1, .bool a1_3_2], .sl 3 (a1_4.map (D.int .i64)), .int .i64 a1_5]] = some [.bool res] := by
  revert h
  unfold p_catalog_Same evTop
  simp only [List.map]
  rw [evF_s (fn := Try.f47) (msk := en47.ms) (hT := by rfl) (hb := by rfl)]
  refine cb_i (fun c1 => ?_) (fun c1 => ?_)
  · refine cb_i (fun c2 => ?_) (fun c2 => ?_)
    · refine cb_i (fun c3 => ?_) (fun c3 => ?_)
      · refine cb_i (fun c4 => ?_) (fun c4 => ?_)
        · refine cb_i (fun c5 => ?_) (fun c5 => ?_)
          · refine bnd_i fun r1 c6 => ?_
            rintro ⟨⟩
            simp only [go_sem, *]
          · rintro ⟨⟩
            simp only [go_sem, *]
        · rintro ⟨⟩
          simp only [go_sem, *]
      · rintro ⟨⟩
        simp only [go_sem, *]
    · rintro ⟨⟩
      simp only [go_sem, *]
  · rintro ⟨⟩
    simp only [go_sem, *]
noncomputable def s_catalog_Same (L : Nat) : Ev.Spec := specP (cCons k89 (cCons k89 cNil)) (fun x => p_catalog_Same L x.1.1 x.1.2.1.1.1 x.1.2.1.1.2.1 x.1.2.1.1.2.2.1 x.1.2.1.2.1.1 x.1.2.1.2.1.2.1 x.1.2.1.2.1.2.2.1 x.1.2.1.2.2.1.1 x.1.2.1.2.2.1.2.1 x.1.2.1.2.2.1.2.2.1 x.1.2.2.1.1 x.1.2.2.1.2.1 x.1.2.2.1.2.2.1 x.1.2.2.2.1.1 x.1.2.2.2.1.2.1 x.1.2.2.2.1.2.2.1 x.1.2.2.2.2.1 x.1.2.2.2.2.2.1 x.2.1.1 x.2.1.2.1.1.1 x.2.1.2.1.1.2.1 x.2.1.2.1.1.2.2.1 x.2.1.2.1.2.1.1 x.2.1.2.1.2.1.2.1 x.2.1.2.1.2.1.2.2.1 x.2.1.2.1.2.2.1.1 x.2.1.2.1.2.2.1.2.1 x.2.1.2.1.2.2.1.2.2.1 x.2.1.2.2.1.1 x.2.1.2.2.1.2.1 x.2.1.2.2.1.2.2.1 x.2.1.2.2.2.1.1 x.2.1.2.2.2.1.2.1 x.2.1.2.2.2.1.2.2.1 x.2.1.2.2.2.2.1 x.2.1.2.2.2.2.2.1) (fun r => [.bool r])
theorem s_catalog_Same_run (L : Nat) (a0_0 : Int) (a0_1_0_0 : Int) (a0_1_0_1 : Int) (a0_1_0_2 : Bool) (a0_1_1_0 : Int) (a0_1_1_1 : Int) (a0_1_1_2 : Bool) (a0_1_2_0 : Int) (a0_1_2_1 : Int) (a0_1_2_2 : Bool) (a0_2_0 : Int) (a0_2_1 : Int) (a0_2_2 : Bool) (a0_3_0 : Int) (a0_3_1 : Int) (a0_3_2 : Bool) (a0_4 : List Int) (a0_5 : Int) (a1_0 : Int) (a1_1_0_0 : Int) (a1_1_0_1 : Int) (a1_1_0_2 : Bool) (a1_1_1_0 : Int) (a1_1_1_1 : Int) (a1_1_1_2 : Bool) (a1_1_2_0 : Int) (a1_1_2_1 : Int) (a1_1_2_2 : Bool) (a1_2_0 : Int) (a1_2_1 : Int) (a1_2_2 : Bool) (a1_3_0 : Int) (a1_3_1 : Int) (a1_3_2 : Bool) (a1_4 : List Int) (a1_5 : Int) : (s_catalog_Same L).run [.agg 89 [.int .i64 a0_0, .agg 66 [.agg 64 [.int .i64 a0_1_0_0, .int .i64 a0_1_0_1, .bool a0_1_0_2], .agg 64 [.int .i64 a0_1_1_0, .int .i64 a0_1_1_1, .bool a0_1_1_2], .agg 64 [.int .i64 a0_1_2_0, .int .i64 a0_1_2_1, .bool a0_1_2_2]], .agg 35 [.int .i64 a0_2_0, .int .i64 a0_2_1, .bool a0_2_2], .agg 87 [.int .i64 a0_3_0, .int .i64 a0_3_1, .bool a0_3_2], .sl 3 (a0_4.map (D.int .i64)), .int .i64 a0_5], .agg 89 [.int .i64 a1_0, .agg 66 [.agg 64 [.int .i64 a1_1_0_0, .int .i64 a1_1_0_1, .bool a1_1_0_2], .agg 64 [.int .i64 a1_1_1_0, .int .i64 a1_1_1_1, .bool a1_1_1_2], .agg 64 [.int .i64 a1_1_2_0, .int .i64 a1_1_2_1, .bool a1_1_2_2]], .agg 35 [.int .i64 a1_2_0, .int .i64 a1_2_1, .bool a1_2_2], .agg 87 [.int .i64 a1_3_0, .int .i64 a1_3_1, .bool a1_3_2], .sl 3 (a1_4.map (D.int .i64)), .int .i64 a1_5]] = (p_catalog_Same L a0_0 a0_1_0_0 a0_1_0_1 a0_1_0_2 a0_1_1_0 a0_1_1_1 a0_1_1_2 a0_1_2_0 a0_1_2_1 a0_1_2_2 a0_2_0 a0_2_1 a0_2_2 a0_3_0 a0_3_1 a0_3_2 a0_4 a0_5 a1_0 a1_1_0_0 a1_1_0_1 a1_1_0_2 a1_1_1_0 a1_1_1_1 a1_1_1_2 a1_1_2_0 a1_1_2_1 a1_1_2_2 a1_2_0 a1_2_1 a1_2_2 a1_3_0 a1_3_1 a1_3_2 a1_4 a1_5).map fun r => [.bool r] := specP_run (cCons k89 (cCons k89 cNil)) (fun x => p_catalog_Same L x.1.1 x.1.2.1.1.1 x.1.2.1.1.2.1 x.1.2.1.1.2.2.1 x.1.2.1.2.1.1 x.1.2.1.2.1.2.1 x.1.2.1.2.1.2.2.1 x.1.2.1.2.2.1.1 x.1.2.1.2.2.1.2.1 x.1.2.1.2.2.1.2.2.1 x.1.2.2.1.1 x.1.2.2.1.2.1 x.1.2.2.1.2.2.1 x.1.2.2.2.1.1 x.1.2.2.2.1.2.1 x.1.2.2.2.1.2.2.1 x.1.2.2.2.2.1 x.1.2.2.2.2.2.1 x.2.1.1 x.2.1.2.1.1.1 x.2.1.2.1.1.2.1 x.2.1.2.1.1.2.2.1 x.2.1.2.1.2.1.1 x.2.1.2.1.2.1.2.1 x.2.1.2.1.2.1.2.2.1 x.2.1.2.1.2.2.1.1 x.2.1.2.1.2.2.1.2.1 x.2.1.2.1.2.2.1.2.2.1 x.2.1.2.2.1.1 x.2.1.2.2.1.2.1 x.2.1.2.2.1.2.2.1 x.2.1.2.2.2.1.1 x.2.1.2.2.2.1.2.1 x.2.1.2.2.2.1.2.2.1 x.2.1.2.2.2.2.1 x.2.1.2.2.2.2.2.1) (fun r => [.bool r]) ((a0_0, ((a0_1_0_0, a0_1_0_1, a0_1_0_2, ()), (a0_1_1_0, a0_1_1_1, a0_1_1_2, ()), (a0_1_2_0, a0_1_2_1, a0_1_2_2, ()), ()), (a0_2_0, a0_2_1, a0_2_2, ()), (a0_3_0, a0_3_1, a0_3_2, ()), a0_4, a0_5, ()), (a1_0, ((a1_1_0_0, a1_1_0_1, a1_1_0_2, ()), (a1_1_1_0, a1_1_1_1, a1_1_1_2, ()), (a1_1_2_0, a1_1_2_1, a1_1_2_2, ()), ()), (a1_2_0, a1_2_1, a1_2_2, ()), (a1_3_0, a1_3_1, a1_3_2, ()), a1_4, a1_5, ()), ())
theorem ok_catalog_Same (L : Nat) (hL : L ≤ 4611686018427387904) : SpecOk Try.prog 47 (s_catalog_Same L) := specP_ok mixed (Go_catalog_Same L hL) (To_catalog_Same L) fun x r h => ⟨L, 1, e_catalog_Same L hL x.1.1 x.1.2.1.1.1 x.1.2.1.1.2.1 x.1.2.1.1.2.2.1 x.1.2.1.2.1.1 x.1.2.1.2.1.2.1 x.1.2.1.2.1.2.2.1 x.1.2.1.2.2.1.1 x.1.2.1.2.2.1.2.1 x.1.2.1.2.2.1.2.2.1 x.1.2.2.1.1 x.1.2.2.1.2.1 x.1.2.2.1.2.2.1 x.1.2.2.2.1.1 x.1.2.2.2.1.2.1 x.1.2.2.2.1.2.2.1 x.1.2.2.2.2.1 x.1.2.2.2.2.2.1 x.2.1.1 x.2.1.2.1.1.1 x.2.1.2.1.1.2.1 x.2.1.2.1.1.2.2.1 x.2.1.2.1.2.1.1 x.2.1.2.1.2.1.2.1 x.2.1.2.1.2.1.2.2.1 x.2.1.2.1.2.2.1.1 x.2.1.2.1.2.2.1.2.1 x.2.1.2.1.2.2.1.2.2.1 x.2.1.2.2.1.1 x.2.1.2.2.1.2.1 x.2.1.2.2.1.2.2.1 x.2.1.2.2.2.1.1 x.2.1.2.2.2.1.2.1 x.2.1.2.2.2.1.2.2.1 x.2.1.2.2.2.2.1 x.2.1.2.2.2.2.2.1 r h⟩
end Go.Proofs.Ytnojehmbiceceaa.P
end
end
