/- Parts of one proof, joined: G99, E126, E82, G82, G126, E97. -/
import Derived.Test.YtjplkbeolakbjaaMCleanCombines6
import Derived.Test.YtjplkbeolakbjaaProg
section
set_option linter.unusedVariables false
set_option linter.unusedSimpArgs false
set_option maxRecDepth 100000
namespace Go.Proofs.Ytjplkbeolakbjaa.P
open Go.Ev Go.IntKind Go.Proofs.Ytjplkbeolakbjaa Go.Proofs.Ytjplkbeolakbjaa.Ty Go.Proofs.Ytjplkbeolakbjaa.E
def p_bound_Fuse_Quanta_l0 (L : Nat)  : List (Int × Int × Bool × Unit) → (List Int) → Option (List Int)
  | [], s4 => some s4
  | x1 :: tl, s4 => bnd (p_bound_vague_Quanta L x1.1 x1.2.1 x1.2.2.1 x1.1 x1.2.1 x1.2.2.1) fun r6 => cb r6 (p_bound_Fuse_Quanta_l0 L  tl s4) (rq (s4.length + 2 ≤ maxRow) <| rq ((s4.length + 2) * 8 ≤ maxRow) <| p_bound_Fuse_Quanta_l0 L  tl (s4 ++ [x1.1, x1.2.1]))
def p_bound_Fuse_Quanta_l1 (L : Nat) (a0 : List (Int × Int × Bool × Unit)) (a18 : Int) (o7 : List Int) : Nat → Int → Option (Sum Unit Int)
  | 0, s17 => some (.inl ())
  | tl + 1, s17 => bnd (idx o7 s17) fun x21 => bnd (p_bound_Votes_Quanta L a0 x21) fun r22 => if r22 < a18 then (some (.inr s17)) else (p_bound_Fuse_Quanta_l1 L a0 a18 o7 tl (s17 + 1))
def p_bound_Fuse_Quanta_l2 (L : Nat) (a0 : List (Int × Int × Bool × Unit)) (a40 : Int) : Nat → Int → Int → (List Int) → Option (Int × (List Int))
  | 0, _, _, _ => none
  | tl + 1, s44, s45, s46 => if s45 < (s46.length : Int) then (bnd (idx s46 s45) fun x50 => bnd (p_bound_Votes_Quanta L a0 x50) fun r51 => if r51 < a40 then (p_bound_Fuse_Quanta_l2 L a0 a40 tl s44 (i64.wrap (s45 + 1)) s46) else (bnd (idx s46 s44) fun x52 => p_bound_Fuse_Quanta_l2 L a0 a40 tl (i64.wrap (s44 + 1)) (i64.wrap (s45 + 1)) (s46.set s44.toNat x50))) else (some (s44, s46))
def p_bound_Fuse_Quanta (L : Nat) (a0 : List (Int × Int × Bool × Unit)) (a1 : Int) : Option (Int × Int × Bool) := rq (a0.length < L) <| bnd (p_bound_Fuse_Quanta_l0 L a0 ([])) fun o7 => if a1 < 0 then (bnd (p_bound_None_Quanta L) fun r9 => some (r9.1, r9.2.1, r9.2.2)) else (if (i64.wrap ((i64.wrap ((o7.length : Int).tdiv 2)) - a1)) ≤ 0 then (bnd (p_bound_None_Quanta L) fun r10 => some (r10.1, r10.2.1, r10.2.2)) else (rq ((o7.length : Int).toNat < L) <| rq ((o7.length : Int) < 4611686018427387904) <| bnd (p_bound_Fuse_Quanta_l1 L a0 (i64.wrap ((i64.wrap ((o7.length : Int).tdiv 2)) - a1)) o7 (o7.length : Int).toNat 0) fun o23 => match o23 with | (.inl o23_0) => (cb (decide ((o7.length : Int) = 0)) (bnd (p_bound_None_Quanta L) fun r25 => some (r25.1, r25.2.1, r25.2.2)) (bnd (p_slices_Min_Quanta L o7) fun r26 => bnd (p_slices_Max_Quanta L o7) fun r27 => bnd (p_bound_Of_Quanta L r26 r27) fun r28 => some (r28.1, r28.2.1, r28.2.2))) | (.inr o23_1) => (cb (decide (o23_1 = (-1))) (cb (decide ((o7.length : Int) = 0)) (bnd (p_bound_None_Quanta L) fun r30 => some (r30.1, r30.2.1, r30.2.2)) (bnd (p_slices_Min_Quanta L o7) fun r31 => bnd (p_slices_Max_Quanta L o7) fun r32 => bnd (p_bound_Of_Quanta L r31 r32) fun r33 => some (r33.1, r33.2.1, r33.2.2))) (bnd (p_bound_Fuse_Quanta_l2 L a0 (i64.wrap ((i64.wrap ((o7.length : Int).tdiv 2)) - a1)) L o23_1 (i64.wrap (o23_1 + 1)) o7) fun o53 => rq (¬ o53.2.length = 0) <| rq (0 ≤ o53.1) <| rq (o53.1 ≤ (o53.2.length : Int)) <| rq (o53.1.toNat + (o53.2.length - o53.1.toNat) ≤ o53.2.length) <| cb (decide (((o53.1.toNat : Nat) : Int) = 0)) (bnd (p_bound_None_Quanta L) fun r55 => some (r55.1, r55.2.1, r55.2.2)) (bnd (some ((o53.2.take o53.1.toNat) ++ (List.replicate (o53.2.length - o53.1.toNat) 0) ++ (o53.2.drop (o53.1.toNat + (o53.2.length - o53.1.toNat))))) fun v56 => rq (o53.1.toNat ≤ o53.2.length) <| bnd (p_slices_Min_Quanta L (v56.take o53.1.toNat)) fun r57 => bnd (p_slices_Max_Quanta L (v56.take o53.1.toNat)) fun r58 => bnd (p_bound_Of_Quanta L r57 r58) fun r59 => some (r59.1, r59.2.1, r59.2.2))))))
attribute [local go_sem] Ev.putR_s Ev.putR_0 Ev.thenO_s Ev.thenO_0 Ev.seqR_n Ev.seqR_e Ev.seqR_r Ev.seqR_0 Ev.blkR_e Ev.blkR_n Ev.blkR_r Ev.blkR_0 Ev.normR_s Ev.normR_0 Ev.outR_r Ev.outR_n Ev.outR_0 Ev.retS_s Ev.retS_0 Ev.pureO_s Ev.pureO_0 Ev.topR_0 Ev.topR_t Ev.topR_t0 Ev.oneL_0 Ev.oneL_s Ev.topR_d Ev.topR_nils Ev.topR_agg Ev.topR_rs Ev.evOp_move Ev.evOp_assign Ev.evOp_pick Ev.evOp_alloc Ev.evOp_box Ev.evOp_build Ev.evOp_buildSlice Ev.evOp_load Ev.evOp_store Ev.evOp_makeMap Ev.evOp_lookup Ev.evOp_mapUpdate Ev.evOp_insert Ev.evOp_nilCheck Ev.evOp_binOp Ev.evOp_unOp Ev.evOp_convert Ev.evOp_makeFunc Ev.evOp_makeSlice Ev.evOp_slice Ev.evOp_fieldAddr Ev.evOp_field Ev.evOp_indexAddr Ev.evOp_index Ev.evOp_extract Ev.evOp_call Ev.evOp_append Ev.evOp_clear Ev.evOp_len Ev.evOp_min Ev.evOp_max Ev.condR_b Ev.condR_t Ev.evOps_nil Ev.evOps_plain Ev.evOps_guard Ev.runG_eq Ev.skipG_eq Ev.condL_tt Ev.condL_ff Ev.condL_tf Ev.condL_ft Ev.condL_u Ev.condC_t Ev.condC_f Ev.evC_skip Ev.evC_ret Ev.evC_exit Ev.evC_label Ev.evC_region Ev.evC_draw Ev.evC_seq Ev.evC_cond Ev.evC_block Ev.evC_loop Ev.fin_d Ev.fin_nils Ev.fin_agg_ Ev.fin_rs Ev.finS_s Ev.mapO_fin Ev.upd_upd Ev.argv_d Ev.argv_nils Ev.argv_agg Ev.argv_rs Ev.argv_p Ev.fk_low Ev.appendTo_nils Ev.appendTo_rs Ev.consV_d Ev.consV_agg Ev.consV_p Ev.consV_rs Ev.consV_nils Ev.consV_fn Ev.consV_und Ev.consV_jk Ev.consV_grown Ev.topR_grown Ev.len_grown Ev.consV_mp Ev.sameK_i Ev.sameK_s Ev.mget_0 Ev.mget_hit Ev.mget_miss Ev.mput_0 Ev.mput_hit Ev.mput_miss Ev.apartAll Ev.apartL Ev.apartV Ev.freeAll Ev.sel Ev.keyOfV Ev.evLookup Ev.evPut Ev.hintOk Ev.keyOk Ev.consP Ev.lookV Ev.guardV Ev.dstAt Ev.evPure Ev.evStore Ev.evBin Ev.evBinO Ev.evNil Ev.isNilC Ev.evUn Ev.evConv Ev.evSlice Ev.optI Ev.foldI Ev.capsOk Ev.noTup Ev.nth Ev.setN Ev.killAt Ev.pad Ev.V.get Ev.V.put Ev.putD Ev.newBlk Ev.upd Ev.keq Ev.empty Ev.evCall Ev.V.args Ev.argP Ev.callOf Ev.evNilP Ev.isNilP Ev.look Ev.V.view.views Ev.V.view Ev.V.toD Ev.V.toD.V.toDs Ev.V.pure.pures Ev.V.pure Ev.D.flat.flats Ev.D.flat Ev.mkAgg Ev.allD Ev.aggParts Ev.setParts Ev.setElems Ev.getPath Ev.setPath Ev.subL Ev.eqD Ev.eqD.eqDs Ev.and2 Ev.strCut Ev.evalT Ev.constT Ev.evArgs Ev.mask Ev.maskOf Ev.tableOf Ev.compT Ev.resV Ev.retV Ev.mapO Ev.allD_gl Ev.killAt_i Ev.tkOne_i Ev.hT_agg Ev.hT_vagg Ev.hT_int Ev.hT_bool Ev.hT_str Ev.hT_sl Ev.hT_ptr Ev.hT_np Ev.hT_p Ev.hT_rs Ev.hT_mp Ev.hT_nils Ev.hT_fn Ev.hT_jk Ev.hT_gl Ev.eO_sl Ev.eO_nils Ev.eO_rs Ev.eT_sl Ev.eT_rs Ev.pL_str Ev.pL_sl Ev.pL_rs Ev.pL_nils Ev.pL_min Ev.pL_max Ev.len_glB Ev.noTup_gl Ev.rowV_len Ev.rowV_nil Ev.rowV_cons Ev.rowV_append Ev.rowV_set Ev.rowV_replicate Ev.nth_row Ev.row_take Ev.row_drop Ev.toDs_row Ev.fin_row Ev.map_row Ev.map_take_ Ev.map_drop_ Ev.Bk_i Ev.GlB_0 Ev.GlB_mk Ev.gl_nil Ev.gl_cons Ev.gl_snoc Ev.gl_setN Ev.appendTo_gl Ev.consV_gl Ev.elems_gl Ev.fin_gl Ev.view_gl Ev.argv_gl Ev.topR_gl Ev.sp_z Ev.sp_0 Ev.sp_s Ev.km_z Ev.km_0 Ev.km_s Ev.beq_toList Ev.nc0 Ev.bq_t Ev.bq_f Ev.bodyN Ev.le_maxRow Int.cast_ofNat_Int IntWalk.i64_in IntWalk.u64_in IntWalk.u8_in beq_self_eq_true Bool.true_beq Bool.false_beq Bool.and_true Bool.true_and Bool.false_and Bool.and_false Bool.and_self Bool.not_true Bool.not_false Bool.not_eq_true cond_true cond_false if_true if_false and_true true_and and_self decide_true decide_false Bool.or_true Bool.true_or Bool.or_false Bool.false_or List.isEmpty List.isEmpty_nil List.size_toArray List.map List.length_map List.length_cons List.length_nil Option.map Option.bind Option.getD Option.isSome List.replicate Bool.false_eq_true implies_true false_implies forall_const Array.toList Array.isEmpty List.append List.nil_append List.cons_append List.drop_zero List.take_length List.take_succ_cons List.take_zero List.take_nil List.getElem?_map List.getElem?_cons_zero List.getElem?_cons_succ List.getElem?_nil List.append_nil eq_self Int.toNat_natCast List.length_append Nat.zero_add Nat.add_zero List.length_replicate Nat.sub_zero Option.map_some Option.map_none Int.le_refl Nat.le_refl
noncomputable def G_bound_Fuse_Quanta (L : Nat) : Specs := [(62, s_bound_None_Quanta L), (65, s_bound_Of_Quanta L), (120, s_bound_vague_Quanta L), (122, s_bound_Votes_Quanta L), (124, s_slices_Min_Quanta L), (125, s_slices_Max_Quanta L)]
noncomputable def T_bound_Fuse_Quanta : Table := tableOf [(99, en99), (121, en121), (123, en123), (130, en130)]
theorem Go_bound_Fuse_Quanta (L : Nat) (hL : L ≤ 4611686018427387904) : ∀ g s, Ev.look (G_bound_Fuse_Quanta L) g = some s → SpecOk Try.prog g s := (specs_cons (ok_bound_None_Quanta L hL) (specs_cons (ok_bound_Of_Quanta L hL) (specs_cons (ok_bound_vague_Quanta L hL) (specs_cons (ok_bound_Votes_Quanta L hL) (specs_cons (ok_slices_Min_Quanta L hL) (specs_cons (ok_slices_Max_Quanta L hL) specs_nil))))))
theorem To_bound_Fuse_Quanta (L : Nat) : TableOk Try.prog ((G_bound_Fuse_Quanta L).map (·.1)) T_bound_Fuse_Quanta := (table_cons Try.func99 (by kernel_rfl) (by kernel_rfl) (table_cons Try.func121 (by kernel_rfl) (by kernel_rfl) (table_cons Try.func123 (by kernel_rfl) (by kernel_rfl) (table_cons Try.func130 (by kernel_rfl) (by kernel_rfl) table_nil))))
theorem lk_bound_Fuse_Quanta_62 (L : Nat) : Ev.look (G_bound_Fuse_Quanta L) 62 = some (s_bound_None_Quanta L) := nr rfl
theorem lk_bound_Fuse_Quanta_65 (L : Nat) : Ev.look (G_bound_Fuse_Quanta L) 65 = some (s_bound_Of_Quanta L) := nr rfl
theorem lk_bound_Fuse_Quanta_120 (L : Nat) : Ev.look (G_bound_Fuse_Quanta L) 120 = some (s_bound_vague_Quanta L) := nr rfl
theorem lk_bound_Fuse_Quanta_122 (L : Nat) : Ev.look (G_bound_Fuse_Quanta L) 122 = some (s_bound_Votes_Quanta L) := nr rfl
theorem lk_bound_Fuse_Quanta_124 (L : Nat) : Ev.look (G_bound_Fuse_Quanta L) 124 = some (s_slices_Min_Quanta L) := nr rfl
theorem lk_bound_Fuse_Quanta_125 (L : Nat) : Ev.look (G_bound_Fuse_Quanta L) 125 = some (s_slices_Max_Quanta L) := nr rfl
theorem lk_bound_Fuse_Quanta_121 (L : Nat) : Ev.look (G_bound_Fuse_Quanta L) 121 = none := nr rfl
theorem in_bound_Fuse_Quanta_121 (L c lv : Nat) (xs : List V) (st : Store) : evF Try.prog (G_bound_Fuse_Quanta L) T_bound_Fuse_Quanta L (c + 1) 121 xs lv st = outR Try.prog Try.f121.results.toList (evC Try.prog (G_bound_Fuse_Quanta L) (evF Try.prog (G_bound_Fuse_Quanta L) T_bound_Fuse_Quanta L c) L en121.ms lv 0 (bodyN Try.f121) (pad xs Try.f121.ntmps) st) := evF_s (hT := by rfl) (hb := by rfl) ..
theorem lk_bound_Fuse_Quanta_123 (L : Nat) : Ev.look (G_bound_Fuse_Quanta L) 123 = none := nr rfl
theorem in_bound_Fuse_Quanta_123 (L c lv : Nat) (xs : List V) (st : Store) : evF Try.prog (G_bound_Fuse_Quanta L) T_bound_Fuse_Quanta L (c + 1) 123 xs lv st = outR Try.prog Try.f123.results.toList (evC Try.prog (G_bound_Fuse_Quanta L) (evF Try.prog (G_bound_Fuse_Quanta L) T_bound_Fuse_Quanta L c) L en123.ms lv 0 (bodyN Try.f123) (pad xs Try.f123.ntmps) st) := evF_s (hT := by rfl) (hb := by rfl) ..
theorem lk_bound_Fuse_Quanta_130 (L : Nat) : Ev.look (G_bound_Fuse_Quanta L) 130 = none := nr rfl
theorem in_bound_Fuse_Quanta_130 (L c lv : Nat) (xs : List V) (st : Store) : evF Try.prog (G_bound_Fuse_Quanta L) T_bound_Fuse_Quanta L (c + 1) 130 xs lv st = outR Try.prog Try.f130.results.toList (evC Try.prog (G_bound_Fuse_Quanta L) (evF Try.prog (G_bound_Fuse_Quanta L) T_bound_Fuse_Quanta L c) L en130.ms lv 0 (bodyN Try.f130) (pad xs Try.f130.ntmps) st) := evF_s (hT := by rfl) (hb := by rfl) ..
attribute [local go_sem] Ty.tk3 Ty.ik3 Ty.ek3 Ty.zv3 Ty.by3 Ty.so3 Ty.tk4 Ty.ub4 Ty.ek4 Ty.zv4 Ty.by4 Ty.so4 Ty.tk27 Ty.ik27 Ty.ek27 Ty.zv27 Ty.by27 Ty.so27 Ty.tk35 Ty.zv35 Ty.by35 Ty.so35 Ty.tk43 Ty.ct43 Ty.ek43 Ty.zv43 Ty.by43 Ty.so43 Ty.tk73 Ty.zv73 Ty.by73 Ty.so73 Ty.tk155 Ty.zv155 Ty.by155 Ty.so155 Ty.k35_e Ty.k43_e Ty.k73_e E.mk99_0 E.mk99_1000001 E.mk99_1000002 E.mk99_1000000 E.dw121_1 E.kl121_1 E.nc121_1 E.mk121_1000000 E.mk123_0 E.mk123_1000001 E.mk123_1000002 E.mk123_1000000 E.mk130_0 E.mk130_1000001 E.mk130_1000002 E.mk130_1000000 E.lb99_0 E.lb123_0 E.lb130_0 lk_bound_Fuse_Quanta_62 lk_bound_Fuse_Quanta_65 lk_bound_Fuse_Quanta_120 lk_bound_Fuse_Quanta_122 lk_bound_Fuse_Quanta_124 lk_bound_Fuse_Quanta_125 lk_bound_Fuse_Quanta_121 in_bound_Fuse_Quanta_121 lk_bound_Fuse_Quanta_123 in_bound_Fuse_Quanta_123 lk_bound_Fuse_Quanta_130 in_bound_Fuse_Quanta_130 s_bound_None_Quanta_run s_bound_Of_Quanta_run s_bound_vague_Quanta_run s_bound_Votes_Quanta_run s_slices_Min_Quanta_run s_slices_Max_Quanta_run loopN loops Try.f99 Try.f121 Try.f123 Try.f130
def Q0_p_bound_Fuse_Quanta_l0 (a1 : Int) (a0 : List (Int × Int × Bool × Unit)) (u : List Int) (z : Out) : Prop := ∃ env st, z = some (.exit 0, env, st) ∧ env = sp 53 0 [(1, .d (.int .i64 a1)), (2, .p (0, 2) (st (0, 2)).ver 0 []), (4, .p (0, 4) (st (0, 4)).ver 0 []), (5, gl 27 (0, 26) (st (0, 26)).ver (rowV (D.int .i64) u))] ∧ Bk (st (0, 2)) 35 [.d (.sl 43 (a0.map k43.e))] ∧ Bk (st (0, 4)) 43 [.d (.agg 43 [.int .i64 0, .int .i64 0, .bool false])] ∧ GlB (st (0, 26)) 27 (rowV (D.int .i64) u)
abbrev Q_p_bound_Fuse_Quanta_l0 (a1 : Int) (a0 : List (Int × Int × Bool × Unit)) (o : List Int) (z : Out) : Prop := Q0_p_bound_Fuse_Quanta_l0 a1 a0 o z
theorem l_p_bound_Fuse_Quanta_l0 (L : Nat) (hL : L ≤ 4611686018427387904) (a1 : Int) (a0 : List (Int × Int × Bool × Unit)) : ∀ (tl : List (Int × Int × Bool × Unit)) (n : Nat) (s2 : Int) (s4 : List Int) (env : List V) (st : Store) (o : List Int), tl.length < n → Rng a0 s2 tl → mask (maskOf en99.ms 0) env = sp 53 0 [(1, .d (.int .i64 a1)), (2, .p (0, 2) (st (0, 2)).ver 0 []), (4, .p (0, 4) (st (0, 4)).ver 0 []), (5, gl 27 (0, 26) (st (0, 26)).ver (rowV (D.int .i64) s4)), (10, .d (.sl 43 (a0.map k43.e))), (11, .d (.int .i64 (a0.length : Int))), (12, .d (.int .i64 s2))] → Bk (st (0, 2)) 35 [.d (.sl 43 (a0.map k43.e))] → Bk (st (0, 4)) 43 [.d (.agg 43 [.int .i64 0, .int .i64 0, .bool false])] → GlB (st (0, 26)) 27 (rowV (D.int .i64) s4) → p_bound_Fuse_Quanta_l0 L  tl s4 = some o →
    Q_p_bound_Fuse_Quanta_l0 a1 a0 o (iter (evC Try.prog (G_bound_Fuse_Quanta L) (evF Try.prog (G_bound_Fuse_Quanta L) T_bound_Fuse_Quanta L 3) L en99.ms 0 0 lb99_0) (maskOf en99.ms 0) n env st) := by
  intro tl
  induction tl with
  | nil =>
    intro n s2 s4 env st o hn hR he hb0 hb1 hb2 h
    obtain ⟨n, rfl⟩ : ∃ m, n = m + 1 := ⟨n - 1, by omega⟩
    obtain ⟨be0, bv0, bl0⟩ := hb0
    obtain ⟨be1, bv1, bl1⟩ := hb1
    have g0 := rng_nil hR
    rw [iter, he]
    clear he
    generalize hK : iter _ _ n = K
    rw [p_bound_Fuse_Quanta_l0] at h
    revert h
    rintro ⟨⟩
    simp only [go_sem, Nat.reduceAdd, Nat.reduceSub, Nat.reduceMul, Nat.reduceEqDiff, Nat.reduceBEq, Nat.reduceLT, Nat.reduceLeDiff, Nat.reducePow, Int.reduceToNat, Int.reduceLT, Int.reduceLE, Int.reduceGT, Int.reduceGE, Int.reduceEq, Int.reduceNeg, Int.reduceAdd, Int.reduceSub, Int.reduceMul, ↓reduceIte, reduceCtorEq, *]
    refine (⟨_, _, rfl, ?_, ?_, ?_, ?_⟩ : Q0_p_bound_Fuse_Quanta_l0 a1 a0 _ _)
    all_goals simp only [go_sem, Nat.reduceAdd, Nat.reduceSub, Nat.reduceMul, Nat.reduceEqDiff, Nat.reduceBEq, Nat.reduceLT, Nat.reduceLeDiff, Nat.reducePow, Int.reduceToNat, Int.reduceLT, Int.reduceLE, Int.reduceGT, Int.reduceGE, Int.reduceEq, Int.reduceNeg, Int.reduceAdd, Int.reduceSub, Int.reduceMul, ↓reduceIte, reduceCtorEq, *]
  | cons x1 tl ih =>
    intro n s2 s4 env st o hn hR he hb0 hb1 hb2 h
    obtain ⟨n, rfl⟩ : ∃ m, n = m + 1 := ⟨n - 1, by omega⟩
    obtain ⟨be0, bv0, bl0⟩ := hb0
    obtain ⟨be1, bv1, bl1⟩ := hb1
    replace ih : Hold _ := ih
    replace hR := rng_s hR
    obtain ⟨g0, g1, g2, g3, hR⟩ := hR
    rw [iter, he]
    clear he
    generalize hK : iter _ _ n = K
    rw [p_bound_Fuse_Quanta_l0] at h
    revert h
    refine bnd_i fun r6 c1 => ?_
    refine cb_i (fun c2 => ?_) (fun c2 => ?_)
    · intro h
      simp only [go_sem, Nat.reduceAdd, Nat.reduceSub, Nat.reduceMul, Nat.reduceEqDiff, Nat.reduceBEq, Nat.reduceLT, Nat.reduceLeDiff, Nat.reducePow, Int.reduceToNat, Int.reduceLT, Int.reduceLE, Int.reduceGT, Int.reduceGE, Int.reduceEq, Int.reduceNeg, Int.reduceAdd, Int.reduceSub, Int.reduceMul, ↓reduceIte, reduceCtorEq, *]
      subst hK
      refine ih n (s2 + 1) s4 _ _ _ (by simp only [List.length_cons] at hn; omega) hR ?_ ?_ ?_ ?_ h
      all_goals simp only [go_sem, Nat.reduceAdd, Nat.reduceSub, Nat.reduceMul, Nat.reduceEqDiff, Nat.reduceBEq, Nat.reduceLT, Nat.reduceLeDiff, Nat.reducePow, Int.reduceToNat, Int.reduceLT, Int.reduceLE, Int.reduceGT, Int.reduceGE, Int.reduceEq, Int.reduceNeg, Int.reduceAdd, Int.reduceSub, Int.reduceMul, ↓reduceIte, reduceCtorEq, *]
    · refine rq_i fun c3 => ?_
      refine rq_i fun c4 => ?_
      intro h
      simp only [go_sem, Nat.reduceAdd, Nat.reduceSub, Nat.reduceMul, Nat.reduceEqDiff, Nat.reduceBEq, Nat.reduceLT, Nat.reduceLeDiff, Nat.reducePow, Int.reduceToNat, Int.reduceLT, Int.reduceLE, Int.reduceGT, Int.reduceGE, Int.reduceEq, Int.reduceNeg, Int.reduceAdd, Int.reduceSub, Int.reduceMul, ↓reduceIte, reduceCtorEq, *]
      subst hK
      refine ih n (s2 + 1) (s4 ++ [x1.1, x1.2.1]) _ _ _ (by simp only [List.length_cons] at hn; omega) hR ?_ ?_ ?_ ?_ h
      all_goals simp only [go_sem, Nat.reduceAdd, Nat.reduceSub, Nat.reduceMul, Nat.reduceEqDiff, Nat.reduceBEq, Nat.reduceLT, Nat.reduceLeDiff, Nat.reducePow, Int.reduceToNat, Int.reduceLT, Int.reduceLE, Int.reduceGT, Int.reduceGE, Int.reduceEq, Int.reduceNeg, Int.reduceAdd, Int.reduceSub, Int.reduceMul, ↓reduceIte, reduceCtorEq, *]
def Q0_p_bound_Fuse_Quanta_l1 (w11 : Nat) (w12 : Nat) (w13 : Nat) (w14 : Nat) (a16 : Int) (a0 : List (Int × Int × Bool × Unit)) (a18 : Int) (o7 : List Int) (u : Unit) (z : Out) : Prop := ∃ env st, z = some (.exit 0, env, st) ∧ env = sp 19 0 [] ∧ Bk (st (0, 2)) 35 [.d (.sl 43 (a0.map k43.e))] ∧ Bk (st (0, 4)) 43 [.d (.agg 43 [.int .i64 0, .int .i64 0, .bool false])] ∧ Bk (st (0, 8)) 3 [.d (.int .i64 a18)] ∧ GlB (st (0, 26)) 27 (rowV (D.int .i64) o7) ∧ (st (0, 2)).ver = w11 ∧ (st (0, 4)).ver = w12 ∧ (st (0, 8)).ver = w13 ∧ (st (0, 26)).ver = w14
def Q1_p_bound_Fuse_Quanta_l1 (w11 : Nat) (w12 : Nat) (w13 : Nat) (w14 : Nat) (a16 : Int) (a0 : List (Int × Int × Bool × Unit)) (a18 : Int) (o7 : List Int) (u : Int) (z : Out) : Prop := ∃ env st, z = some (.ret, env, st) ∧ env = sp 19 0 [(4, .d (.int .i64 u))] ∧ Bk (st (0, 2)) 35 [.d (.sl 43 (a0.map k43.e))] ∧ Bk (st (0, 4)) 43 [.d (.agg 43 [.int .i64 0, .int .i64 0, .bool false])] ∧ Bk (st (0, 8)) 3 [.d (.int .i64 a18)] ∧ Bk (st (0, 26)) 27 (rowV (D.int .i64) o7) ∧ (st (0, 2)).ver = w11 ∧ (st (0, 4)).ver = w12 ∧ (st (0, 8)).ver = w13 ∧ (st (0, 26)).ver = w14
def Q_p_bound_Fuse_Quanta_l1 (w11 : Nat) (w12 : Nat) (w13 : Nat) (w14 : Nat) (a16 : Int) (a0 : List (Int × Int × Bool × Unit)) (a18 : Int) (o7 : List Int) (o : Sum Unit Int) (z : Out) : Prop := match o with | (.inl u) => Q0_p_bound_Fuse_Quanta_l1 w11 w12 w13 w14 a16 a0 a18 o7 u z | (.inr u) => Q1_p_bound_Fuse_Quanta_l1 w11 w12 w13 w14 a16 a0 a18 o7 u z
theorem l_p_bound_Fuse_Quanta_l1 (L : Nat) (hL : L ≤ 4611686018427387904) (w11 : Nat) (w12 : Nat) (w13 : Nat) (w14 : Nat) (a16 : Int) (a0 : List (Int × Int × Bool × Unit)) (a18 : Int) (o7 : List Int) : ∀ (tl n : Nat) (s17 : Int) (env : List V) (st : Store) (o : Sum Unit Int), tl < n → Cnt a16 s17 tl → mask (maskOf en130.ms 0) env = sp 19 0 [(0, gl 27 (0, 26) (st (0, 26)).ver (rowV (D.int .i64) o7)), (1, .fn 121 [.p (0, 2) (st (0, 2)).ver 0 [], .p (0, 8) (st (0, 8)).ver 0 []]), (7, .d (.int .i64 a16)), (8, .d (.int .i64 s17))] → Bk (st (0, 2)) 35 [.d (.sl 43 (a0.map k43.e))] → Bk (st (0, 4)) 43 [.d (.agg 43 [.int .i64 0, .int .i64 0, .bool false])] → Bk (st (0, 8)) 3 [.d (.int .i64 a18)] → GlB (st (0, 26)) 27 (rowV (D.int .i64) o7) → (st (0, 2)).ver = w11 → (st (0, 4)).ver = w12 → (st (0, 8)).ver = w13 → (st (0, 26)).ver = w14 → p_bound_Fuse_Quanta_l1 L a0 a18 o7 tl s17  = some o →
    Q_p_bound_Fuse_Quanta_l1 w11 w12 w13 w14 a16 a0 a18 o7 o (iter (evC Try.prog (G_bound_Fuse_Quanta L) (evF Try.prog (G_bound_Fuse_Quanta L) T_bound_Fuse_Quanta L 1) L en130.ms 180235 0 lb130_0) (maskOf en130.ms 0) n env st) := by
  intro tl
  induction tl with
  | zero =>
    intro n s17  env st o hn hR he hb0 hb1 hb2 hb3 hw0 hw1 hw2 hw3 h
    obtain ⟨n, rfl⟩ : ∃ m, n = m + 1 := ⟨n - 1, by omega⟩
    obtain ⟨be0, bv0, bl0⟩ := hb0
    obtain ⟨be1, bv1, bl1⟩ := hb1
    obtain ⟨be2, bv2, bl2⟩ := hb2
    have g0 := cnt_nil hR
    rw [iter, he]
    clear he
    generalize hK : iter _ _ n = K
    rw [p_bound_Fuse_Quanta_l1] at h
    revert h
    rintro ⟨⟩
    simp only [go_sem, Nat.reduceAdd, Nat.reduceSub, Nat.reduceMul, Nat.reduceEqDiff, Nat.reduceBEq, Nat.reduceLT, Nat.reduceLeDiff, Nat.reducePow, Int.reduceToNat, Int.reduceLT, Int.reduceLE, Int.reduceGT, Int.reduceGE, Int.reduceEq, Int.reduceNeg, Int.reduceAdd, Int.reduceSub, Int.reduceMul, ↓reduceIte, reduceCtorEq, *]
    refine (⟨_, _, rfl, ?_, ?_, ?_, ?_, ?_, ?_, ?_, ?_, ?_⟩ : Q0_p_bound_Fuse_Quanta_l1 w11 w12 w13 w14 a16 a0 a18 o7 _ _)
    all_goals simp only [go_sem, Nat.reduceAdd, Nat.reduceSub, Nat.reduceMul, Nat.reduceEqDiff, Nat.reduceBEq, Nat.reduceLT, Nat.reduceLeDiff, Nat.reducePow, Int.reduceToNat, Int.reduceLT, Int.reduceLE, Int.reduceGT, Int.reduceGE, Int.reduceEq, Int.reduceNeg, Int.reduceAdd, Int.reduceSub, Int.reduceMul, ↓reduceIte, reduceCtorEq, *]
  | succ tl ih =>
    intro n s17  env st o hn hR he hb0 hb1 hb2 hb3 hw0 hw1 hw2 hw3 h
    obtain ⟨n, rfl⟩ : ∃ m, n = m + 1 := ⟨n - 1, by omega⟩
    obtain ⟨be0, bv0, bl0⟩ := hb0
    obtain ⟨be1, bv1, bl1⟩ := hb1
    obtain ⟨be2, bv2, bl2⟩ := hb2
    replace ih : Hold _ := ih
    replace hR := cnt_s hR
    obtain ⟨g0, g1, g3, hR⟩ := hR
    rw [iter, he]
    clear he
    generalize hK : iter _ _ n = K
    rw [p_bound_Fuse_Quanta_l1] at h
    revert h
    refine idx_i fun x21 c1 c2 c3 => ?_
    have c4 := gl_ne (f := (D.int .i64)) c3
    obtain ⟨k51, k52, k53⟩ := hb3 (row_ne c3)
    refine bnd_i fun r22 c6 => ?_
    refine ite_i (fun c7 => ?_) (fun c7 => ?_)
    · rintro ⟨⟩
      simp only [go_sem, Nat.reduceAdd, Nat.reduceSub, Nat.reduceMul, Nat.reduceEqDiff, Nat.reduceBEq, Nat.reduceLT, Nat.reduceLeDiff, Nat.reducePow, Int.reduceToNat, Int.reduceLT, Int.reduceLE, Int.reduceGT, Int.reduceGE, Int.reduceEq, Int.reduceNeg, Int.reduceAdd, Int.reduceSub, Int.reduceMul, ↓reduceIte, reduceCtorEq, *]
      refine (⟨_, _, rfl, ?_, ?_, ?_, ?_, ?_, ?_, ?_, ?_, ?_⟩ : Q1_p_bound_Fuse_Quanta_l1 w11 w12 w13 w14 a16 a0 a18 o7 _ _)
      all_goals simp only [go_sem, Nat.reduceAdd, Nat.reduceSub, Nat.reduceMul, Nat.reduceEqDiff, Nat.reduceBEq, Nat.reduceLT, Nat.reduceLeDiff, Nat.reducePow, Int.reduceToNat, Int.reduceLT, Int.reduceLE, Int.reduceGT, Int.reduceGE, Int.reduceEq, Int.reduceNeg, Int.reduceAdd, Int.reduceSub, Int.reduceMul, ↓reduceIte, reduceCtorEq, *]
    · intro h
      simp only [go_sem, Nat.reduceAdd, Nat.reduceSub, Nat.reduceMul, Nat.reduceEqDiff, Nat.reduceBEq, Nat.reduceLT, Nat.reduceLeDiff, Nat.reducePow, Int.reduceToNat, Int.reduceLT, Int.reduceLE, Int.reduceGT, Int.reduceGE, Int.reduceEq, Int.reduceNeg, Int.reduceAdd, Int.reduceSub, Int.reduceMul, ↓reduceIte, reduceCtorEq, *]
      subst hK
      refine ih n (s17 + 1)  _ _ _ (by omega) hR ?_ ?_ ?_ ?_ ?_ ?_ ?_ ?_ ?_ h
      all_goals simp only [go_sem, Nat.reduceAdd, Nat.reduceSub, Nat.reduceMul, Nat.reduceEqDiff, Nat.reduceBEq, Nat.reduceLT, Nat.reduceLeDiff, Nat.reducePow, Int.reduceToNat, Int.reduceLT, Int.reduceLE, Int.reduceGT, Int.reduceGE, Int.reduceEq, Int.reduceNeg, Int.reduceAdd, Int.reduceSub, Int.reduceMul, ↓reduceIte, reduceCtorEq, *]
def Q0_p_bound_Fuse_Quanta_l2 (w34 : Nat) (w35 : Nat) (w36 : Nat) (w37 : Nat) (a0 : List (Int × Int × Bool × Unit)) (a40 : Int) (u : Int × (List Int)) (z : Out) : Prop := ∃ env st, z = some (.exit 0, env, st) ∧ env = sp 42 0 [(0, gl 27 (0, 26) (st (0, 26)).ver (rowV (D.int .i64) u.2)), (5, .d (.int .i64 u.1))] ∧ Bk (st (0, 2)) 35 [.d (.sl 43 (a0.map k43.e))] ∧ Bk (st (0, 4)) 43 [.d (.agg 43 [.int .i64 0, .int .i64 0, .bool false])] ∧ Bk (st (0, 8)) 3 [.d (.int .i64 a40)] ∧ Bk (st (0, 26)) 27 (rowV (D.int .i64) u.2) ∧ (st (0, 2)).ver = w34 ∧ (st (0, 4)).ver = w35 ∧ (st (0, 8)).ver = w36 ∧ (st (0, 26)).ver = w37
abbrev Q_p_bound_Fuse_Quanta_l2 (w34 : Nat) (w35 : Nat) (w36 : Nat) (w37 : Nat) (a0 : List (Int × Int × Bool × Unit)) (a40 : Int) (o : Int × (List Int)) (z : Out) : Prop := Q0_p_bound_Fuse_Quanta_l2 w34 w35 w36 w37 a0 a40 o z
theorem l_p_bound_Fuse_Quanta_l2 (L : Nat) (hL : L ≤ 4611686018427387904) (w34 : Nat) (w35 : Nat) (w36 : Nat) (w37 : Nat) (a0 : List (Int × Int × Bool × Unit)) (a40 : Int) : ∀ (n : Nat) (s44 : Int) (s45 : Int) (s46 : List Int) (env : List V) (st : Store) (o : Int × (List Int)), mask (maskOf en123.ms 0) env = sp 42 0 [(0, gl 27 (0, 26) (st (0, 26)).ver (rowV (D.int .i64) s46)), (1, .fn 121 [.p (0, 2) (st (0, 2)).ver 0 [], .p (0, 8) (st (0, 8)).ver 0 []]), (5, .d (.int .i64 s44)), (6, .d (.int .i64 s45))] → Bk (st (0, 2)) 35 [.d (.sl 43 (a0.map k43.e))] → Bk (st (0, 4)) 43 [.d (.agg 43 [.int .i64 0, .int .i64 0, .bool false])] → Bk (st (0, 8)) 3 [.d (.int .i64 a40)] → Bk (st (0, 26)) 27 (rowV (D.int .i64) s46) → (st (0, 2)).ver = w34 → (st (0, 4)).ver = w35 → (st (0, 8)).ver = w36 → (st (0, 26)).ver = w37 → p_bound_Fuse_Quanta_l2 L a0 a40 n s44 s45 s46 = some o →
    Q_p_bound_Fuse_Quanta_l2 w34 w35 w36 w37 a0 a40 o (iter (evC Try.prog (G_bound_Fuse_Quanta L) (evF Try.prog (G_bound_Fuse_Quanta L) T_bound_Fuse_Quanta L 2) L en123.ms 44 0 lb123_0) (maskOf en123.ms 0) n env st) := by
  intro n
  induction n with
  | zero => intro s44 s45 s46 env st o he hb0 hb1 hb2 hb3 hw0 hw1 hw2 hw3 h; cases h
  | succ n ih =>
    intro s44 s45 s46 env st o he hb0 hb1 hb2 hb3 hw0 hw1 hw2 hw3 h
    replace ih : Hold _ := ih
    obtain ⟨be0, bv0, bl0⟩ := hb0
    obtain ⟨be1, bv1, bl1⟩ := hb1
    obtain ⟨be2, bv2, bl2⟩ := hb2
    obtain ⟨be3, bv3, bl3⟩ := hb3
    have bg3 := GlB_of be3 bv3 bl3
    rw [iter, he]
    clear he
    generalize hK : iter _ _ n = K
    rw [p_bound_Fuse_Quanta_l2] at h
    revert h
    refine ite_i (fun c1 => ?_) (fun c1 => ?_)
    · refine idx_i fun x50 c2 c3 c4 => ?_
      have c5 := gl_ne (f := (D.int .i64)) c4
      refine bnd_i fun r51 c6 => ?_
      refine ite_i (fun c7 => ?_) (fun c7 => ?_)
      · intro h
        simp only [go_sem, Nat.reduceAdd, Nat.reduceSub, Nat.reduceMul, Nat.reduceEqDiff, Nat.reduceBEq, Nat.reduceLT, Nat.reduceLeDiff, Nat.reducePow, Int.reduceToNat, Int.reduceLT, Int.reduceLE, Int.reduceGT, Int.reduceGE, Int.reduceEq, Int.reduceNeg, Int.reduceAdd, Int.reduceSub, Int.reduceMul, ↓reduceIte, reduceCtorEq, *]
        subst hK
        refine ih  s44 (i64.wrap (s45 + 1)) s46 _ _ _ ?_ ?_ ?_ ?_ ?_ ?_ ?_ ?_ ?_ h
        all_goals simp only [go_sem, Nat.reduceAdd, Nat.reduceSub, Nat.reduceMul, Nat.reduceEqDiff, Nat.reduceBEq, Nat.reduceLT, Nat.reduceLeDiff, Nat.reducePow, Int.reduceToNat, Int.reduceLT, Int.reduceLE, Int.reduceGT, Int.reduceGE, Int.reduceEq, Int.reduceNeg, Int.reduceAdd, Int.reduceSub, Int.reduceMul, ↓reduceIte, reduceCtorEq, *]
      · refine idx_i fun x52 c8 c9 c10 => ?_
        intro h
        simp only [go_sem, Nat.reduceAdd, Nat.reduceSub, Nat.reduceMul, Nat.reduceEqDiff, Nat.reduceBEq, Nat.reduceLT, Nat.reduceLeDiff, Nat.reducePow, Int.reduceToNat, Int.reduceLT, Int.reduceLE, Int.reduceGT, Int.reduceGE, Int.reduceEq, Int.reduceNeg, Int.reduceAdd, Int.reduceSub, Int.reduceMul, ↓reduceIte, reduceCtorEq, *]
        subst hK
        refine ih  (i64.wrap (s44 + 1)) (i64.wrap (s45 + 1)) (s46.set s44.toNat x50) _ _ _ ?_ ?_ ?_ ?_ ?_ ?_ ?_ ?_ ?_ h
        all_goals simp only [go_sem, Nat.reduceAdd, Nat.reduceSub, Nat.reduceMul, Nat.reduceEqDiff, Nat.reduceBEq, Nat.reduceLT, Nat.reduceLeDiff, Nat.reducePow, Int.reduceToNat, Int.reduceLT, Int.reduceLE, Int.reduceGT, Int.reduceGE, Int.reduceEq, Int.reduceNeg, Int.reduceAdd, Int.reduceSub, Int.reduceMul, ↓reduceIte, reduceCtorEq, *]
    · rintro ⟨⟩
      simp only [go_sem, Nat.reduceAdd, Nat.reduceSub, Nat.reduceMul, Nat.reduceEqDiff, Nat.reduceBEq, Nat.reduceLT, Nat.reduceLeDiff, Nat.reducePow, Int.reduceToNat, Int.reduceLT, Int.reduceLE, Int.reduceGT, Int.reduceGE, Int.reduceEq, Int.reduceNeg, Int.reduceAdd, Int.reduceSub, Int.reduceMul, ↓reduceIte, reduceCtorEq, *]
      refine (⟨_, _, rfl, ?_, ?_, ?_, ?_, ?_, ?_, ?_, ?_, ?_⟩ : Q0_p_bound_Fuse_Quanta_l2 w34 w35 w36 w37 a0 a40 _ _)
      all_goals simp only [go_sem, Nat.reduceAdd, Nat.reduceSub, Nat.reduceMul, Nat.reduceEqDiff, Nat.reduceBEq, Nat.reduceLT, Nat.reduceLeDiff, Nat.reducePow, Int.reduceToNat, Int.reduceLT, Int.reduceLE, Int.reduceGT, Int.reduceGE, Int.reduceEq, Int.reduceNeg, Int.reduceAdd, Int.reduceSub, Int.reduceMul, ↓reduceIte, reduceCtorEq, *]
theorem e_bound_Fuse_Quanta (L : Nat) (hL : L ≤ 4611686018427387904) (a0 : List (Int × Int × Bool × Unit)) (a1 : Int) (res : Int × Int × Bool) (h : p_bound_Fuse_Quanta L a0 a1 = some res) : evTop Try.prog (G_bound_Fuse_Quanta L) T_bound_Fuse_Quanta L 4 99 [.sl 43 (a0.map k43.e), .int .i64 a1] = some [.agg 43 [.int .i64 res.1, .int .i64 res.2.1, .bool res.2.2]] := by
  revert h
  unfold p_bound_Fuse_Quanta evTop
  simp only [List.map]
  rw [evF_s (fn := Try.f99) (msk := en99.ms) (hT := by rfl) (hb := by rfl)]
  refine rq_i fun c1 => ?_
  refine bnd_i fun o7 ho2 => ?_
  intro h
  simp only [go_sem, Nat.reduceAdd, Nat.reduceSub, Nat.reduceMul, Nat.reduceEqDiff, Nat.reduceBEq, Nat.reduceLT, Nat.reduceLeDiff, Nat.reducePow, Int.reduceToNat, Int.reduceLT, Int.reduceLE, Int.reduceGT, Int.reduceGE, Int.reduceEq, Int.reduceNeg, Int.reduceAdd, Int.reduceSub, Int.reduceMul, ↓reduceIte, reduceCtorEq, *]
  generalize hz4 : iter _ _ _ _ _ = z3
  have hq5 : Q_p_bound_Fuse_Quanta_l0 a1 a0 o7 z3 := by
    rw [← hz4]
    refine l_p_bound_Fuse_Quanta_l0 L hL a1 a0 a0 L 0 ([]) _ _ _ c1 (rng_0 c1 hL) ?_ ?_ ?_ ?_ ho2
    all_goals simp only [go_sem, Nat.reduceAdd, Nat.reduceSub, Nat.reduceMul, Nat.reduceEqDiff, Nat.reduceBEq, Nat.reduceLT, Nat.reduceLeDiff, Nat.reducePow, Int.reduceToNat, Int.reduceLT, Int.reduceLE, Int.reduceGT, Int.reduceGE, Int.reduceEq, Int.reduceNeg, Int.reduceAdd, Int.reduceSub, Int.reduceMul, ↓reduceIte, reduceCtorEq, *]
  clear hz4 ho2
  obtain ⟨_, st8, rfl, rfl, ⟨k61, k62, k63⟩, ⟨k71, k72, k73⟩, k8⟩ := hq5
  revert h
  refine ite_i (fun c9 => ?_) (fun c9 => ?_)
  · refine bnd_i fun r9 c10 => ?_
    rintro ⟨⟩
    simp only [go_sem, Nat.reduceAdd, Nat.reduceSub, Nat.reduceMul, Nat.reduceEqDiff, Nat.reduceBEq, Nat.reduceLT, Nat.reduceLeDiff, Nat.reducePow, Int.reduceToNat, Int.reduceLT, Int.reduceLE, Int.reduceGT, Int.reduceGE, Int.reduceEq, Int.reduceNeg, Int.reduceAdd, Int.reduceSub, Int.reduceMul, ↓reduceIte, reduceCtorEq, *]
  · refine ite_i (fun c11 => ?_) (fun c11 => ?_)
    · refine bnd_i fun r10 c12 => ?_
      rintro ⟨⟩
      simp only [go_sem, Nat.reduceAdd, Nat.reduceSub, Nat.reduceMul, Nat.reduceEqDiff, Nat.reduceBEq, Nat.reduceLT, Nat.reduceLeDiff, Nat.reducePow, Int.reduceToNat, Int.reduceLT, Int.reduceLE, Int.reduceGT, Int.reduceGE, Int.reduceEq, Int.reduceNeg, Int.reduceAdd, Int.reduceSub, Int.reduceMul, ↓reduceIte, reduceCtorEq, *]
    · refine rq_i fun c13 => ?_
      refine rq_i fun c14 => ?_
      refine bnd_i fun o23 ho15 => ?_
      intro h
      simp only [go_sem, Nat.reduceAdd, Nat.reduceSub, Nat.reduceMul, Nat.reduceEqDiff, Nat.reduceBEq, Nat.reduceLT, Nat.reduceLeDiff, Nat.reducePow, Int.reduceToNat, Int.reduceLT, Int.reduceLE, Int.reduceGT, Int.reduceGE, Int.reduceEq, Int.reduceNeg, Int.reduceAdd, Int.reduceSub, Int.reduceMul, ↓reduceIte, reduceCtorEq, *]
      generalize hz17 : iter _ _ _ _ _ = z16
      have hq18 : Q_p_bound_Fuse_Quanta_l1 ((st8 (0, 2)).ver) ((st8 (0, 4)).ver) ((st8 (0, 8)).ver + 1) ((st8 (0, 26)).ver) (o7.length : Int) a0 (i64.wrap ((i64.wrap ((o7.length : Int).tdiv 2)) - a1)) o7 o23 z16 := by
        rw [← hz17]
        refine l_p_bound_Fuse_Quanta_l1 L hL ((st8 (0, 2)).ver) ((st8 (0, 4)).ver) ((st8 (0, 8)).ver + 1) ((st8 (0, 26)).ver) (o7.length : Int) a0 (i64.wrap ((i64.wrap ((o7.length : Int).tdiv 2)) - a1)) o7 _ L 0  _ _ _ c13 (cnt_00 (by decide) c14) ?_ ?_ ?_ ?_ ?_ ?_ ?_ ?_ ?_ ho15
        all_goals simp only [go_sem, Nat.reduceAdd, Nat.reduceSub, Nat.reduceMul, Nat.reduceEqDiff, Nat.reduceBEq, Nat.reduceLT, Nat.reduceLeDiff, Nat.reducePow, Int.reduceToNat, Int.reduceLT, Int.reduceLE, Int.reduceGT, Int.reduceGE, Int.reduceEq, Int.reduceNeg, Int.reduceAdd, Int.reduceSub, Int.reduceMul, ↓reduceIte, reduceCtorEq, *]
      clear hz17 ho15
      rcases o23 with o23_0 | o23_1
      · obtain ⟨_, st24, rfl, rfl, ⟨k191, k192, k193⟩, ⟨k201, k202, k203⟩, ⟨k211, k212, k213⟩, k22, w23, w24, w25, w26⟩ := hq18
        dsimp only at h
        revert h
        refine cb_i (fun c27 => ?_) (fun c27 => ?_)
        · refine bnd_i fun r25 c28 => ?_
          rintro ⟨⟩
          simp only [go_sem, Nat.reduceAdd, Nat.reduceSub, Nat.reduceMul, Nat.reduceEqDiff, Nat.reduceBEq, Nat.reduceLT, Nat.reduceLeDiff, Nat.reducePow, Int.reduceToNat, Int.reduceLT, Int.reduceLE, Int.reduceGT, Int.reduceGE, Int.reduceEq, Int.reduceNeg, Int.reduceAdd, Int.reduceSub, Int.reduceMul, ↓reduceIte, reduceCtorEq, *]
        · refine bnd_i fun r26 c29 => ?_
          refine bnd_i fun r27 c30 => ?_
          refine bnd_i fun r28 c31 => ?_
          rintro ⟨⟩
          simp only [go_sem, Nat.reduceAdd, Nat.reduceSub, Nat.reduceMul, Nat.reduceEqDiff, Nat.reduceBEq, Nat.reduceLT, Nat.reduceLeDiff, Nat.reducePow, Int.reduceToNat, Int.reduceLT, Int.reduceLE, Int.reduceGT, Int.reduceGE, Int.reduceEq, Int.reduceNeg, Int.reduceAdd, Int.reduceSub, Int.reduceMul, ↓reduceIte, reduceCtorEq, *]
      · obtain ⟨_, st29, rfl, rfl, ⟨k321, k322, k323⟩, ⟨k331, k332, k333⟩, ⟨k341, k342, k343⟩, ⟨k351, k352, k353⟩, w36, w37, w38, w39⟩ := hq18
        have g40 := GlB_of k351 k352 k353
        dsimp only at h
        revert h
        refine cb_i (fun c41 => ?_) (fun c41 => ?_)
        · refine cb_i (fun c42 => ?_) (fun c42 => ?_)
          · refine bnd_i fun r30 c43 => ?_
            rintro ⟨⟩
            simp only [go_sem, Nat.reduceAdd, Nat.reduceSub, Nat.reduceMul, Nat.reduceEqDiff, Nat.reduceBEq, Nat.reduceLT, Nat.reduceLeDiff, Nat.reducePow, Int.reduceToNat, Int.reduceLT, Int.reduceLE, Int.reduceGT, Int.reduceGE, Int.reduceEq, Int.reduceNeg, Int.reduceAdd, Int.reduceSub, Int.reduceMul, ↓reduceIte, reduceCtorEq, *]
          · refine bnd_i fun r31 c44 => ?_
            refine bnd_i fun r32 c45 => ?_
            refine bnd_i fun r33 c46 => ?_
            rintro ⟨⟩
            simp only [go_sem, Nat.reduceAdd, Nat.reduceSub, Nat.reduceMul, Nat.reduceEqDiff, Nat.reduceBEq, Nat.reduceLT, Nat.reduceLeDiff, Nat.reducePow, Int.reduceToNat, Int.reduceLT, Int.reduceLE, Int.reduceGT, Int.reduceGE, Int.reduceEq, Int.reduceNeg, Int.reduceAdd, Int.reduceSub, Int.reduceMul, ↓reduceIte, reduceCtorEq, *]
        · refine bnd_i fun o53 ho47 => ?_
          intro h
          simp only [go_sem, Nat.reduceAdd, Nat.reduceSub, Nat.reduceMul, Nat.reduceEqDiff, Nat.reduceBEq, Nat.reduceLT, Nat.reduceLeDiff, Nat.reducePow, Int.reduceToNat, Int.reduceLT, Int.reduceLE, Int.reduceGT, Int.reduceGE, Int.reduceEq, Int.reduceNeg, Int.reduceAdd, Int.reduceSub, Int.reduceMul, ↓reduceIte, reduceCtorEq, *]
          generalize hz49 : iter _ _ _ _ _ = z48
          have hq50 : Q_p_bound_Fuse_Quanta_l2 ((st8 (0, 2)).ver) ((st8 (0, 4)).ver) ((st8 (0, 8)).ver + 1) ((st8 (0, 26)).ver) a0 (i64.wrap ((i64.wrap ((o7.length : Int).tdiv 2)) - a1)) o53 z48 := by
            rw [← hz49]
            refine l_p_bound_Fuse_Quanta_l2 L hL ((st8 (0, 2)).ver) ((st8 (0, 4)).ver) ((st8 (0, 8)).ver + 1) ((st8 (0, 26)).ver) a0 (i64.wrap ((i64.wrap ((o7.length : Int).tdiv 2)) - a1)) L o23_1 (i64.wrap (o23_1 + 1)) o7 _ _ _  ?_ ?_ ?_ ?_ ?_ ?_ ?_ ?_ ?_ ho47
            all_goals simp only [go_sem, Nat.reduceAdd, Nat.reduceSub, Nat.reduceMul, Nat.reduceEqDiff, Nat.reduceBEq, Nat.reduceLT, Nat.reduceLeDiff, Nat.reducePow, Int.reduceToNat, Int.reduceLT, Int.reduceLE, Int.reduceGT, Int.reduceGE, Int.reduceEq, Int.reduceNeg, Int.reduceAdd, Int.reduceSub, Int.reduceMul, ↓reduceIte, reduceCtorEq, *]
          clear hz49 ho47
          obtain ⟨_, st54, rfl, rfl, ⟨k511, k512, k513⟩, ⟨k521, k522, k523⟩, ⟨k531, k532, k533⟩, ⟨k541, k542, k543⟩, w55, w56, w57, w58⟩ := hq50
          have g59 := GlB_of k541 k542 k543
          revert h
          refine rq_i fun c60 => ?_
          have c61 := gl_nz (f := (D.int .i64)) c60
          refine rq_i fun c62 => ?_
          refine rq_i fun c63 => ?_
          refine rq_i fun c64 => ?_
          refine cb_i (fun c65 => ?_) (fun c65 => ?_)
          · refine bnd_i fun r55 c66 => ?_
            rintro ⟨⟩
            simp only [go_sem, Nat.reduceAdd, Nat.reduceSub, Nat.reduceMul, Nat.reduceEqDiff, Nat.reduceBEq, Nat.reduceLT, Nat.reduceLeDiff, Nat.reducePow, Int.reduceToNat, Int.reduceLT, Int.reduceLE, Int.reduceGT, Int.reduceGE, Int.reduceEq, Int.reduceNeg, Int.reduceAdd, Int.reduceSub, Int.reduceMul, ↓reduceIte, reduceCtorEq, *]
          · refine bnd_i fun v56 c67 => ?_
            have hf68 : rowV (D.int .i64) ((o53.2.take o53.1.toNat) ++ (List.replicate (o53.2.length - o53.1.toNat) 0) ++ (o53.2.drop (o53.1.toNat + (o53.2.length - o53.1.toNat)))) = rowV (D.int .i64) v56 := by cases c67; rfl
            simp only [go_sem, Nat.reduceAdd, Nat.reduceSub, Nat.reduceMul, Nat.reduceEqDiff, Nat.reduceBEq, Nat.reduceLT, Nat.reduceLeDiff, Nat.reducePow, Int.reduceToNat, Int.reduceLT, Int.reduceLE, Int.reduceGT, Int.reduceGE, Int.reduceEq, Int.reduceNeg, Int.reduceAdd, Int.reduceSub, Int.reduceMul, ↓reduceIte, reduceCtorEq] at hf68
            have c69 : v56.length = o53.2.length := by cases c67; simp only [List.length_append, List.length_take, List.length_replicate, List.length_drop, List.length_set, List.length_cons, List.length_nil, List.length_map]; omega
            clear c67
            refine rq_i fun c70 => ?_
            refine bnd_i fun r57 c71 => ?_
            refine bnd_i fun r58 c72 => ?_
            refine bnd_i fun r59 c73 => ?_
            rintro ⟨⟩
            simp only [go_sem, Nat.reduceAdd, Nat.reduceSub, Nat.reduceMul, Nat.reduceEqDiff, Nat.reduceBEq, Nat.reduceLT, Nat.reduceLeDiff, Nat.reducePow, Int.reduceToNat, Int.reduceLT, Int.reduceLE, Int.reduceGT, Int.reduceGE, Int.reduceEq, Int.reduceNeg, Int.reduceAdd, Int.reduceSub, Int.reduceMul, ↓reduceIte, reduceCtorEq, *]
noncomputable def s_bound_Fuse_Quanta (L : Nat) : Ev.Spec := specP (cCons k35 (cCons (cI .i64) cNil)) (fun x => p_bound_Fuse_Quanta L x.1 x.2.1) (fun r => [.agg 43 [.int .i64 r.1, .int .i64 r.2.1, .bool r.2.2]])
theorem s_bound_Fuse_Quanta_run (L : Nat) (a0 : List (Int × Int × Bool × Unit)) (a1 : Int) : (s_bound_Fuse_Quanta L).run [.sl 43 (a0.map k43.e), .int .i64 a1] = (p_bound_Fuse_Quanta L a0 a1).map fun r => [.agg 43 [.int .i64 r.1, .int .i64 r.2.1, .bool r.2.2]] := specP_run (cCons k35 (cCons (cI .i64) cNil)) (fun x => p_bound_Fuse_Quanta L x.1 x.2.1) (fun r => [.agg 43 [.int .i64 r.1, .int .i64 r.2.1, .bool r.2.2]]) (a0, a1, ())
theorem ok_bound_Fuse_Quanta (L : Nat) (hL : L ≤ 4611686018427387904) : SpecOk Try.prog 99 (s_bound_Fuse_Quanta L) := specP_ok mixed (Go_bound_Fuse_Quanta L hL) (To_bound_Fuse_Quanta L) fun x r h => ⟨L, 4, e_bound_Fuse_Quanta L hL x.1 x.2.1 r h⟩
end Go.Proofs.Ytjplkbeolakbjaa.P
end
section
set_option linter.unusedVariables false
set_option linter.unusedSimpArgs false
set_option maxRecDepth 100000
namespace Go.Proofs.Ytjplkbeolakbjaa.E
open Go.Ev
noncomputable def en126 : Entry := ⟨Try.f126, [(0, mb 97 0 [1, 4, 5, 16, 17, 18]), (2, mb 97 0 [1, 4, 5, 8, 40, 41, 42]), (4, mb 97 0 [1, 4, 5, 8, 40, 41, 42, 50, 51]), (6, mb 97 0 [1, 4, 5, 8, 12, 13, 40, 41, 42, 50, 51, 54, 55, 56]), (1000001, mb 97 0 [1, 4, 5]), (1000002, mb 97 0 [1, 4, 5, 16, 17, 18]), (1000003, mb 97 0 [4, 8]), (1000004, mb 97 0 [1, 4, 5, 8, 40, 41, 42]), (1000005, mb 97 0 [1, 4, 5, 8, 40, 41, 42]), (1000006, mb 97 0 [1, 4, 5, 8, 40, 41, 42, 50, 51]), (1000007, mb 97 0 [1, 4, 5, 8, 12, 13, 40, 41, 42, 50, 51]), (1000008, mb 97 0 [1, 4, 5, 8, 12, 13, 40, 41, 42, 50, 51, 54, 55, 56]), (1000000, mb 97 0 [4])]⟩
theorem mk126_0 (vs : List V) : mask (maskOf en126.ms 0) vs = km 97 0 [1, 4, 5, 16, 17, 18] vs := mask_mb _ _ _ _
theorem mk126_2 (vs : List V) : mask (maskOf en126.ms 2) vs = km 97 0 [1, 4, 5, 8, 40, 41, 42] vs := mask_mb _ _ _ _
theorem mk126_4 (vs : List V) : mask (maskOf en126.ms 4) vs = km 97 0 [1, 4, 5, 8, 40, 41, 42, 50, 51] vs := mask_mb _ _ _ _
theorem mk126_6 (vs : List V) : mask (maskOf en126.ms 6) vs = km 97 0 [1, 4, 5, 8, 12, 13, 40, 41, 42, 50, 51, 54, 55, 56] vs := mask_mb _ _ _ _
theorem mk126_1000001 (vs : List V) : mask (maskOf en126.ms 1000001) vs = km 97 0 [1, 4, 5] vs := mask_mb _ _ _ _
theorem mk126_1000002 (vs : List V) : mask (maskOf en126.ms 1000002) vs = km 97 0 [1, 4, 5, 16, 17, 18] vs := mask_mb _ _ _ _
theorem mk126_1000003 (vs : List V) : mask (maskOf en126.ms 1000003) vs = km 97 0 [4, 8] vs := mask_mb _ _ _ _
theorem mk126_1000004 (vs : List V) : mask (maskOf en126.ms 1000004) vs = km 97 0 [1, 4, 5, 8, 40, 41, 42] vs := mask_mb _ _ _ _
theorem mk126_1000005 (vs : List V) : mask (maskOf en126.ms 1000005) vs = km 97 0 [1, 4, 5, 8, 40, 41, 42] vs := mask_mb _ _ _ _
theorem mk126_1000006 (vs : List V) : mask (maskOf en126.ms 1000006) vs = km 97 0 [1, 4, 5, 8, 40, 41, 42, 50, 51] vs := mask_mb _ _ _ _
theorem mk126_1000007 (vs : List V) : mask (maskOf en126.ms 1000007) vs = km 97 0 [1, 4, 5, 8, 12, 13, 40, 41, 42, 50, 51] vs := mask_mb _ _ _ _
theorem mk126_1000008 (vs : List V) : mask (maskOf en126.ms 1000008) vs = km 97 0 [1, 4, 5, 8, 12, 13, 40, 41, 42, 50, 51, 54, 55, 56] vs := mask_mb _ _ _ _
theorem mk126_1000000 (vs : List V) : mask (maskOf en126.ms 1000000) vs = km 97 0 [4] vs := mask_mb _ _ _ _
noncomputable def lb126_0 : Code := loopN Try.f126 0
noncomputable def lb126_2 : Code := loopN Try.f126 1
noncomputable def lb126_4 : Code := loopN Try.f126 2
noncomputable def lb126_6 : Code := loopN Try.f126 3
end Go.Proofs.Ytjplkbeolakbjaa.E
end
section
set_option linter.unusedVariables false
set_option linter.unusedSimpArgs false
set_option maxRecDepth 100000
namespace Go.Proofs.Ytjplkbeolakbjaa.E
open Go.Ev
noncomputable def en82 : Entry := ⟨Try.f82, [(1000000, mb 22 0 [2])]⟩
theorem mk82_1000000 (vs : List V) : mask (maskOf en82.ms 1000000) vs = km 22 0 [2] vs := mask_mb _ _ _ _
end Go.Proofs.Ytjplkbeolakbjaa.E
end
section
set_option linter.unusedVariables false
set_option linter.unusedSimpArgs false
set_option maxRecDepth 100000
namespace Go.Proofs.Ytjplkbeolakbjaa.P
open Go.Ev Go.IntKind Go.Proofs.Ytjplkbeolakbjaa Go.Proofs.Ytjplkbeolakbjaa.Ty Go.Proofs.Ytjplkbeolakbjaa.E
def p_spyref3_Bad_Quanta (L : Nat) (a0_0 : Int) (a0_1 : Int) (a0_2 : Bool) : Option Bool := cb a0_2 (some true) (if a0_0 > a0_1 then (some true) else (if a0_0 < (-1152921504606846976) then (some true) else (some (decide (a0_1 > 1152921504606846976)))))
attribute [local go_sem] Ev.putR_s Ev.putR_0 Ev.thenO_s Ev.thenO_0 Ev.seqR_n Ev.seqR_e Ev.seqR_r Ev.seqR_0 Ev.blkR_e Ev.blkR_n Ev.blkR_r Ev.blkR_0 Ev.normR_s Ev.normR_0 Ev.outR_r Ev.outR_n Ev.outR_0 Ev.retS_s Ev.retS_0 Ev.pureO_s Ev.pureO_0 Ev.topR_0 Ev.topR_t Ev.topR_t0 Ev.oneL_0 Ev.oneL_s Ev.topR_d Ev.topR_nils Ev.topR_agg Ev.topR_rs Ev.evOp_move Ev.evOp_assign Ev.evOp_pick Ev.evOp_alloc Ev.evOp_box Ev.evOp_build Ev.evOp_buildSlice Ev.evOp_load Ev.evOp_store Ev.evOp_makeMap Ev.evOp_lookup Ev.evOp_mapUpdate Ev.evOp_insert Ev.evOp_nilCheck Ev.evOp_binOp Ev.evOp_unOp Ev.evOp_convert Ev.evOp_makeFunc Ev.evOp_makeSlice Ev.evOp_slice Ev.evOp_fieldAddr Ev.evOp_field Ev.evOp_indexAddr Ev.evOp_index Ev.evOp_extract Ev.evOp_call Ev.evOp_append Ev.evOp_clear Ev.evOp_len Ev.evOp_min Ev.evOp_max Ev.condR_b Ev.condR_t Ev.evOps_nil Ev.evOps_plain Ev.evOps_guard Ev.runG_eq Ev.skipG_eq Ev.condL_tt Ev.condL_ff Ev.condL_tf Ev.condL_ft Ev.condL_u Ev.condC_t Ev.condC_f Ev.evC_skip Ev.evC_ret Ev.evC_exit Ev.evC_label Ev.evC_region Ev.evC_draw Ev.evC_seq Ev.evC_cond Ev.evC_block Ev.evC_loop Ev.fin_d Ev.fin_nils Ev.fin_agg_ Ev.fin_rs Ev.finS_s Ev.mapO_fin Ev.upd_upd Ev.argv_d Ev.argv_nils Ev.argv_agg Ev.argv_rs Ev.argv_p Ev.fk_low Ev.appendTo_nils Ev.appendTo_rs Ev.consV_d Ev.consV_agg Ev.consV_p Ev.consV_rs Ev.consV_nils Ev.consV_fn Ev.consV_und Ev.consV_jk Ev.consV_grown Ev.topR_grown Ev.len_grown Ev.consV_mp Ev.sameK_i Ev.sameK_s Ev.mget_0 Ev.mget_hit Ev.mget_miss Ev.mput_0 Ev.mput_hit Ev.mput_miss Ev.apartAll Ev.apartL Ev.apartV Ev.freeAll Ev.sel Ev.keyOfV Ev.evLookup Ev.evPut Ev.hintOk Ev.keyOk Ev.consP Ev.lookV Ev.guardV Ev.dstAt Ev.evPure Ev.evStore Ev.evBin Ev.evBinO Ev.evNil Ev.isNilC Ev.evUn Ev.evConv Ev.evSlice Ev.optI Ev.foldI Ev.capsOk Ev.noTup Ev.nth Ev.setN Ev.killAt Ev.pad Ev.V.get Ev.V.put Ev.putD Ev.newBlk Ev.upd Ev.keq Ev.empty Ev.evCall Ev.V.args Ev.argP Ev.callOf Ev.evNilP Ev.isNilP Ev.look Ev.V.view.views Ev.V.view Ev.V.toD Ev.V.toD.V.toDs Ev.V.pure.pures Ev.V.pure Ev.D.flat.flats Ev.D.flat Ev.mkAgg Ev.allD Ev.aggParts Ev.setParts Ev.setElems Ev.getPath Ev.setPath Ev.subL Ev.eqD Ev.eqD.eqDs Ev.and2 Ev.strCut Ev.evalT Ev.constT Ev.evArgs Ev.mask Ev.maskOf Ev.tableOf Ev.compT Ev.resV Ev.retV Ev.mapO Ev.allD_gl Ev.killAt_i Ev.tkOne_i Ev.hT_agg Ev.hT_vagg Ev.hT_int Ev.hT_bool Ev.hT_str Ev.hT_sl Ev.hT_ptr Ev.hT_np Ev.hT_p Ev.hT_rs Ev.hT_mp Ev.hT_nils Ev.hT_fn Ev.hT_jk Ev.hT_gl Ev.eO_sl Ev.eO_nils Ev.eO_rs Ev.eT_sl Ev.eT_rs Ev.pL_str Ev.pL_sl Ev.pL_rs Ev.pL_nils Ev.pL_min Ev.pL_max Ev.len_glB Ev.noTup_gl Ev.rowV_len Ev.rowV_nil Ev.rowV_cons Ev.rowV_append Ev.rowV_set Ev.rowV_replicate Ev.nth_row Ev.row_take Ev.row_drop Ev.toDs_row Ev.fin_row Ev.map_row Ev.map_take_ Ev.map_drop_ Ev.Bk_i Ev.GlB_0 Ev.GlB_mk Ev.gl_nil Ev.gl_cons Ev.gl_snoc Ev.gl_setN Ev.appendTo_gl Ev.consV_gl Ev.elems_gl Ev.fin_gl Ev.view_gl Ev.argv_gl Ev.topR_gl Ev.sp_z Ev.sp_0 Ev.sp_s Ev.km_z Ev.km_0 Ev.km_s Ev.beq_toList Ev.nc0 Ev.bq_t Ev.bq_f Ev.bodyN Ev.le_maxRow Int.cast_ofNat_Int IntWalk.i64_in IntWalk.u64_in IntWalk.u8_in beq_self_eq_true Bool.true_beq Bool.false_beq Bool.and_true Bool.true_and Bool.false_and Bool.and_false Bool.and_self Bool.not_true Bool.not_false Bool.not_eq_true cond_true cond_false if_true if_false and_true true_and and_self decide_true decide_false Bool.or_true Bool.true_or Bool.or_false Bool.false_or List.isEmpty List.isEmpty_nil List.size_toArray List.map List.length_map List.length_cons List.length_nil Option.map Option.bind Option.getD Option.isSome List.replicate Bool.false_eq_true implies_true false_implies forall_const Array.toList Array.isEmpty List.append List.nil_append List.cons_append List.drop_zero List.take_length List.take_succ_cons List.take_zero List.take_nil List.getElem?_map List.getElem?_cons_zero List.getElem?_cons_succ List.getElem?_nil List.append_nil eq_self Int.toNat_natCast List.length_append Nat.zero_add Nat.add_zero List.length_replicate Nat.sub_zero Option.map_some Option.map_none Int.le_refl Nat.le_refl
noncomputable def G_spyref3_Bad_Quanta (L : Nat) : Specs := []
noncomputable def T_spyref3_Bad_Quanta : Table := tableOf [(82, en82)]
theorem Go_spyref3_Bad_Quanta (L : Nat) (hL : L ≤ 4611686018427387904) : ∀ g s, Ev.look (G_spyref3_Bad_Quanta L) g = some s → SpecOk Try.prog g s := specs_nil
theorem To_spyref3_Bad_Quanta (L : Nat) : TableOk Try.prog ((G_spyref3_Bad_Quanta L).map (·.1)) T_spyref3_Bad_Quanta := (table_cons Try.func82 (by kernel_rfl) (by kernel_rfl) table_nil)
attribute [local go_sem] Ty.tk4 Ty.ub4 Ty.ek4 Ty.zv4 Ty.by4 Ty.so4 Ty.tk27 Ty.ik27 Ty.ek27 Ty.zv27 Ty.by27 Ty.so27 Ty.tk43 Ty.ct43 Ty.ek43 Ty.zv43 Ty.by43 Ty.so43 Ty.k43_e E.mk82_1000000 loopN loops Try.f82
theorem e_spyref3_Bad_Quanta (L : Nat) (hL : L ≤ 4611686018427387904) (a0_0 : Int) (a0_1 : Int) (a0_2 : Bool) (res : Bool) (h : p_spyref3_Bad_Quanta L a0_0 a0_1 a0_2 = some res) : evTop Try.prog (G_spyref3_Bad_Quanta L) T_spyref3_Bad_Quanta L 1 82 [.agg 43 [.int .i64 a0_0, .int .i64 a0_1, .bool a0_2]] = some [.bool res] := by
  revert h
  unfold p_spyref3_Bad_Quanta evTop
  simp only [List.map]
  rw [evF_s (fn := Try.f82) (msk := en82.ms) (hT := by rfl) (hb := by rfl)]
  refine cb_i (fun c1 => ?_) (fun c1 => ?_)
  · rintro ⟨⟩
    simp only [go_sem, Nat.reduceAdd, Nat.reduceSub, Nat.reduceMul, Nat.reduceEqDiff, Nat.reduceBEq, Nat.reduceLT, Nat.reduceLeDiff, Nat.reducePow, Int.reduceToNat, Int.reduceLT, Int.reduceLE, Int.reduceGT, Int.reduceGE, Int.reduceEq, Int.reduceNeg, Int.reduceAdd, Int.reduceSub, Int.reduceMul, ↓reduceIte, reduceCtorEq, *]
  · refine ite_i (fun c2 => ?_) (fun c2 => ?_)
    · rintro ⟨⟩
      simp only [go_sem, Nat.reduceAdd, Nat.reduceSub, Nat.reduceMul, Nat.reduceEqDiff, Nat.reduceBEq, Nat.reduceLT, Nat.reduceLeDiff, Nat.reducePow, Int.reduceToNat, Int.reduceLT, Int.reduceLE, Int.reduceGT, Int.reduceGE, Int.reduceEq, Int.reduceNeg, Int.reduceAdd, Int.reduceSub, Int.reduceMul, ↓reduceIte, reduceCtorEq, *]
    · refine ite_i (fun c3 => ?_) (fun c3 => ?_)
      · rintro ⟨⟩
        simp only [go_sem, Nat.reduceAdd, Nat.reduceSub, Nat.reduceMul, Nat.reduceEqDiff, Nat.reduceBEq, Nat.reduceLT, Nat.reduceLeDiff, Nat.reducePow, Int.reduceToNat, Int.reduceLT, Int.reduceLE, Int.reduceGT, Int.reduceGE, Int.reduceEq, Int.reduceNeg, Int.reduceAdd, Int.reduceSub, Int.reduceMul, ↓reduceIte, reduceCtorEq, *]
      · rintro ⟨⟩
        simp only [go_sem, Nat.reduceAdd, Nat.reduceSub, Nat.reduceMul, Nat.reduceEqDiff, Nat.reduceBEq, Nat.reduceLT, Nat.reduceLeDiff, Nat.reducePow, Int.reduceToNat, Int.reduceLT, Int.reduceLE, Int.reduceGT, Int.reduceGE, Int.reduceEq, Int.reduceNeg, Int.reduceAdd, Int.reduceSub, Int.reduceMul, ↓reduceIte, reduceCtorEq, *]
noncomputable def s_spyref3_Bad_Quanta (L : Nat) : Ev.Spec := specP (cCons k43 cNil) (fun x => p_spyref3_Bad_Quanta L x.1.1 x.1.2.1 x.1.2.2.1) (fun r => [.bool r])
theorem s_spyref3_Bad_Quanta_run (L : Nat) (a0_0 : Int) (a0_1 : Int) (a0_2 : Bool) : (s_spyref3_Bad_Quanta L).run [.agg 43 [.int .i64 a0_0, .int .i64 a0_1, .bool a0_2]] = (p_spyref3_Bad_Quanta L a0_0 a0_1 a0_2).map fun r => [.bool r] := specP_run (cCons k43 cNil) (fun x => p_spyref3_Bad_Quanta L x.1.1 x.1.2.1 x.1.2.2.1) (fun r => [.bool r]) ((a0_0, a0_1, a0_2, ()), ())
theorem ok_spyref3_Bad_Quanta (L : Nat) (hL : L ≤ 4611686018427387904) : SpecOk Try.prog 82 (s_spyref3_Bad_Quanta L) := specP_ok mixed (Go_spyref3_Bad_Quanta L hL) (To_spyref3_Bad_Quanta L) fun x r h => ⟨L, 1, e_spyref3_Bad_Quanta L hL x.1.1 x.1.2.1 x.1.2.2.1 r h⟩
end Go.Proofs.Ytjplkbeolakbjaa.P
end
section
set_option linter.unusedVariables false
set_option linter.unusedSimpArgs false
set_option maxRecDepth 100000
namespace Go.Proofs.Ytjplkbeolakbjaa.P
open Go.Ev Go.IntKind Go.Proofs.Ytjplkbeolakbjaa Go.Proofs.Ytjplkbeolakbjaa.Ty Go.Proofs.Ytjplkbeolakbjaa.E
def p_spyref3_Fused_Quanta_l0 (L : Nat)  : List (Int × Int × Bool × Unit) → (List (Int × Int × Bool × Unit)) → Option (List (Int × Int × Bool × Unit))
  | [], s4 => some s4
  | x1 :: tl, s4 => bnd (p_spyref3_Bad_Quanta L x1.1 x1.2.1 x1.2.2.1) fun r6 => cb r6 (p_spyref3_Fused_Quanta_l0 L  tl s4) (rq (s4.length + 1 ≤ maxRow) <| rq ((s4.length + 1) * 24 ≤ maxRow) <| p_spyref3_Fused_Quanta_l0 L  tl (s4 ++ [x1]))
def p_spyref3_Fused_Quanta_l3 (L : Nat) (a96 : Int) : List (Int × Int × Bool × Unit) → Int → Option Int
  | [], s124 => some s124
  | x122 :: tl, s124 => if x122.1 ≤ a96 then (if a96 ≤ x122.2.1 then (p_spyref3_Fused_Quanta_l3 L a96 tl (i64.wrap (s124 + 1))) else (p_spyref3_Fused_Quanta_l3 L a96 tl s124)) else (p_spyref3_Fused_Quanta_l3 L a96 tl s124)
def p_spyref3_Fused_Quanta_l4 (L : Nat) (a97 : Int) : List (Int × Int × Bool × Unit) → Int → Option Int
  | [], s129 => some s129
  | x127 :: tl, s129 => if x127.1 ≤ a97 then (if a97 ≤ x127.2.1 then (p_spyref3_Fused_Quanta_l4 L a97 tl (i64.wrap (s129 + 1))) else (p_spyref3_Fused_Quanta_l4 L a97 tl s129)) else (p_spyref3_Fused_Quanta_l4 L a97 tl s129)
def p_spyref3_Fused_Quanta_l2 (L : Nat) (a1 : Int) (a96 : Int) (a97 : Int) (o7 : List (Int × Int × Bool × Unit)) : Nat → Int → Int → Int → Bool → Option (Int × Int × Bool)
  | 0, s98, s109, s110, s111 => some (s109, s110, s111)
  | tl + 1, s98, s109, s110, s111 => cb (decide (s98 = 0)) (rq (o7.length < L) <| bnd (p_spyref3_Fused_Quanta_l3 L a96 o7 0) fun o125 => if o125 < (i64.wrap ((o7.length : Int) - a1)) then (p_spyref3_Fused_Quanta_l2 L a1 a96 a97 o7 tl (s98 + 1) s109 s110 s111) else (cb s111 (p_spyref3_Fused_Quanta_l2 L a1 a96 a97 o7 tl (s98 + 1) (minI a96 a96) (maxI a96 a96) false) (p_spyref3_Fused_Quanta_l2 L a1 a96 a97 o7 tl (s98 + 1) (minI s109 a96) (maxI s110 a96) s111))) (cb (decide (s98 = 1)) (rq (o7.length < L) <| bnd (p_spyref3_Fused_Quanta_l4 L a97 o7 0) fun o130 => if o130 < (i64.wrap ((o7.length : Int) - a1)) then (p_spyref3_Fused_Quanta_l2 L a1 a96 a97 o7 tl (s98 + 1) s109 s110 s111) else (cb s111 (p_spyref3_Fused_Quanta_l2 L a1 a96 a97 o7 tl (s98 + 1) (minI a97 a97) (maxI a97 a97) false) (p_spyref3_Fused_Quanta_l2 L a1 a96 a97 o7 tl (s98 + 1) (minI s109 a97) (maxI s110 a97) s111))) (none))
def p_spyref3_Fused_Quanta_l1 (L : Nat) (a1 : Int) (o7 : List (Int × Int × Bool × Unit)) : List (Int × Int × Bool × Unit) → Int → Int → Bool → Option (Int × Int × Bool)
  | [], s51, s52, s53 => some (s51, s52, s53)
  | x9 :: tl, s51, s52, s53 => rq (2 < L) <| bnd (p_spyref3_Fused_Quanta_l2 L a1 x9.1 x9.2.1 o7 2 0 s51 s52 s53) fun o132 => p_spyref3_Fused_Quanta_l1 L a1 o7 tl o132.1 o132.2.1 o132.2.2
def p_spyref3_Fused_Quanta (L : Nat) (a0 : List (Int × Int × Bool × Unit)) (a1 : Int) : Option (Int × Int × Bool) := rq (a0.length < L) <| bnd (p_spyref3_Fused_Quanta_l0 L a0 ([])) fun o7 => if a1 < 0 then (some (0, 0, true)) else (if a1 ≥ (o7.length : Int) then (some (0, 0, true)) else (rq (o7.length < L) <| bnd (p_spyref3_Fused_Quanta_l1 L a1 o7 o7 0 0 true) fun o134 => some (o134.1, o134.2.1, o134.2.2)))
attribute [local go_sem] Ev.putR_s Ev.putR_0 Ev.thenO_s Ev.thenO_0 Ev.seqR_n Ev.seqR_e Ev.seqR_r Ev.seqR_0 Ev.blkR_e Ev.blkR_n Ev.blkR_r Ev.blkR_0 Ev.normR_s Ev.normR_0 Ev.outR_r Ev.outR_n Ev.outR_0 Ev.retS_s Ev.retS_0 Ev.pureO_s Ev.pureO_0 Ev.topR_0 Ev.topR_t Ev.topR_t0 Ev.oneL_0 Ev.oneL_s Ev.topR_d Ev.topR_nils Ev.topR_agg Ev.topR_rs Ev.evOp_move Ev.evOp_assign Ev.evOp_pick Ev.evOp_alloc Ev.evOp_box Ev.evOp_build Ev.evOp_buildSlice Ev.evOp_load Ev.evOp_store Ev.evOp_makeMap Ev.evOp_lookup Ev.evOp_mapUpdate Ev.evOp_insert Ev.evOp_nilCheck Ev.evOp_binOp Ev.evOp_unOp Ev.evOp_convert Ev.evOp_makeFunc Ev.evOp_makeSlice Ev.evOp_slice Ev.evOp_fieldAddr Ev.evOp_field Ev.evOp_indexAddr Ev.evOp_index Ev.evOp_extract Ev.evOp_call Ev.evOp_append Ev.evOp_clear Ev.evOp_len Ev.evOp_min Ev.evOp_max Ev.condR_b Ev.condR_t Ev.evOps_nil Ev.evOps_plain Ev.evOps_guard Ev.runG_eq Ev.skipG_eq Ev.condL_tt Ev.condL_ff Ev.condL_tf Ev.condL_ft Ev.condL_u Ev.condC_t Ev.condC_f Ev.evC_skip Ev.evC_ret Ev.evC_exit Ev.evC_label Ev.evC_region Ev.evC_draw Ev.evC_seq Ev.evC_cond Ev.evC_block Ev.evC_loop Ev.fin_d Ev.fin_nils Ev.fin_agg_ Ev.fin_rs Ev.finS_s Ev.mapO_fin Ev.upd_upd Ev.argv_d Ev.argv_nils Ev.argv_agg Ev.argv_rs Ev.argv_p Ev.fk_low Ev.appendTo_nils Ev.appendTo_rs Ev.consV_d Ev.consV_agg Ev.consV_p Ev.consV_rs Ev.consV_nils Ev.consV_fn Ev.consV_und Ev.consV_jk Ev.consV_grown Ev.topR_grown Ev.len_grown Ev.consV_mp Ev.sameK_i Ev.sameK_s Ev.mget_0 Ev.mget_hit Ev.mget_miss Ev.mput_0 Ev.mput_hit Ev.mput_miss Ev.apartAll Ev.apartL Ev.apartV Ev.freeAll Ev.sel Ev.keyOfV Ev.evLookup Ev.evPut Ev.hintOk Ev.keyOk Ev.consP Ev.lookV Ev.guardV Ev.dstAt Ev.evPure Ev.evStore Ev.evBin Ev.evBinO Ev.evNil Ev.isNilC Ev.evUn Ev.evConv Ev.evSlice Ev.optI Ev.foldI Ev.capsOk Ev.noTup Ev.nth Ev.setN Ev.killAt Ev.pad Ev.V.get Ev.V.put Ev.putD Ev.newBlk Ev.upd Ev.keq Ev.empty Ev.evCall Ev.V.args Ev.argP Ev.callOf Ev.evNilP Ev.isNilP Ev.look Ev.V.view.views Ev.V.view Ev.V.toD Ev.V.toD.V.toDs Ev.V.pure.pures Ev.V.pure Ev.D.flat.flats Ev.D.flat Ev.mkAgg Ev.allD Ev.aggParts Ev.setParts Ev.setElems Ev.getPath Ev.setPath Ev.subL Ev.eqD Ev.eqD.eqDs Ev.and2 Ev.strCut Ev.evalT Ev.constT Ev.evArgs Ev.mask Ev.maskOf Ev.tableOf Ev.compT Ev.resV Ev.retV Ev.mapO Ev.allD_gl Ev.killAt_i Ev.tkOne_i Ev.hT_agg Ev.hT_vagg Ev.hT_int Ev.hT_bool Ev.hT_str Ev.hT_sl Ev.hT_ptr Ev.hT_np Ev.hT_p Ev.hT_rs Ev.hT_mp Ev.hT_nils Ev.hT_fn Ev.hT_jk Ev.hT_gl Ev.eO_sl Ev.eO_nils Ev.eO_rs Ev.eT_sl Ev.eT_rs Ev.pL_str Ev.pL_sl Ev.pL_rs Ev.pL_nils Ev.pL_min Ev.pL_max Ev.len_glB Ev.noTup_gl Ev.rowV_len Ev.rowV_nil Ev.rowV_cons Ev.rowV_append Ev.rowV_set Ev.rowV_replicate Ev.nth_row Ev.row_take Ev.row_drop Ev.toDs_row Ev.fin_row Ev.map_row Ev.map_take_ Ev.map_drop_ Ev.Bk_i Ev.GlB_0 Ev.GlB_mk Ev.gl_nil Ev.gl_cons Ev.gl_snoc Ev.gl_setN Ev.appendTo_gl Ev.consV_gl Ev.elems_gl Ev.fin_gl Ev.view_gl Ev.argv_gl Ev.topR_gl Ev.sp_z Ev.sp_0 Ev.sp_s Ev.km_z Ev.km_0 Ev.km_s Ev.beq_toList Ev.nc0 Ev.bq_t Ev.bq_f Ev.bodyN Ev.le_maxRow Int.cast_ofNat_Int IntWalk.i64_in IntWalk.u64_in IntWalk.u8_in beq_self_eq_true Bool.true_beq Bool.false_beq Bool.and_true Bool.true_and Bool.false_and Bool.and_false Bool.and_self Bool.not_true Bool.not_false Bool.not_eq_true cond_true cond_false if_true if_false and_true true_and and_self decide_true decide_false Bool.or_true Bool.true_or Bool.or_false Bool.false_or List.isEmpty List.isEmpty_nil List.size_toArray List.map List.length_map List.length_cons List.length_nil Option.map Option.bind Option.getD Option.isSome List.replicate Bool.false_eq_true implies_true false_implies forall_const Array.toList Array.isEmpty List.append List.nil_append List.cons_append List.drop_zero List.take_length List.take_succ_cons List.take_zero List.take_nil List.getElem?_map List.getElem?_cons_zero List.getElem?_cons_succ List.getElem?_nil List.append_nil eq_self Int.toNat_natCast List.length_append Nat.zero_add Nat.add_zero List.length_replicate Nat.sub_zero Option.map_some Option.map_none Int.le_refl Nat.le_refl
noncomputable def G_spyref3_Fused_Quanta (L : Nat) : Specs := [(82, s_spyref3_Bad_Quanta L)]
noncomputable def T_spyref3_Fused_Quanta : Table := tableOf [(126, en126)]
theorem Go_spyref3_Fused_Quanta (L : Nat) (hL : L ≤ 4611686018427387904) : ∀ g s, Ev.look (G_spyref3_Fused_Quanta L) g = some s → SpecOk Try.prog g s := (specs_cons (ok_spyref3_Bad_Quanta L hL) specs_nil)
theorem To_spyref3_Fused_Quanta (L : Nat) : TableOk Try.prog ((G_spyref3_Fused_Quanta L).map (·.1)) T_spyref3_Fused_Quanta := (table_cons Try.func126 (by kernel_rfl) (by kernel_rfl) table_nil)
theorem lk_spyref3_Fused_Quanta_82 (L : Nat) : Ev.look (G_spyref3_Fused_Quanta L) 82 = some (s_spyref3_Bad_Quanta L) := nr rfl
attribute [local go_sem] Ty.tk3 Ty.ik3 Ty.ek3 Ty.zv3 Ty.by3 Ty.so3 Ty.tk4 Ty.ub4 Ty.ek4 Ty.zv4 Ty.by4 Ty.so4 Ty.tk27 Ty.ik27 Ty.ek27 Ty.zv27 Ty.by27 Ty.so27 Ty.tk35 Ty.zv35 Ty.by35 Ty.so35 Ty.tk43 Ty.ct43 Ty.ek43 Ty.zv43 Ty.by43 Ty.so43 Ty.tk164 Ty.ct164 Ty.zv164 Ty.by164 Ty.so164 Ty.k35_e Ty.k43_e Ty.k164_e E.mk126_0 E.mk126_2 E.mk126_4 E.mk126_6 E.mk126_1000001 E.mk126_1000002 E.mk126_1000003 E.mk126_1000004 E.mk126_1000005 E.mk126_1000006 E.mk126_1000007 E.mk126_1000008 E.mk126_1000000 E.lb126_0 E.lb126_2 E.lb126_4 E.lb126_6 lk_spyref3_Fused_Quanta_82 s_spyref3_Bad_Quanta_run loopN loops Try.f126
def Q0_p_spyref3_Fused_Quanta_l0 (a1 : Int) (a0 : List (Int × Int × Bool × Unit)) (u : List (Int × Int × Bool × Unit)) (z : Out) : Prop := ∃ env st, z = some (.exit 0, env, st) ∧ env = sp 97 0 [(1, .d (.int .i64 a1)), (4, .p (0, 4) (st (0, 4)).ver 0 []), (5, gl 43 (0, 28) (st (0, 28)).ver (rowV k43.e u))] ∧ Bk (st (0, 4)) 43 [.d (.agg 43 [.int .i64 0, .int .i64 0, .bool false])] ∧ GlB (st (0, 28)) 43 (rowV k43.e u)
abbrev Q_p_spyref3_Fused_Quanta_l0 (a1 : Int) (a0 : List (Int × Int × Bool × Unit)) (o : List (Int × Int × Bool × Unit)) (z : Out) : Prop := Q0_p_spyref3_Fused_Quanta_l0 a1 a0 o z
theorem l_p_spyref3_Fused_Quanta_l0 (L : Nat) (hL : L ≤ 4611686018427387904) (a1 : Int) (a0 : List (Int × Int × Bool × Unit)) : ∀ (tl : List (Int × Int × Bool × Unit)) (n : Nat) (s2 : Int) (s4 : List (Int × Int × Bool × Unit)) (env : List V) (st : Store) (o : List (Int × Int × Bool × Unit)), tl.length < n → Rng a0 s2 tl → mask (maskOf en126.ms 0) env = sp 97 0 [(1, .d (.int .i64 a1)), (4, .p (0, 4) (st (0, 4)).ver 0 []), (5, gl 43 (0, 28) (st (0, 28)).ver (rowV k43.e s4)), (16, .d (.sl 43 (a0.map k43.e))), (17, .d (.int .i64 (a0.length : Int))), (18, .d (.int .i64 s2))] → Bk (st (0, 4)) 43 [.d (.agg 43 [.int .i64 0, .int .i64 0, .bool false])] → GlB (st (0, 28)) 43 (rowV k43.e s4) → p_spyref3_Fused_Quanta_l0 L  tl s4 = some o →
    Q_p_spyref3_Fused_Quanta_l0 a1 a0 o (iter (evC Try.prog (G_spyref3_Fused_Quanta L) (evF Try.prog (G_spyref3_Fused_Quanta L) T_spyref3_Fused_Quanta L 0) L en126.ms 0 0 lb126_0) (maskOf en126.ms 0) n env st) := by
  intro tl
  induction tl with
  | nil =>
    intro n s2 s4 env st o hn hR he hb0 hb1 h
    obtain ⟨n, rfl⟩ : ∃ m, n = m + 1 := ⟨n - 1, by omega⟩
    obtain ⟨be0, bv0, bl0⟩ := hb0
    have g0 := rng_nil hR
    rw [iter, he]
    clear he
    generalize hK : iter _ _ n = K
    rw [p_spyref3_Fused_Quanta_l0] at h
    revert h
    rintro ⟨⟩
    simp only [go_sem, Nat.reduceAdd, Nat.reduceSub, Nat.reduceMul, Nat.reduceEqDiff, Nat.reduceBEq, Nat.reduceLT, Nat.reduceLeDiff, Nat.reducePow, Int.reduceToNat, Int.reduceLT, Int.reduceLE, Int.reduceGT, Int.reduceGE, Int.reduceEq, Int.reduceNeg, Int.reduceAdd, Int.reduceSub, Int.reduceMul, ↓reduceIte, reduceCtorEq, *]
    refine (⟨_, _, rfl, ?_, ?_, ?_⟩ : Q0_p_spyref3_Fused_Quanta_l0 a1 a0 _ _)
    all_goals simp only [go_sem, Nat.reduceAdd, Nat.reduceSub, Nat.reduceMul, Nat.reduceEqDiff, Nat.reduceBEq, Nat.reduceLT, Nat.reduceLeDiff, Nat.reducePow, Int.reduceToNat, Int.reduceLT, Int.reduceLE, Int.reduceGT, Int.reduceGE, Int.reduceEq, Int.reduceNeg, Int.reduceAdd, Int.reduceSub, Int.reduceMul, ↓reduceIte, reduceCtorEq, *]
  | cons x1 tl ih =>
    intro n s2 s4 env st o hn hR he hb0 hb1 h
    obtain ⟨n, rfl⟩ : ∃ m, n = m + 1 := ⟨n - 1, by omega⟩
    obtain ⟨be0, bv0, bl0⟩ := hb0
    replace ih : Hold _ := ih
    replace hR := rng_s hR
    obtain ⟨g0, g1, g2, g3, hR⟩ := hR
    rw [iter, he]
    clear he
    generalize hK : iter _ _ n = K
    rw [p_spyref3_Fused_Quanta_l0] at h
    revert h
    refine bnd_i fun r6 c1 => ?_
    refine cb_i (fun c2 => ?_) (fun c2 => ?_)
    · intro h
      simp only [go_sem, Nat.reduceAdd, Nat.reduceSub, Nat.reduceMul, Nat.reduceEqDiff, Nat.reduceBEq, Nat.reduceLT, Nat.reduceLeDiff, Nat.reducePow, Int.reduceToNat, Int.reduceLT, Int.reduceLE, Int.reduceGT, Int.reduceGE, Int.reduceEq, Int.reduceNeg, Int.reduceAdd, Int.reduceSub, Int.reduceMul, ↓reduceIte, reduceCtorEq, *]
      subst hK
      refine ih n (s2 + 1) s4 _ _ _ (by simp only [List.length_cons] at hn; omega) hR ?_ ?_ ?_ h
      all_goals simp only [go_sem, Nat.reduceAdd, Nat.reduceSub, Nat.reduceMul, Nat.reduceEqDiff, Nat.reduceBEq, Nat.reduceLT, Nat.reduceLeDiff, Nat.reducePow, Int.reduceToNat, Int.reduceLT, Int.reduceLE, Int.reduceGT, Int.reduceGE, Int.reduceEq, Int.reduceNeg, Int.reduceAdd, Int.reduceSub, Int.reduceMul, ↓reduceIte, reduceCtorEq, *]
    · refine rq_i fun c3 => ?_
      refine rq_i fun c4 => ?_
      intro h
      simp only [go_sem, Nat.reduceAdd, Nat.reduceSub, Nat.reduceMul, Nat.reduceEqDiff, Nat.reduceBEq, Nat.reduceLT, Nat.reduceLeDiff, Nat.reducePow, Int.reduceToNat, Int.reduceLT, Int.reduceLE, Int.reduceGT, Int.reduceGE, Int.reduceEq, Int.reduceNeg, Int.reduceAdd, Int.reduceSub, Int.reduceMul, ↓reduceIte, reduceCtorEq, *]
      subst hK
      refine ih n (s2 + 1) (s4 ++ [x1]) _ _ _ (by simp only [List.length_cons] at hn; omega) hR ?_ ?_ ?_ h
      all_goals simp only [go_sem, Nat.reduceAdd, Nat.reduceSub, Nat.reduceMul, Nat.reduceEqDiff, Nat.reduceBEq, Nat.reduceLT, Nat.reduceLeDiff, Nat.reducePow, Int.reduceToNat, Int.reduceLT, Int.reduceLE, Int.reduceGT, Int.reduceGE, Int.reduceEq, Int.reduceNeg, Int.reduceAdd, Int.reduceSub, Int.reduceMul, ↓reduceIte, reduceCtorEq, *]
def Q0_p_spyref3_Fused_Quanta_l3 (a1 : Int) (a96 : Int) (a95 : Int) (s10 : Int) (a97 : Int) (s98 : Int) (o7 : List (Int × Int × Bool × Unit)) (s109 : Int) (s110 : Int) (s111 : Bool) (u : Int) (z : Out) : Prop := ∃ env st, z = some (.exit 6, env, st) ∧ env = sp 97 0 [(1, .d (.int .i64 a1)), (4, .p (0, 4) (st (0, 4)).ver 0 []), (5, gl 43 (0, 28) (st (0, 28)).ver (rowV k43.e o7)), (8, .p (0, 8) (st (0, 8)).ver 0 []), (12, .d (.int .i64 a96)), (13, .d (.int .i64 u)), (40, gl 43 (0, 28) (st (0, 28)).ver (rowV k43.e o7)), (41, .d (.int .i64 a95)), (42, .d (.int .i64 s10)), (50, .d (.agg 164 [.int .i64 a96, .int .i64 a97])), (51, .d (.int .i64 s98))] ∧ Bk (st (0, 4)) 43 [.d (.agg 43 [.int .i64 0, .int .i64 0, .bool false])] ∧ Bk (st (0, 8)) 43 [.d (.agg 43 [.int .i64 s109, .int .i64 s110, .bool s111])] ∧ GlB (st (0, 28)) 43 (rowV k43.e o7)
abbrev Q_p_spyref3_Fused_Quanta_l3 (a1 : Int) (a96 : Int) (a95 : Int) (s10 : Int) (a97 : Int) (s98 : Int) (o7 : List (Int × Int × Bool × Unit)) (s109 : Int) (s110 : Int) (s111 : Bool) (o : Int) (z : Out) : Prop := Q0_p_spyref3_Fused_Quanta_l3 a1 a96 a95 s10 a97 s98 o7 s109 s110 s111 o z
theorem l_p_spyref3_Fused_Quanta_l3 (L : Nat) (hL : L ≤ 4611686018427387904) (a1 : Int) (a96 : Int) (a95 : Int) (s10 : Int) (a97 : Int) (s98 : Int) (o7 : List (Int × Int × Bool × Unit)) (s109 : Int) (s110 : Int) (s111 : Bool) : ∀ (tl : List (Int × Int × Bool × Unit)) (n : Nat) (s123 : Int) (s124 : Int) (env : List V) (st : Store) (o : Int), tl.length < n → Rng o7 s123 tl → mask (maskOf en126.ms 6) env = sp 97 0 [(1, .d (.int .i64 a1)), (4, .p (0, 4) (st (0, 4)).ver 0 []), (5, gl 43 (0, 28) (st (0, 28)).ver (rowV k43.e o7)), (8, .p (0, 8) (st (0, 8)).ver 0 []), (12, .d (.int .i64 a96)), (13, .d (.int .i64 s124)), (40, gl 43 (0, 28) (st (0, 28)).ver (rowV k43.e o7)), (41, .d (.int .i64 a95)), (42, .d (.int .i64 s10)), (50, .d (.agg 164 [.int .i64 a96, .int .i64 a97])), (51, .d (.int .i64 s98)), (54, gl 43 (0, 28) (st (0, 28)).ver (rowV k43.e o7)), (55, .d (.int .i64 (o7.length : Int))), (56, .d (.int .i64 s123))] → Bk (st (0, 4)) 43 [.d (.agg 43 [.int .i64 0, .int .i64 0, .bool false])] → Bk (st (0, 8)) 43 [.d (.agg 43 [.int .i64 s109, .int .i64 s110, .bool s111])] → GlB (st (0, 28)) 43 (rowV k43.e o7) → p_spyref3_Fused_Quanta_l3 L a96 tl s124 = some o →
    Q_p_spyref3_Fused_Quanta_l3 a1 a96 a95 s10 a97 s98 o7 s109 s110 s111 o (iter (evC Try.prog (G_spyref3_Fused_Quanta L) (evF Try.prog (G_spyref3_Fused_Quanta L) T_spyref3_Fused_Quanta L 0) L en126.ms 0 6 lb126_6) (maskOf en126.ms 6) n env st) := by
  intro tl
  induction tl with
  | nil =>
    intro n s123 s124 env st o hn hR he hb0 hb1 hb2 h
    obtain ⟨n, rfl⟩ : ∃ m, n = m + 1 := ⟨n - 1, by omega⟩
    obtain ⟨be0, bv0, bl0⟩ := hb0
    obtain ⟨be1, bv1, bl1⟩ := hb1
    have g0 := rng_nil hR
    rw [iter, he]
    clear he
    generalize hK : iter _ _ n = K
    rw [p_spyref3_Fused_Quanta_l3] at h
    revert h
    rintro ⟨⟩
    simp only [go_sem, Nat.reduceAdd, Nat.reduceSub, Nat.reduceMul, Nat.reduceEqDiff, Nat.reduceBEq, Nat.reduceLT, Nat.reduceLeDiff, Nat.reducePow, Int.reduceToNat, Int.reduceLT, Int.reduceLE, Int.reduceGT, Int.reduceGE, Int.reduceEq, Int.reduceNeg, Int.reduceAdd, Int.reduceSub, Int.reduceMul, ↓reduceIte, reduceCtorEq, *]
    refine (⟨_, _, rfl, ?_, ?_, ?_, ?_⟩ : Q0_p_spyref3_Fused_Quanta_l3 a1 a96 a95 s10 a97 s98 o7 s109 s110 s111 _ _)
    all_goals simp only [go_sem, Nat.reduceAdd, Nat.reduceSub, Nat.reduceMul, Nat.reduceEqDiff, Nat.reduceBEq, Nat.reduceLT, Nat.reduceLeDiff, Nat.reducePow, Int.reduceToNat, Int.reduceLT, Int.reduceLE, Int.reduceGT, Int.reduceGE, Int.reduceEq, Int.reduceNeg, Int.reduceAdd, Int.reduceSub, Int.reduceMul, ↓reduceIte, reduceCtorEq, *]
  | cons x122 tl ih =>
    intro n s123 s124 env st o hn hR he hb0 hb1 hb2 h
    obtain ⟨n, rfl⟩ : ∃ m, n = m + 1 := ⟨n - 1, by omega⟩
    obtain ⟨be0, bv0, bl0⟩ := hb0
    obtain ⟨be1, bv1, bl1⟩ := hb1
    replace ih : Hold _ := ih
    replace hR := rng_s hR
    obtain ⟨g0, g1, g2, g3, hR⟩ := hR
    rw [iter, he]
    clear he
    generalize hK : iter _ _ n = K
    rw [p_spyref3_Fused_Quanta_l3] at h
    have gn := gl_ne (f := k43.e) g2
    obtain ⟨gk1, gk2, gk3⟩ := hb2 (row_ne g2)
    revert h
    refine ite_i (fun c1 => ?_) (fun c1 => ?_)
    · refine ite_i (fun c2 => ?_) (fun c2 => ?_)
      · intro h
        simp only [go_sem, Nat.reduceAdd, Nat.reduceSub, Nat.reduceMul, Nat.reduceEqDiff, Nat.reduceBEq, Nat.reduceLT, Nat.reduceLeDiff, Nat.reducePow, Int.reduceToNat, Int.reduceLT, Int.reduceLE, Int.reduceGT, Int.reduceGE, Int.reduceEq, Int.reduceNeg, Int.reduceAdd, Int.reduceSub, Int.reduceMul, ↓reduceIte, reduceCtorEq, *]
        subst hK
        refine ih n (s123 + 1) (i64.wrap (s124 + 1)) _ _ _ (by simp only [List.length_cons] at hn; omega) hR ?_ ?_ ?_ ?_ h
        all_goals simp only [go_sem, Nat.reduceAdd, Nat.reduceSub, Nat.reduceMul, Nat.reduceEqDiff, Nat.reduceBEq, Nat.reduceLT, Nat.reduceLeDiff, Nat.reducePow, Int.reduceToNat, Int.reduceLT, Int.reduceLE, Int.reduceGT, Int.reduceGE, Int.reduceEq, Int.reduceNeg, Int.reduceAdd, Int.reduceSub, Int.reduceMul, ↓reduceIte, reduceCtorEq, *]
      · intro h
        simp only [go_sem, Nat.reduceAdd, Nat.reduceSub, Nat.reduceMul, Nat.reduceEqDiff, Nat.reduceBEq, Nat.reduceLT, Nat.reduceLeDiff, Nat.reducePow, Int.reduceToNat, Int.reduceLT, Int.reduceLE, Int.reduceGT, Int.reduceGE, Int.reduceEq, Int.reduceNeg, Int.reduceAdd, Int.reduceSub, Int.reduceMul, ↓reduceIte, reduceCtorEq, *]
        subst hK
        refine ih n (s123 + 1) s124 _ _ _ (by simp only [List.length_cons] at hn; omega) hR ?_ ?_ ?_ ?_ h
        all_goals simp only [go_sem, Nat.reduceAdd, Nat.reduceSub, Nat.reduceMul, Nat.reduceEqDiff, Nat.reduceBEq, Nat.reduceLT, Nat.reduceLeDiff, Nat.reducePow, Int.reduceToNat, Int.reduceLT, Int.reduceLE, Int.reduceGT, Int.reduceGE, Int.reduceEq, Int.reduceNeg, Int.reduceAdd, Int.reduceSub, Int.reduceMul, ↓reduceIte, reduceCtorEq, *]
    · intro h
      simp only [go_sem, Nat.reduceAdd, Nat.reduceSub, Nat.reduceMul, Nat.reduceEqDiff, Nat.reduceBEq, Nat.reduceLT, Nat.reduceLeDiff, Nat.reducePow, Int.reduceToNat, Int.reduceLT, Int.reduceLE, Int.reduceGT, Int.reduceGE, Int.reduceEq, Int.reduceNeg, Int.reduceAdd, Int.reduceSub, Int.reduceMul, ↓reduceIte, reduceCtorEq, *]
      subst hK
      refine ih n (s123 + 1) s124 _ _ _ (by simp only [List.length_cons] at hn; omega) hR ?_ ?_ ?_ ?_ h
      all_goals simp only [go_sem, Nat.reduceAdd, Nat.reduceSub, Nat.reduceMul, Nat.reduceEqDiff, Nat.reduceBEq, Nat.reduceLT, Nat.reduceLeDiff, Nat.reducePow, Int.reduceToNat, Int.reduceLT, Int.reduceLE, Int.reduceGT, Int.reduceGE, Int.reduceEq, Int.reduceNeg, Int.reduceAdd, Int.reduceSub, Int.reduceMul, ↓reduceIte, reduceCtorEq, *]
def Q0_p_spyref3_Fused_Quanta_l4 (a1 : Int) (a97 : Int) (a95 : Int) (s10 : Int) (a96 : Int) (s98 : Int) (o7 : List (Int × Int × Bool × Unit)) (s109 : Int) (s110 : Int) (s111 : Bool) (u : Int) (z : Out) : Prop := ∃ env st, z = some (.exit 6, env, st) ∧ env = sp 97 0 [(1, .d (.int .i64 a1)), (4, .p (0, 4) (st (0, 4)).ver 0 []), (5, gl 43 (0, 28) (st (0, 28)).ver (rowV k43.e o7)), (8, .p (0, 8) (st (0, 8)).ver 0 []), (12, .d (.int .i64 a97)), (13, .d (.int .i64 u)), (40, gl 43 (0, 28) (st (0, 28)).ver (rowV k43.e o7)), (41, .d (.int .i64 a95)), (42, .d (.int .i64 s10)), (50, .d (.agg 164 [.int .i64 a96, .int .i64 a97])), (51, .d (.int .i64 s98))] ∧ Bk (st (0, 4)) 43 [.d (.agg 43 [.int .i64 0, .int .i64 0, .bool false])] ∧ Bk (st (0, 8)) 43 [.d (.agg 43 [.int .i64 s109, .int .i64 s110, .bool s111])] ∧ GlB (st (0, 28)) 43 (rowV k43.e o7)
abbrev Q_p_spyref3_Fused_Quanta_l4 (a1 : Int) (a97 : Int) (a95 : Int) (s10 : Int) (a96 : Int) (s98 : Int) (o7 : List (Int × Int × Bool × Unit)) (s109 : Int) (s110 : Int) (s111 : Bool) (o : Int) (z : Out) : Prop := Q0_p_spyref3_Fused_Quanta_l4 a1 a97 a95 s10 a96 s98 o7 s109 s110 s111 o z
theorem l_p_spyref3_Fused_Quanta_l4 (L : Nat) (hL : L ≤ 4611686018427387904) (a1 : Int) (a97 : Int) (a95 : Int) (s10 : Int) (a96 : Int) (s98 : Int) (o7 : List (Int × Int × Bool × Unit)) (s109 : Int) (s110 : Int) (s111 : Bool) : ∀ (tl : List (Int × Int × Bool × Unit)) (n : Nat) (s128 : Int) (s129 : Int) (env : List V) (st : Store) (o : Int), tl.length < n → Rng o7 s128 tl → mask (maskOf en126.ms 6) env = sp 97 0 [(1, .d (.int .i64 a1)), (4, .p (0, 4) (st (0, 4)).ver 0 []), (5, gl 43 (0, 28) (st (0, 28)).ver (rowV k43.e o7)), (8, .p (0, 8) (st (0, 8)).ver 0 []), (12, .d (.int .i64 a97)), (13, .d (.int .i64 s129)), (40, gl 43 (0, 28) (st (0, 28)).ver (rowV k43.e o7)), (41, .d (.int .i64 a95)), (42, .d (.int .i64 s10)), (50, .d (.agg 164 [.int .i64 a96, .int .i64 a97])), (51, .d (.int .i64 s98)), (54, gl 43 (0, 28) (st (0, 28)).ver (rowV k43.e o7)), (55, .d (.int .i64 (o7.length : Int))), (56, .d (.int .i64 s128))] → Bk (st (0, 4)) 43 [.d (.agg 43 [.int .i64 0, .int .i64 0, .bool false])] → Bk (st (0, 8)) 43 [.d (.agg 43 [.int .i64 s109, .int .i64 s110, .bool s111])] → GlB (st (0, 28)) 43 (rowV k43.e o7) → p_spyref3_Fused_Quanta_l4 L a97 tl s129 = some o →
    Q_p_spyref3_Fused_Quanta_l4 a1 a97 a95 s10 a96 s98 o7 s109 s110 s111 o (iter (evC Try.prog (G_spyref3_Fused_Quanta L) (evF Try.prog (G_spyref3_Fused_Quanta L) T_spyref3_Fused_Quanta L 0) L en126.ms 0 6 lb126_6) (maskOf en126.ms 6) n env st) := by
  intro tl
  induction tl with
  | nil =>
    intro n s128 s129 env st o hn hR he hb0 hb1 hb2 h
    obtain ⟨n, rfl⟩ : ∃ m, n = m + 1 := ⟨n - 1, by omega⟩
    obtain ⟨be0, bv0, bl0⟩ := hb0
    obtain ⟨be1, bv1, bl1⟩ := hb1
    have g0 := rng_nil hR
    rw [iter, he]
    clear he
    generalize hK : iter _ _ n = K
    rw [p_spyref3_Fused_Quanta_l4] at h
    revert h
    rintro ⟨⟩
    simp only [go_sem, Nat.reduceAdd, Nat.reduceSub, Nat.reduceMul, Nat.reduceEqDiff, Nat.reduceBEq, Nat.reduceLT, Nat.reduceLeDiff, Nat.reducePow, Int.reduceToNat, Int.reduceLT, Int.reduceLE, Int.reduceGT, Int.reduceGE, Int.reduceEq, Int.reduceNeg, Int.reduceAdd, Int.reduceSub, Int.reduceMul, ↓reduceIte, reduceCtorEq, *]
    refine (⟨_, _, rfl, ?_, ?_, ?_, ?_⟩ : Q0_p_spyref3_Fused_Quanta_l4 a1 a97 a95 s10 a96 s98 o7 s109 s110 s111 _ _)
    all_goals simp only [go_sem, Nat.reduceAdd, Nat.reduceSub, Nat.reduceMul, Nat.reduceEqDiff, Nat.reduceBEq, Nat.reduceLT, Nat.reduceLeDiff, Nat.reducePow, Int.reduceToNat, Int.reduceLT, Int.reduceLE, Int.reduceGT, Int.reduceGE, Int.reduceEq, Int.reduceNeg, Int.reduceAdd, Int.reduceSub, Int.reduceMul, ↓reduceIte, reduceCtorEq, *]
  | cons x127 tl ih =>
    intro n s128 s129 env st o hn hR he hb0 hb1 hb2 h
    obtain ⟨n, rfl⟩ : ∃ m, n = m + 1 := ⟨n - 1, by omega⟩
    obtain ⟨be0, bv0, bl0⟩ := hb0
    obtain ⟨be1, bv1, bl1⟩ := hb1
    replace ih : Hold _ := ih
    replace hR := rng_s hR
    obtain ⟨g0, g1, g2, g3, hR⟩ := hR
    rw [iter, he]
    clear he
    generalize hK : iter _ _ n = K
    rw [p_spyref3_Fused_Quanta_l4] at h
    have gn := gl_ne (f := k43.e) g2
    obtain ⟨gk1, gk2, gk3⟩ := hb2 (row_ne g2)
    revert h
    refine ite_i (fun c1 => ?_) (fun c1 => ?_)
    · refine ite_i (fun c2 => ?_) (fun c2 => ?_)
      · intro h
        simp only [go_sem, Nat.reduceAdd, Nat.reduceSub, Nat.reduceMul, Nat.reduceEqDiff, Nat.reduceBEq, Nat.reduceLT, Nat.reduceLeDiff, Nat.reducePow, Int.reduceToNat, Int.reduceLT, Int.reduceLE, Int.reduceGT, Int.reduceGE, Int.reduceEq, Int.reduceNeg, Int.reduceAdd, Int.reduceSub, Int.reduceMul, ↓reduceIte, reduceCtorEq, *]
        subst hK
        refine ih n (s128 + 1) (i64.wrap (s129 + 1)) _ _ _ (by simp only [List.length_cons] at hn; omega) hR ?_ ?_ ?_ ?_ h
        all_goals simp only [go_sem, Nat.reduceAdd, Nat.reduceSub, Nat.reduceMul, Nat.reduceEqDiff, Nat.reduceBEq, Nat.reduceLT, Nat.reduceLeDiff, Nat.reducePow, Int.reduceToNat, Int.reduceLT, Int.reduceLE, Int.reduceGT, Int.reduceGE, Int.reduceEq, Int.reduceNeg, Int.reduceAdd, Int.reduceSub, Int.reduceMul, ↓reduceIte, reduceCtorEq, *]
      · intro h
        simp only [go_sem, Nat.reduceAdd, Nat.reduceSub, Nat.reduceMul, Nat.reduceEqDiff, Nat.reduceBEq, Nat.reduceLT, Nat.reduceLeDiff, Nat.reducePow, Int.reduceToNat, Int.reduceLT, Int.reduceLE, Int.reduceGT, Int.reduceGE, Int.reduceEq, Int.reduceNeg, Int.reduceAdd, Int.reduceSub, Int.reduceMul, ↓reduceIte, reduceCtorEq, *]
        subst hK
        refine ih n (s128 + 1) s129 _ _ _ (by simp only [List.length_cons] at hn; omega) hR ?_ ?_ ?_ ?_ h
        all_goals simp only [go_sem, Nat.reduceAdd, Nat.reduceSub, Nat.reduceMul, Nat.reduceEqDiff, Nat.reduceBEq, Nat.reduceLT, Nat.reduceLeDiff, Nat.reducePow, Int.reduceToNat, Int.reduceLT, Int.reduceLE, Int.reduceGT, Int.reduceGE, Int.reduceEq, Int.reduceNeg, Int.reduceAdd, Int.reduceSub, Int.reduceMul, ↓reduceIte, reduceCtorEq, *]
    · intro h
      simp only [go_sem, Nat.reduceAdd, Nat.reduceSub, Nat.reduceMul, Nat.reduceEqDiff, Nat.reduceBEq, Nat.reduceLT, Nat.reduceLeDiff, Nat.reducePow, Int.reduceToNat, Int.reduceLT, Int.reduceLE, Int.reduceGT, Int.reduceGE, Int.reduceEq, Int.reduceNeg, Int.reduceAdd, Int.reduceSub, Int.reduceMul, ↓reduceIte, reduceCtorEq, *]
      subst hK
      refine ih n (s128 + 1) s129 _ _ _ (by simp only [List.length_cons] at hn; omega) hR ?_ ?_ ?_ ?_ h
      all_goals simp only [go_sem, Nat.reduceAdd, Nat.reduceSub, Nat.reduceMul, Nat.reduceEqDiff, Nat.reduceBEq, Nat.reduceLT, Nat.reduceLeDiff, Nat.reducePow, Int.reduceToNat, Int.reduceLT, Int.reduceLE, Int.reduceGT, Int.reduceGE, Int.reduceEq, Int.reduceNeg, Int.reduceAdd, Int.reduceSub, Int.reduceMul, ↓reduceIte, reduceCtorEq, *]
def Q0_p_spyref3_Fused_Quanta_l2 (a1 : Int) (a95 : Int) (s10 : Int) (a96 : Int) (a97 : Int) (o7 : List (Int × Int × Bool × Unit)) (u : Int × Int × Bool) (z : Out) : Prop := ∃ env st, z = some (.exit 4, env, st) ∧ env = sp 97 0 [(1, .d (.int .i64 a1)), (4, .p (0, 4) (st (0, 4)).ver 0 []), (5, gl 43 (0, 28) (st (0, 28)).ver (rowV k43.e o7)), (8, .p (0, 8) (st (0, 8)).ver 0 []), (40, gl 43 (0, 28) (st (0, 28)).ver (rowV k43.e o7)), (41, .d (.int .i64 a95)), (42, .d (.int .i64 s10))] ∧ Bk (st (0, 4)) 43 [.d (.agg 43 [.int .i64 0, .int .i64 0, .bool false])] ∧ Bk (st (0, 8)) 43 [.d (.agg 43 [.int .i64 u.1, .int .i64 u.2.1, .bool u.2.2])] ∧ GlB (st (0, 28)) 43 (rowV k43.e o7)
abbrev Q_p_spyref3_Fused_Quanta_l2 (a1 : Int) (a95 : Int) (s10 : Int) (a96 : Int) (a97 : Int) (o7 : List (Int × Int × Bool × Unit)) (o : Int × Int × Bool) (z : Out) : Prop := Q0_p_spyref3_Fused_Quanta_l2 a1 a95 s10 a96 a97 o7 o z
theorem l_p_spyref3_Fused_Quanta_l2 (L : Nat) (hL : L ≤ 4611686018427387904) (a1 : Int) (a95 : Int) (s10 : Int) (a96 : Int) (a97 : Int) (o7 : List (Int × Int × Bool × Unit)) : ∀ (tl n : Nat) (s98 : Int) (s109 : Int) (s110 : Int) (s111 : Bool) (env : List V) (st : Store) (o : Int × Int × Bool), tl < n → Cnt 2 s98 tl → mask (maskOf en126.ms 4) env = sp 97 0 [(1, .d (.int .i64 a1)), (4, .p (0, 4) (st (0, 4)).ver 0 []), (5, gl 43 (0, 28) (st (0, 28)).ver (rowV k43.e o7)), (8, .p (0, 8) (st (0, 8)).ver 0 []), (40, gl 43 (0, 28) (st (0, 28)).ver (rowV k43.e o7)), (41, .d (.int .i64 a95)), (42, .d (.int .i64 s10)), (50, .d (.agg 164 [.int .i64 a96, .int .i64 a97])), (51, .d (.int .i64 s98))] → Bk (st (0, 4)) 43 [.d (.agg 43 [.int .i64 0, .int .i64 0, .bool false])] → Bk (st (0, 8)) 43 [.d (.agg 43 [.int .i64 s109, .int .i64 s110, .bool s111])] → GlB (st (0, 28)) 43 (rowV k43.e o7) → p_spyref3_Fused_Quanta_l2 L a1 a96 a97 o7 tl s98 s109 s110 s111 = some o →
    Q_p_spyref3_Fused_Quanta_l2 a1 a95 s10 a96 a97 o7 o (iter (evC Try.prog (G_spyref3_Fused_Quanta L) (evF Try.prog (G_spyref3_Fused_Quanta L) T_spyref3_Fused_Quanta L 0) L en126.ms 0 4 lb126_4) (maskOf en126.ms 4) n env st) := by
  intro tl
  induction tl with
  | zero =>
    intro n s98 s109 s110 s111 env st o hn hR he hb0 hb1 hb2 h
    obtain ⟨n, rfl⟩ : ∃ m, n = m + 1 := ⟨n - 1, by omega⟩
    obtain ⟨be0, bv0, bl0⟩ := hb0
    obtain ⟨be1, bv1, bl1⟩ := hb1
    have g0 := cnt_nil hR
    rw [iter, he]
    clear he
    generalize hK : iter _ _ n = K
    rw [p_spyref3_Fused_Quanta_l2] at h
    revert h
    rintro ⟨⟩
    simp only [go_sem, Nat.reduceAdd, Nat.reduceSub, Nat.reduceMul, Nat.reduceEqDiff, Nat.reduceBEq, Nat.reduceLT, Nat.reduceLeDiff, Nat.reducePow, Int.reduceToNat, Int.reduceLT, Int.reduceLE, Int.reduceGT, Int.reduceGE, Int.reduceEq, Int.reduceNeg, Int.reduceAdd, Int.reduceSub, Int.reduceMul, ↓reduceIte, reduceCtorEq, *]
    refine (⟨_, _, rfl, ?_, ?_, ?_, ?_⟩ : Q0_p_spyref3_Fused_Quanta_l2 a1 a95 s10 a96 a97 o7 _ _)
    all_goals simp only [go_sem, Nat.reduceAdd, Nat.reduceSub, Nat.reduceMul, Nat.reduceEqDiff, Nat.reduceBEq, Nat.reduceLT, Nat.reduceLeDiff, Nat.reducePow, Int.reduceToNat, Int.reduceLT, Int.reduceLE, Int.reduceGT, Int.reduceGE, Int.reduceEq, Int.reduceNeg, Int.reduceAdd, Int.reduceSub, Int.reduceMul, ↓reduceIte, reduceCtorEq, *]
  | succ tl ih =>
    intro n s98 s109 s110 s111 env st o hn hR he hb0 hb1 hb2 h
    obtain ⟨n, rfl⟩ : ∃ m, n = m + 1 := ⟨n - 1, by omega⟩
    obtain ⟨be0, bv0, bl0⟩ := hb0
    obtain ⟨be1, bv1, bl1⟩ := hb1
    replace ih : Hold _ := ih
    replace hR := cnt_s hR
    obtain ⟨g0, g1, g3, hR⟩ := hR
    rw [iter, he]
    clear he
    generalize hK : iter _ _ n = K
    rw [p_spyref3_Fused_Quanta_l2] at h
    revert h
    refine cb_i (fun c1 => ?_) (fun c1 => ?_)
    · have c2 : 0 ≤ s98 := by have := of_decide_eq_true c1; omega
      have c3 : s98 < 2 := by have := of_decide_eq_true c1; omega
      have c4 : s98.toNat = 0 := by have := of_decide_eq_true c1; omega
      refine rq_i fun c5 => ?_
      refine bnd_i fun o125 ho6 => ?_
      intro h
      simp only [go_sem, Nat.reduceAdd, Nat.reduceSub, Nat.reduceMul, Nat.reduceEqDiff, Nat.reduceBEq, Nat.reduceLT, Nat.reduceLeDiff, Nat.reducePow, Int.reduceToNat, Int.reduceLT, Int.reduceLE, Int.reduceGT, Int.reduceGE, Int.reduceEq, Int.reduceNeg, Int.reduceAdd, Int.reduceSub, Int.reduceMul, ↓reduceIte, reduceCtorEq, *]
      generalize hz8 : iter _ _ _ _ _ = z7
      have hq9 : Q_p_spyref3_Fused_Quanta_l3 a1 a96 a95 s10 a97 s98 o7 s109 s110 s111 o125 z7 := by
        rw [← hz8]
        refine l_p_spyref3_Fused_Quanta_l3 L hL a1 a96 a95 s10 a97 s98 o7 s109 s110 s111 o7 L 0 0 _ _ _ c5 (rng_0 c5 hL) ?_ ?_ ?_ ?_ ho6
        all_goals simp only [go_sem, Nat.reduceAdd, Nat.reduceSub, Nat.reduceMul, Nat.reduceEqDiff, Nat.reduceBEq, Nat.reduceLT, Nat.reduceLeDiff, Nat.reducePow, Int.reduceToNat, Int.reduceLT, Int.reduceLE, Int.reduceGT, Int.reduceGE, Int.reduceEq, Int.reduceNeg, Int.reduceAdd, Int.reduceSub, Int.reduceMul, ↓reduceIte, reduceCtorEq, *]
      clear hz8 ho6
      obtain ⟨_, st126, rfl, rfl, ⟨k101, k102, k103⟩, ⟨k111, k112, k113⟩, k12⟩ := hq9
      revert h
      refine ite_i (fun c13 => ?_) (fun c13 => ?_)
      · intro h
        simp only [go_sem, Nat.reduceAdd, Nat.reduceSub, Nat.reduceMul, Nat.reduceEqDiff, Nat.reduceBEq, Nat.reduceLT, Nat.reduceLeDiff, Nat.reducePow, Int.reduceToNat, Int.reduceLT, Int.reduceLE, Int.reduceGT, Int.reduceGE, Int.reduceEq, Int.reduceNeg, Int.reduceAdd, Int.reduceSub, Int.reduceMul, ↓reduceIte, reduceCtorEq, *]
        subst hK
        refine ih n (s98 + 1) s109 s110 s111 _ _ _ (by omega) hR ?_ ?_ ?_ ?_ h
        all_goals simp only [go_sem, Nat.reduceAdd, Nat.reduceSub, Nat.reduceMul, Nat.reduceEqDiff, Nat.reduceBEq, Nat.reduceLT, Nat.reduceLeDiff, Nat.reducePow, Int.reduceToNat, Int.reduceLT, Int.reduceLE, Int.reduceGT, Int.reduceGE, Int.reduceEq, Int.reduceNeg, Int.reduceAdd, Int.reduceSub, Int.reduceMul, ↓reduceIte, reduceCtorEq, *]
      · refine cb_i (fun c14 => ?_) (fun c14 => ?_)
        · intro h
          simp only [go_sem, Nat.reduceAdd, Nat.reduceSub, Nat.reduceMul, Nat.reduceEqDiff, Nat.reduceBEq, Nat.reduceLT, Nat.reduceLeDiff, Nat.reducePow, Int.reduceToNat, Int.reduceLT, Int.reduceLE, Int.reduceGT, Int.reduceGE, Int.reduceEq, Int.reduceNeg, Int.reduceAdd, Int.reduceSub, Int.reduceMul, ↓reduceIte, reduceCtorEq, *]
          subst hK
          refine ih n (s98 + 1) (minI a96 a96) (maxI a96 a96) false _ _ _ (by omega) hR ?_ ?_ ?_ ?_ h
          all_goals simp only [go_sem, Nat.reduceAdd, Nat.reduceSub, Nat.reduceMul, Nat.reduceEqDiff, Nat.reduceBEq, Nat.reduceLT, Nat.reduceLeDiff, Nat.reducePow, Int.reduceToNat, Int.reduceLT, Int.reduceLE, Int.reduceGT, Int.reduceGE, Int.reduceEq, Int.reduceNeg, Int.reduceAdd, Int.reduceSub, Int.reduceMul, ↓reduceIte, reduceCtorEq, *]
        · intro h
          simp only [go_sem, Nat.reduceAdd, Nat.reduceSub, Nat.reduceMul, Nat.reduceEqDiff, Nat.reduceBEq, Nat.reduceLT, Nat.reduceLeDiff, Nat.reducePow, Int.reduceToNat, Int.reduceLT, Int.reduceLE, Int.reduceGT, Int.reduceGE, Int.reduceEq, Int.reduceNeg, Int.reduceAdd, Int.reduceSub, Int.reduceMul, ↓reduceIte, reduceCtorEq, *]
          subst hK
          refine ih n (s98 + 1) (minI s109 a96) (maxI s110 a96) s111 _ _ _ (by omega) hR ?_ ?_ ?_ ?_ h
          all_goals simp only [go_sem, Nat.reduceAdd, Nat.reduceSub, Nat.reduceMul, Nat.reduceEqDiff, Nat.reduceBEq, Nat.reduceLT, Nat.reduceLeDiff, Nat.reducePow, Int.reduceToNat, Int.reduceLT, Int.reduceLE, Int.reduceGT, Int.reduceGE, Int.reduceEq, Int.reduceNeg, Int.reduceAdd, Int.reduceSub, Int.reduceMul, ↓reduceIte, reduceCtorEq, *]
    · refine cb_i (fun c15 => ?_) (fun c15 => ?_)
      · have c16 : 0 ≤ s98 := by have := of_decide_eq_true c15; omega
        have c17 : s98 < 2 := by have := of_decide_eq_true c15; omega
        have c18 : s98.toNat = 1 := by have := of_decide_eq_true c15; omega
        refine rq_i fun c19 => ?_
        refine bnd_i fun o130 ho20 => ?_
        intro h
        simp only [go_sem, Nat.reduceAdd, Nat.reduceSub, Nat.reduceMul, Nat.reduceEqDiff, Nat.reduceBEq, Nat.reduceLT, Nat.reduceLeDiff, Nat.reducePow, Int.reduceToNat, Int.reduceLT, Int.reduceLE, Int.reduceGT, Int.reduceGE, Int.reduceEq, Int.reduceNeg, Int.reduceAdd, Int.reduceSub, Int.reduceMul, ↓reduceIte, reduceCtorEq, *]
        generalize hz22 : iter _ _ _ _ _ = z21
        have hq23 : Q_p_spyref3_Fused_Quanta_l4 a1 a97 a95 s10 a96 s98 o7 s109 s110 s111 o130 z21 := by
          rw [← hz22]
          refine l_p_spyref3_Fused_Quanta_l4 L hL a1 a97 a95 s10 a96 s98 o7 s109 s110 s111 o7 L 0 0 _ _ _ c19 (rng_0 c19 hL) ?_ ?_ ?_ ?_ ho20
          all_goals simp only [go_sem, Nat.reduceAdd, Nat.reduceSub, Nat.reduceMul, Nat.reduceEqDiff, Nat.reduceBEq, Nat.reduceLT, Nat.reduceLeDiff, Nat.reducePow, Int.reduceToNat, Int.reduceLT, Int.reduceLE, Int.reduceGT, Int.reduceGE, Int.reduceEq, Int.reduceNeg, Int.reduceAdd, Int.reduceSub, Int.reduceMul, ↓reduceIte, reduceCtorEq, *]
        clear hz22 ho20
        obtain ⟨_, st131, rfl, rfl, ⟨k241, k242, k243⟩, ⟨k251, k252, k253⟩, k26⟩ := hq23
        revert h
        refine ite_i (fun c27 => ?_) (fun c27 => ?_)
        · intro h
          simp only [go_sem, Nat.reduceAdd, Nat.reduceSub, Nat.reduceMul, Nat.reduceEqDiff, Nat.reduceBEq, Nat.reduceLT, Nat.reduceLeDiff, Nat.reducePow, Int.reduceToNat, Int.reduceLT, Int.reduceLE, Int.reduceGT, Int.reduceGE, Int.reduceEq, Int.reduceNeg, Int.reduceAdd, Int.reduceSub, Int.reduceMul, ↓reduceIte, reduceCtorEq, *]
          subst hK
          refine ih n (s98 + 1) s109 s110 s111 _ _ _ (by omega) hR ?_ ?_ ?_ ?_ h
          all_goals simp only [go_sem, Nat.reduceAdd, Nat.reduceSub, Nat.reduceMul, Nat.reduceEqDiff, Nat.reduceBEq, Nat.reduceLT, Nat.reduceLeDiff, Nat.reducePow, Int.reduceToNat, Int.reduceLT, Int.reduceLE, Int.reduceGT, Int.reduceGE, Int.reduceEq, Int.reduceNeg, Int.reduceAdd, Int.reduceSub, Int.reduceMul, ↓reduceIte, reduceCtorEq, *]
        · refine cb_i (fun c28 => ?_) (fun c28 => ?_)
          · intro h
            simp only [go_sem, Nat.reduceAdd, Nat.reduceSub, Nat.reduceMul, Nat.reduceEqDiff, Nat.reduceBEq, Nat.reduceLT, Nat.reduceLeDiff, Nat.reducePow, Int.reduceToNat, Int.reduceLT, Int.reduceLE, Int.reduceGT, Int.reduceGE, Int.reduceEq, Int.reduceNeg, Int.reduceAdd, Int.reduceSub, Int.reduceMul, ↓reduceIte, reduceCtorEq, *]
            subst hK
            refine ih n (s98 + 1) (minI a97 a97) (maxI a97 a97) false _ _ _ (by omega) hR ?_ ?_ ?_ ?_ h
            all_goals simp only [go_sem, Nat.reduceAdd, Nat.reduceSub, Nat.reduceMul, Nat.reduceEqDiff, Nat.reduceBEq, Nat.reduceLT, Nat.reduceLeDiff, Nat.reducePow, Int.reduceToNat, Int.reduceLT, Int.reduceLE, Int.reduceGT, Int.reduceGE, Int.reduceEq, Int.reduceNeg, Int.reduceAdd, Int.reduceSub, Int.reduceMul, ↓reduceIte, reduceCtorEq, *]
          · intro h
            simp only [go_sem, Nat.reduceAdd, Nat.reduceSub, Nat.reduceMul, Nat.reduceEqDiff, Nat.reduceBEq, Nat.reduceLT, Nat.reduceLeDiff, Nat.reducePow, Int.reduceToNat, Int.reduceLT, Int.reduceLE, Int.reduceGT, Int.reduceGE, Int.reduceEq, Int.reduceNeg, Int.reduceAdd, Int.reduceSub, Int.reduceMul, ↓reduceIte, reduceCtorEq, *]
            subst hK
            refine ih n (s98 + 1) (minI s109 a97) (maxI s110 a97) s111 _ _ _ (by omega) hR ?_ ?_ ?_ ?_ h
            all_goals simp only [go_sem, Nat.reduceAdd, Nat.reduceSub, Nat.reduceMul, Nat.reduceEqDiff, Nat.reduceBEq, Nat.reduceLT, Nat.reduceLeDiff, Nat.reducePow, Int.reduceToNat, Int.reduceLT, Int.reduceLE, Int.reduceGT, Int.reduceGE, Int.reduceEq, Int.reduceNeg, Int.reduceAdd, Int.reduceSub, Int.reduceMul, ↓reduceIte, reduceCtorEq, *]
      · intro h; cases h
def Q0_p_spyref3_Fused_Quanta_l1 (a1 : Int) (o7 : List (Int × Int × Bool × Unit)) (u : Int × Int × Bool) (z : Out) : Prop := ∃ env st, z = some (.exit 2, env, st) ∧ env = sp 97 0 [(4, .p (0, 4) (st (0, 4)).ver 0 []), (8, .p (0, 8) (st (0, 8)).ver 0 [])] ∧ Bk (st (0, 4)) 43 [.d (.agg 43 [.int .i64 0, .int .i64 0, .bool false])] ∧ Bk (st (0, 8)) 43 [.d (.agg 43 [.int .i64 u.1, .int .i64 u.2.1, .bool u.2.2])]
abbrev Q_p_spyref3_Fused_Quanta_l1 (a1 : Int) (o7 : List (Int × Int × Bool × Unit)) (o : Int × Int × Bool) (z : Out) : Prop := Q0_p_spyref3_Fused_Quanta_l1 a1 o7 o z
theorem l_p_spyref3_Fused_Quanta_l1 (L : Nat) (hL : L ≤ 4611686018427387904) (a1 : Int) (o7 : List (Int × Int × Bool × Unit)) : ∀ (tl : List (Int × Int × Bool × Unit)) (n : Nat) (s10 : Int) (s51 : Int) (s52 : Int) (s53 : Bool) (env : List V) (st : Store) (o : Int × Int × Bool), tl.length < n → Rng o7 s10 tl → mask (maskOf en126.ms 2) env = sp 97 0 [(1, .d (.int .i64 a1)), (4, .p (0, 4) (st (0, 4)).ver 0 []), (5, gl 43 (0, 28) (st (0, 28)).ver (rowV k43.e o7)), (8, .p (0, 8) (st (0, 8)).ver 0 []), (40, gl 43 (0, 28) (st (0, 28)).ver (rowV k43.e o7)), (41, .d (.int .i64 (o7.length : Int))), (42, .d (.int .i64 s10))] → Bk (st (0, 4)) 43 [.d (.agg 43 [.int .i64 0, .int .i64 0, .bool false])] → Bk (st (0, 8)) 43 [.d (.agg 43 [.int .i64 s51, .int .i64 s52, .bool s53])] → GlB (st (0, 28)) 43 (rowV k43.e o7) → p_spyref3_Fused_Quanta_l1 L a1 o7 tl s51 s52 s53 = some o →
    Q_p_spyref3_Fused_Quanta_l1 a1 o7 o (iter (evC Try.prog (G_spyref3_Fused_Quanta L) (evF Try.prog (G_spyref3_Fused_Quanta L) T_spyref3_Fused_Quanta L 0) L en126.ms 0 2 lb126_2) (maskOf en126.ms 2) n env st) := by
  intro tl
  induction tl with
  | nil =>
    intro n s10 s51 s52 s53 env st o hn hR he hb0 hb1 hb2 h
    obtain ⟨n, rfl⟩ : ∃ m, n = m + 1 := ⟨n - 1, by omega⟩
    obtain ⟨be0, bv0, bl0⟩ := hb0
    obtain ⟨be1, bv1, bl1⟩ := hb1
    have g0 := rng_nil hR
    rw [iter, he]
    clear he
    generalize hK : iter _ _ n = K
    rw [p_spyref3_Fused_Quanta_l1] at h
    revert h
    rintro ⟨⟩
    simp only [go_sem, Nat.reduceAdd, Nat.reduceSub, Nat.reduceMul, Nat.reduceEqDiff, Nat.reduceBEq, Nat.reduceLT, Nat.reduceLeDiff, Nat.reducePow, Int.reduceToNat, Int.reduceLT, Int.reduceLE, Int.reduceGT, Int.reduceGE, Int.reduceEq, Int.reduceNeg, Int.reduceAdd, Int.reduceSub, Int.reduceMul, ↓reduceIte, reduceCtorEq, *]
    refine (⟨_, _, rfl, ?_, ?_, ?_⟩ : Q0_p_spyref3_Fused_Quanta_l1 a1 o7 _ _)
    all_goals simp only [go_sem, Nat.reduceAdd, Nat.reduceSub, Nat.reduceMul, Nat.reduceEqDiff, Nat.reduceBEq, Nat.reduceLT, Nat.reduceLeDiff, Nat.reducePow, Int.reduceToNat, Int.reduceLT, Int.reduceLE, Int.reduceGT, Int.reduceGE, Int.reduceEq, Int.reduceNeg, Int.reduceAdd, Int.reduceSub, Int.reduceMul, ↓reduceIte, reduceCtorEq, *]
  | cons x9 tl ih =>
    intro n s10 s51 s52 s53 env st o hn hR he hb0 hb1 hb2 h
    obtain ⟨n, rfl⟩ : ∃ m, n = m + 1 := ⟨n - 1, by omega⟩
    obtain ⟨be0, bv0, bl0⟩ := hb0
    obtain ⟨be1, bv1, bl1⟩ := hb1
    replace ih : Hold _ := ih
    replace hR := rng_s hR
    obtain ⟨g0, g1, g2, g3, hR⟩ := hR
    rw [iter, he]
    clear he
    generalize hK : iter _ _ n = K
    rw [p_spyref3_Fused_Quanta_l1] at h
    have gn := gl_ne (f := k43.e) g2
    obtain ⟨gk1, gk2, gk3⟩ := hb2 (row_ne g2)
    revert h
    refine rq_i fun c1 => ?_
    refine bnd_i fun o132 ho2 => ?_
    intro h
    simp only [go_sem, Nat.reduceAdd, Nat.reduceSub, Nat.reduceMul, Nat.reduceEqDiff, Nat.reduceBEq, Nat.reduceLT, Nat.reduceLeDiff, Nat.reducePow, Int.reduceToNat, Int.reduceLT, Int.reduceLE, Int.reduceGT, Int.reduceGE, Int.reduceEq, Int.reduceNeg, Int.reduceAdd, Int.reduceSub, Int.reduceMul, ↓reduceIte, reduceCtorEq, *]
    generalize hz4 : iter _ _ _ _ _ = z3
    have hq5 : Q_p_spyref3_Fused_Quanta_l2 a1 (o7.length : Int) s10 x9.1 x9.2.1 o7 o132 z3 := by
      rw [← hz4]
      refine l_p_spyref3_Fused_Quanta_l2 L hL a1 (o7.length : Int) s10 x9.1 x9.2.1 o7 _ L 0 s51 s52 s53 _ _ _ c1 (cnt_0 (by decide) (by decide)) ?_ ?_ ?_ ?_ ho2
      all_goals simp only [go_sem, Nat.reduceAdd, Nat.reduceSub, Nat.reduceMul, Nat.reduceEqDiff, Nat.reduceBEq, Nat.reduceLT, Nat.reduceLeDiff, Nat.reducePow, Int.reduceToNat, Int.reduceLT, Int.reduceLE, Int.reduceGT, Int.reduceGE, Int.reduceEq, Int.reduceNeg, Int.reduceAdd, Int.reduceSub, Int.reduceMul, ↓reduceIte, reduceCtorEq, *]
    clear hz4 ho2
    obtain ⟨_, st133, rfl, rfl, ⟨k61, k62, k63⟩, ⟨k71, k72, k73⟩, k8⟩ := hq5
    revert h
    intro h
    simp only [go_sem, Nat.reduceAdd, Nat.reduceSub, Nat.reduceMul, Nat.reduceEqDiff, Nat.reduceBEq, Nat.reduceLT, Nat.reduceLeDiff, Nat.reducePow, Int.reduceToNat, Int.reduceLT, Int.reduceLE, Int.reduceGT, Int.reduceGE, Int.reduceEq, Int.reduceNeg, Int.reduceAdd, Int.reduceSub, Int.reduceMul, ↓reduceIte, reduceCtorEq, *]
    subst hK
    refine ih n (s10 + 1) o132.1 o132.2.1 o132.2.2 _ _ _ (by simp only [List.length_cons] at hn; omega) hR ?_ ?_ ?_ ?_ h
    all_goals simp only [go_sem, Nat.reduceAdd, Nat.reduceSub, Nat.reduceMul, Nat.reduceEqDiff, Nat.reduceBEq, Nat.reduceLT, Nat.reduceLeDiff, Nat.reducePow, Int.reduceToNat, Int.reduceLT, Int.reduceLE, Int.reduceGT, Int.reduceGE, Int.reduceEq, Int.reduceNeg, Int.reduceAdd, Int.reduceSub, Int.reduceMul, ↓reduceIte, reduceCtorEq, *]
theorem e_spyref3_Fused_Quanta (L : Nat) (hL : L ≤ 4611686018427387904) (a0 : List (Int × Int × Bool × Unit)) (a1 : Int) (res : Int × Int × Bool) (h : p_spyref3_Fused_Quanta L a0 a1 = some res) : evTop Try.prog (G_spyref3_Fused_Quanta L) T_spyref3_Fused_Quanta L 1 126 [.sl 43 (a0.map k43.e), .int .i64 a1] = some [.agg 43 [.int .i64 res.1, .int .i64 res.2.1, .bool res.2.2]] := by
  revert h
  unfold p_spyref3_Fused_Quanta evTop
  simp only [List.map]
  rw [evF_s (fn := Try.f126) (msk := en126.ms) (hT := by rfl) (hb := by rfl)]
  refine rq_i fun c1 => ?_
  refine bnd_i fun o7 ho2 => ?_
  intro h
  simp only [go_sem, Nat.reduceAdd, Nat.reduceSub, Nat.reduceMul, Nat.reduceEqDiff, Nat.reduceBEq, Nat.reduceLT, Nat.reduceLeDiff, Nat.reducePow, Int.reduceToNat, Int.reduceLT, Int.reduceLE, Int.reduceGT, Int.reduceGE, Int.reduceEq, Int.reduceNeg, Int.reduceAdd, Int.reduceSub, Int.reduceMul, ↓reduceIte, reduceCtorEq, *]
  generalize hz4 : iter _ _ _ _ _ = z3
  have hq5 : Q_p_spyref3_Fused_Quanta_l0 a1 a0 o7 z3 := by
    rw [← hz4]
    refine l_p_spyref3_Fused_Quanta_l0 L hL a1 a0 a0 L 0 ([]) _ _ _ c1 (rng_0 c1 hL) ?_ ?_ ?_ ho2
    all_goals simp only [go_sem, Nat.reduceAdd, Nat.reduceSub, Nat.reduceMul, Nat.reduceEqDiff, Nat.reduceBEq, Nat.reduceLT, Nat.reduceLeDiff, Nat.reducePow, Int.reduceToNat, Int.reduceLT, Int.reduceLE, Int.reduceGT, Int.reduceGE, Int.reduceEq, Int.reduceNeg, Int.reduceAdd, Int.reduceSub, Int.reduceMul, ↓reduceIte, reduceCtorEq, *]
  clear hz4 ho2
  obtain ⟨_, st8, rfl, rfl, ⟨k61, k62, k63⟩, k7⟩ := hq5
  revert h
  refine ite_i (fun c8 => ?_) (fun c8 => ?_)
  · rintro ⟨⟩
    simp only [go_sem, Nat.reduceAdd, Nat.reduceSub, Nat.reduceMul, Nat.reduceEqDiff, Nat.reduceBEq, Nat.reduceLT, Nat.reduceLeDiff, Nat.reducePow, Int.reduceToNat, Int.reduceLT, Int.reduceLE, Int.reduceGT, Int.reduceGE, Int.reduceEq, Int.reduceNeg, Int.reduceAdd, Int.reduceSub, Int.reduceMul, ↓reduceIte, reduceCtorEq, *]
  · refine ite_i (fun c9 => ?_) (fun c9 => ?_)
    · rintro ⟨⟩
      simp only [go_sem, Nat.reduceAdd, Nat.reduceSub, Nat.reduceMul, Nat.reduceEqDiff, Nat.reduceBEq, Nat.reduceLT, Nat.reduceLeDiff, Nat.reducePow, Int.reduceToNat, Int.reduceLT, Int.reduceLE, Int.reduceGT, Int.reduceGE, Int.reduceEq, Int.reduceNeg, Int.reduceAdd, Int.reduceSub, Int.reduceMul, ↓reduceIte, reduceCtorEq, *]
    · refine rq_i fun c10 => ?_
      refine bnd_i fun o134 ho11 => ?_
      intro h
      simp only [go_sem, Nat.reduceAdd, Nat.reduceSub, Nat.reduceMul, Nat.reduceEqDiff, Nat.reduceBEq, Nat.reduceLT, Nat.reduceLeDiff, Nat.reducePow, Int.reduceToNat, Int.reduceLT, Int.reduceLE, Int.reduceGT, Int.reduceGE, Int.reduceEq, Int.reduceNeg, Int.reduceAdd, Int.reduceSub, Int.reduceMul, ↓reduceIte, reduceCtorEq, *]
      generalize hz13 : iter _ _ _ _ _ = z12
      have hq14 : Q_p_spyref3_Fused_Quanta_l1 a1 o7 o134 z12 := by
        rw [← hz13]
        refine l_p_spyref3_Fused_Quanta_l1 L hL a1 o7 o7 L 0 0 0 true _ _ _ c10 (rng_0 c10 hL) ?_ ?_ ?_ ?_ ho11
        all_goals simp only [go_sem, Nat.reduceAdd, Nat.reduceSub, Nat.reduceMul, Nat.reduceEqDiff, Nat.reduceBEq, Nat.reduceLT, Nat.reduceLeDiff, Nat.reducePow, Int.reduceToNat, Int.reduceLT, Int.reduceLE, Int.reduceGT, Int.reduceGE, Int.reduceEq, Int.reduceNeg, Int.reduceAdd, Int.reduceSub, Int.reduceMul, ↓reduceIte, reduceCtorEq, *]
      clear hz13 ho11
      obtain ⟨_, st135, rfl, rfl, ⟨k151, k152, k153⟩, ⟨k161, k162, k163⟩⟩ := hq14
      revert h
      rintro ⟨⟩
      simp only [go_sem, Nat.reduceAdd, Nat.reduceSub, Nat.reduceMul, Nat.reduceEqDiff, Nat.reduceBEq, Nat.reduceLT, Nat.reduceLeDiff, Nat.reducePow, Int.reduceToNat, Int.reduceLT, Int.reduceLE, Int.reduceGT, Int.reduceGE, Int.reduceEq, Int.reduceNeg, Int.reduceAdd, Int.reduceSub, Int.reduceMul, ↓reduceIte, reduceCtorEq, *]
noncomputable def s_spyref3_Fused_Quanta (L : Nat) : Ev.Spec := specP (cCons k35 (cCons (cI .i64) cNil)) (fun x => p_spyref3_Fused_Quanta L x.1 x.2.1) (fun r => [.agg 43 [.int .i64 r.1, .int .i64 r.2.1, .bool r.2.2]])
theorem s_spyref3_Fused_Quanta_run (L : Nat) (a0 : List (Int × Int × Bool × Unit)) (a1 : Int) : (s_spyref3_Fused_Quanta L).run [.sl 43 (a0.map k43.e), .int .i64 a1] = (p_spyref3_Fused_Quanta L a0 a1).map fun r => [.agg 43 [.int .i64 r.1, .int .i64 r.2.1, .bool r.2.2]] := specP_run (cCons k35 (cCons (cI .i64) cNil)) (fun x => p_spyref3_Fused_Quanta L x.1 x.2.1) (fun r => [.agg 43 [.int .i64 r.1, .int .i64 r.2.1, .bool r.2.2]]) (a0, a1, ())
theorem ok_spyref3_Fused_Quanta (L : Nat) (hL : L ≤ 4611686018427387904) : SpecOk Try.prog 126 (s_spyref3_Fused_Quanta L) := specP_ok mixed (Go_spyref3_Fused_Quanta L hL) (To_spyref3_Fused_Quanta L) fun x r h => ⟨L, 1, e_spyref3_Fused_Quanta L hL x.1 x.2.1 r h⟩
end Go.Proofs.Ytjplkbeolakbjaa.P
end
section
set_option linter.unusedVariables false
set_option linter.unusedSimpArgs false
set_option maxRecDepth 100000
namespace Go.Proofs.Ytjplkbeolakbjaa.E
open Go.Ev
noncomputable def en97 : Entry := ⟨Try.f97, [(1000001, mb 56 0 []), (1000000, mb 56 0 [6])]⟩
theorem mk97_1000001 (vs : List V) : mask (maskOf en97.ms 1000001) vs = km 56 0 [] vs := mask_mb _ _ _ _
theorem mk97_1000000 (vs : List V) : mask (maskOf en97.ms 1000000) vs = km 56 0 [6] vs := mask_mb _ _ _ _
end Go.Proofs.Ytjplkbeolakbjaa.E
end
