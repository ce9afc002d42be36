/- The row of the law CleanCombines: for every input the call returns true. Over the evaluator's contract of the law's function. No conditions. -/
import Derived.Test.YtjplkbeolakbjaaMCleanCombines9
import Derived.Test.YtjplkbeolakbjaaRows
import Derived.WalkKit
import Derived.ProofKit
import Derived.OpenShut
import Derived.ShutString
import Derived.ChangeOld
import Derived.Below
import Derived.SizedLaws
import Derived.Carry
import Derived.WideShapes
import Derived.KernelRfl
section
set_option linter.unusedVariables false
set_option linter.unusedSimpArgs false
set_option maxRecDepth 100000
namespace Go.Proofs.Ytjplkbeolakbjaa.P
open Go.Ev Go.IntKind Go.Proofs.Ytjplkbeolakbjaa Go.Proofs.Ytjplkbeolakbjaa.Ty Go.Proofs.Ytjplkbeolakbjaa.E
def p_slices_Equal_Quanta__l0 (L : Nat) (a0 : List (Int × Int × Bool × Unit)) (a1 : List (Int × Int × Bool × Unit)) : Nat → Int → Option (Sum Unit Unit)
  | 0, s3 => some (.inl ())
  | tl + 1, s3 => bnd (idx a0 s3) fun x6 => bnd (idx a1 s3) fun x7 => cb ((decide (x6.1 = x7.1)) && ((decide (x6.2.1 = x7.2.1)) && (x6.2.2.1 == x7.2.2.1))) (p_slices_Equal_Quanta__l0 L a0 a1 tl (s3 + 1)) (some (.inr ()))
def p_slices_Equal_Quanta_ (L : Nat) (a0 : List (Int × Int × Bool × Unit)) (a1 : List (Int × Int × Bool × Unit)) : Option Bool := cb (decide ((a0.length : Int) = (a1.length : Int))) (rq ((a0.length : Int).toNat < L) <| rq ((a0.length : Int) < 4611686018427387904) <| bnd (p_slices_Equal_Quanta__l0 L a0 a1 (a0.length : Int).toNat 0) fun o8 => match o8 with | (.inl o8_0) => (some true) | (.inr o8_1) => (some false)) (some false)
attribute [local go_sem] Ev.putR_s Ev.putR_0 Ev.thenO_s Ev.thenO_0 Ev.seqR_n Ev.seqR_e Ev.seqR_r Ev.seqR_0 Ev.blkR_e Ev.blkR_n Ev.blkR_r Ev.blkR_0 Ev.normR_s Ev.normR_0 Ev.outR_r Ev.outR_n Ev.outR_0 Ev.retS_s Ev.retS_0 Ev.pureO_s Ev.pureO_0 Ev.topR_0 Ev.topR_t Ev.topR_t0 Ev.oneL_0 Ev.oneL_s Ev.topR_d Ev.topR_nils Ev.topR_agg Ev.topR_rs Ev.evOp_move Ev.evOp_assign Ev.evOp_pick Ev.evOp_alloc Ev.evOp_box Ev.evOp_build Ev.evOp_buildSlice Ev.evOp_load Ev.evOp_store Ev.evOp_makeMap Ev.evOp_lookup Ev.evOp_mapUpdate Ev.evOp_insert Ev.evOp_nilCheck Ev.evOp_binOp Ev.evOp_unOp Ev.evOp_convert Ev.evOp_makeFunc Ev.evOp_makeSlice Ev.evOp_slice Ev.evOp_fieldAddr Ev.evOp_field Ev.evOp_indexAddr Ev.evOp_index Ev.evOp_extract Ev.evOp_call Ev.evOp_append Ev.evOp_clear Ev.evOp_len Ev.evOp_min Ev.evOp_max Ev.condR_b Ev.condR_t Ev.evOps_nil Ev.evOps_plain Ev.evOps_guard Ev.runG_eq Ev.skipG_eq Ev.condL_tt Ev.condL_ff Ev.condL_tf Ev.condL_ft Ev.condL_u Ev.condC_t Ev.condC_f Ev.evC_skip Ev.evC_ret Ev.evC_exit Ev.evC_label Ev.evC_region Ev.evC_draw Ev.evC_seq Ev.evC_cond Ev.evC_block Ev.evC_loop Ev.fin_d Ev.fin_nils Ev.fin_agg_ Ev.fin_rs Ev.finS_s Ev.mapO_fin Ev.upd_upd Ev.argv_d Ev.argv_nils Ev.argv_agg Ev.argv_rs Ev.argv_p Ev.fk_low Ev.appendTo_nils Ev.appendTo_rs Ev.consV_d Ev.consV_agg Ev.consV_p Ev.consV_rs Ev.consV_nils Ev.consV_fn Ev.consV_und Ev.consV_jk Ev.consV_grown Ev.topR_grown Ev.len_grown Ev.consV_mp Ev.sameK_i Ev.sameK_s Ev.mget_0 Ev.mget_hit Ev.mget_miss Ev.mput_0 Ev.mput_hit Ev.mput_miss Ev.apartAll Ev.apartL Ev.apartV Ev.freeAll Ev.sel Ev.keyOfV Ev.evLookup Ev.evPut Ev.hintOk Ev.keyOk Ev.consP Ev.lookV Ev.guardV Ev.dstAt Ev.evPure Ev.evStore Ev.evBin Ev.evBinO Ev.evNil Ev.isNilC Ev.evUn Ev.evConv Ev.evSlice Ev.optI Ev.foldI Ev.capsOk Ev.noTup Ev.nth Ev.setN Ev.killAt Ev.pad Ev.V.get Ev.V.put Ev.putD Ev.newBlk Ev.upd Ev.keq Ev.empty Ev.evCall Ev.V.args Ev.argP Ev.callOf Ev.evNilP Ev.isNilP Ev.look Ev.V.view.views Ev.V.view Ev.V.toD Ev.V.toD.V.toDs Ev.V.pure.pures Ev.V.pure Ev.D.flat.flats Ev.D.flat Ev.mkAgg Ev.allD Ev.aggParts Ev.setParts Ev.setElems Ev.getPath Ev.setPath Ev.subL Ev.eqD Ev.eqD.eqDs Ev.and2 Ev.strCut Ev.evalT Ev.constT Ev.evArgs Ev.mask Ev.maskOf Ev.tableOf Ev.compT Ev.resV Ev.retV Ev.mapO Ev.allD_gl Ev.killAt_i Ev.tkOne_i Ev.hT_agg Ev.hT_vagg Ev.hT_int Ev.hT_bool Ev.hT_str Ev.hT_sl Ev.hT_ptr Ev.hT_np Ev.hT_p Ev.hT_rs Ev.hT_mp Ev.hT_nils Ev.hT_fn Ev.hT_jk Ev.hT_gl Ev.eO_sl Ev.eO_nils Ev.eO_rs Ev.eT_sl Ev.eT_rs Ev.pL_str Ev.pL_sl Ev.pL_rs Ev.pL_nils Ev.pL_min Ev.pL_max Ev.len_glB Ev.noTup_gl Ev.rowV_len Ev.rowV_nil Ev.rowV_cons Ev.rowV_append Ev.rowV_set Ev.rowV_replicate Ev.nth_row Ev.row_take Ev.row_drop Ev.toDs_row Ev.fin_row Ev.map_row Ev.map_take_ Ev.map_drop_ Ev.Bk_i Ev.GlB_0 Ev.GlB_mk Ev.gl_nil Ev.gl_cons Ev.gl_snoc Ev.gl_setN Ev.appendTo_gl Ev.consV_gl Ev.elems_gl Ev.fin_gl Ev.view_gl Ev.argv_gl Ev.topR_gl Ev.sp_z Ev.sp_0 Ev.sp_s Ev.km_z Ev.km_0 Ev.km_s Ev.beq_toList Ev.nc0 Ev.bq_t Ev.bq_f Ev.bodyN Ev.le_maxRow Int.cast_ofNat_Int IntWalk.i64_in IntWalk.u64_in IntWalk.u8_in beq_self_eq_true Bool.true_beq Bool.false_beq Bool.and_true Bool.true_and Bool.false_and Bool.and_false Bool.and_self Bool.not_true Bool.not_false Bool.not_eq_true cond_true cond_false if_true if_false and_true true_and and_self decide_true decide_false Bool.or_true Bool.true_or Bool.or_false Bool.false_or List.isEmpty List.isEmpty_nil List.size_toArray List.map List.length_map List.length_cons List.length_nil Option.map Option.bind Option.getD Option.isSome List.replicate Bool.false_eq_true implies_true false_implies forall_const Array.toList Array.isEmpty List.append List.nil_append List.cons_append List.drop_zero List.take_length List.take_succ_cons List.take_zero List.take_nil List.getElem?_map List.getElem?_cons_zero List.getElem?_cons_succ List.getElem?_nil List.append_nil eq_self Int.toNat_natCast List.length_append Nat.zero_add Nat.add_zero List.length_replicate Nat.sub_zero Option.map_some Option.map_none Int.le_refl Nat.le_refl
noncomputable def G_slices_Equal_Quanta_ (L : Nat) : Specs := []
noncomputable def T_slices_Equal_Quanta_ : Table := tableOf [(25, en25)]
theorem Go_slices_Equal_Quanta_ (L : Nat) (hL : L ≤ 4611686018427387904) : ∀ g s, Ev.look (G_slices_Equal_Quanta_ L) g = some s → SpecOk Try.prog g s := specs_nil
theorem To_slices_Equal_Quanta_ (L : Nat) : TableOk Try.prog ((G_slices_Equal_Quanta_ L).map (·.1)) T_slices_Equal_Quanta_ := (table_cons Try.func25 (by kernel_rfl) (by kernel_rfl) table_nil)
attribute [local go_sem] Ty.tk3 Ty.ik3 Ty.ek3 Ty.zv3 Ty.by3 Ty.so3 Ty.tk4 Ty.ub4 Ty.ek4 Ty.zv4 Ty.by4 Ty.so4 Ty.tk27 Ty.ik27 Ty.ek27 Ty.zv27 Ty.by27 Ty.so27 Ty.tk35 Ty.zv35 Ty.by35 Ty.so35 Ty.tk43 Ty.ct43 Ty.ek43 Ty.zv43 Ty.by43 Ty.so43 Ty.k35_e Ty.k43_e E.dw25_6 E.kl25_6 E.nc25_6 E.mk25_0 E.mk25_1000001 E.mk25_1000002 E.mk25_1000000 E.lb25_0 loopN loops Try.f25
def Q0_p_slices_Equal_Quanta__l0 (a0 : List (Int × Int × Bool × Unit)) (a1 : List (Int × Int × Bool × Unit)) (a2 : Int) (u : Unit) (z : Out) : Prop := ∃ env st, z = some (.exit 0, env, st) ∧ env = sp 26 0 []
def Q1_p_slices_Equal_Quanta__l0 (a0 : List (Int × Int × Bool × Unit)) (a1 : List (Int × Int × Bool × Unit)) (a2 : Int) (u : Unit) (z : Out) : Prop := ∃ env st, z = some (.ret, env, st) ∧ env = sp 26 0 [(4, .d (.bool false))]
def Q_p_slices_Equal_Quanta__l0 (a0 : List (Int × Int × Bool × Unit)) (a1 : List (Int × Int × Bool × Unit)) (a2 : Int) (o : Sum Unit Unit) (z : Out) : Prop := match o with | (.inl u) => Q0_p_slices_Equal_Quanta__l0 a0 a1 a2 u z | (.inr u) => Q1_p_slices_Equal_Quanta__l0 a0 a1 a2 u z
theorem l_p_slices_Equal_Quanta__l0 (L : Nat) (hL : L ≤ 4611686018427387904) (a0 : List (Int × Int × Bool × Unit)) (a1 : List (Int × Int × Bool × Unit)) (a2 : Int) : ∀ (tl n : Nat) (s3 : Int) (env : List V) (st : Store) (o : Sum Unit Unit), tl < n → Cnt a2 s3 tl → mask (maskOf en25.ms 0) env = sp 26 0 [(0, .d (.sl 43 (a0.map k43.e))), (1, .d (.sl 43 (a1.map k43.e))), (12, .d (.int .i64 a2)), (13, .d (.int .i64 s3))] → p_slices_Equal_Quanta__l0 L a0 a1 tl s3  = some o →
    Q_p_slices_Equal_Quanta__l0 a0 a1 a2 o (iter (evC Try.prog (G_slices_Equal_Quanta_ L) (evF Try.prog (G_slices_Equal_Quanta_ L) T_slices_Equal_Quanta_ L 0) L en25.ms 0 0 lb25_0) (maskOf en25.ms 0) n env st) := by
  intro tl
  induction tl with
  | zero =>
    intro n s3  env st o hn hR he  h
    obtain ⟨n, rfl⟩ : ∃ m, n = m + 1 := ⟨n - 1, by omega⟩
    have g0 := cnt_nil hR
    rw [iter, he]
    clear he
    generalize hK : iter _ _ n = K
    rw [p_slices_Equal_Quanta__l0] at h
    revert h
    rintro ⟨⟩
    simp only [go_sem, Nat.reduceAdd, Nat.reduceSub, Nat.reduceMul, Nat.reduceEqDiff, Nat.reduceBEq, Nat.reduceLT, Nat.reduceLeDiff, Nat.reducePow, Int.reduceToNat, Int.reduceLT, Int.reduceLE, Int.reduceGT, Int.reduceGE, Int.reduceEq, Int.reduceNeg, Int.reduceAdd, Int.reduceSub, Int.reduceMul, ↓reduceIte, reduceCtorEq, *]
    refine (⟨_, _, rfl, ?_⟩ : Q0_p_slices_Equal_Quanta__l0 a0 a1 a2 _ _)
    all_goals simp only [go_sem, Nat.reduceAdd, Nat.reduceSub, Nat.reduceMul, Nat.reduceEqDiff, Nat.reduceBEq, Nat.reduceLT, Nat.reduceLeDiff, Nat.reducePow, Int.reduceToNat, Int.reduceLT, Int.reduceLE, Int.reduceGT, Int.reduceGE, Int.reduceEq, Int.reduceNeg, Int.reduceAdd, Int.reduceSub, Int.reduceMul, ↓reduceIte, reduceCtorEq, *]
  | succ tl ih =>
    intro n s3  env st o hn hR he  h
    obtain ⟨n, rfl⟩ : ∃ m, n = m + 1 := ⟨n - 1, by omega⟩
    replace ih : Hold _ := ih
    replace hR := cnt_s hR
    obtain ⟨g0, g1, g3, hR⟩ := hR
    rw [iter, he]
    clear he
    generalize hK : iter _ _ n = K
    rw [p_slices_Equal_Quanta__l0] at h
    revert h
    refine idx_i fun x6 c1 c2 c3 => ?_
    refine idx_i fun x7 c4 c5 c6 => ?_
    refine cb_i (fun c7 => ?_) (fun c7 => ?_)
    · intro h
      simp only [go_sem, Nat.reduceAdd, Nat.reduceSub, Nat.reduceMul, Nat.reduceEqDiff, Nat.reduceBEq, Nat.reduceLT, Nat.reduceLeDiff, Nat.reducePow, Int.reduceToNat, Int.reduceLT, Int.reduceLE, Int.reduceGT, Int.reduceGE, Int.reduceEq, Int.reduceNeg, Int.reduceAdd, Int.reduceSub, Int.reduceMul, ↓reduceIte, reduceCtorEq, *]
      subst hK
      refine ih n (s3 + 1)  _ _ _ (by omega) hR ?_ h
      all_goals simp only [go_sem, Nat.reduceAdd, Nat.reduceSub, Nat.reduceMul, Nat.reduceEqDiff, Nat.reduceBEq, Nat.reduceLT, Nat.reduceLeDiff, Nat.reducePow, Int.reduceToNat, Int.reduceLT, Int.reduceLE, Int.reduceGT, Int.reduceGE, Int.reduceEq, Int.reduceNeg, Int.reduceAdd, Int.reduceSub, Int.reduceMul, ↓reduceIte, reduceCtorEq, *]
    · rintro ⟨⟩
      simp only [go_sem, Nat.reduceAdd, Nat.reduceSub, Nat.reduceMul, Nat.reduceEqDiff, Nat.reduceBEq, Nat.reduceLT, Nat.reduceLeDiff, Nat.reducePow, Int.reduceToNat, Int.reduceLT, Int.reduceLE, Int.reduceGT, Int.reduceGE, Int.reduceEq, Int.reduceNeg, Int.reduceAdd, Int.reduceSub, Int.reduceMul, ↓reduceIte, reduceCtorEq, *]
      refine (⟨_, _, rfl, ?_⟩ : Q1_p_slices_Equal_Quanta__l0 a0 a1 a2 _ _)
      all_goals simp only [go_sem, Nat.reduceAdd, Nat.reduceSub, Nat.reduceMul, Nat.reduceEqDiff, Nat.reduceBEq, Nat.reduceLT, Nat.reduceLeDiff, Nat.reducePow, Int.reduceToNat, Int.reduceLT, Int.reduceLE, Int.reduceGT, Int.reduceGE, Int.reduceEq, Int.reduceNeg, Int.reduceAdd, Int.reduceSub, Int.reduceMul, ↓reduceIte, reduceCtorEq, *]
theorem e_slices_Equal_Quanta_ (L : Nat) (hL : L ≤ 4611686018427387904) (a0 : List (Int × Int × Bool × Unit)) (a1 : List (Int × Int × Bool × Unit)) (res : Bool) (h : p_slices_Equal_Quanta_ L a0 a1 = some res) : evTop Try.prog (G_slices_Equal_Quanta_ L) T_slices_Equal_Quanta_ L 1 25 [.sl 43 (a0.map k43.e), .sl 43 (a1.map k43.e)] = some [.bool res] := by
  revert h
  unfold p_slices_Equal_Quanta_ evTop
  simp only [List.map]
  rw [evF_s (fn := Try.f25) (msk := en25.ms) (hT := by rfl) (hb := by rfl)]
  refine cb_i (fun c1 => ?_) (fun c1 => ?_)
  · refine rq_i fun c2 => ?_
    refine rq_i fun c3 => ?_
    refine bnd_i fun o8 ho4 => ?_
    intro h
    simp only [go_sem, Nat.reduceAdd, Nat.reduceSub, Nat.reduceMul, Nat.reduceEqDiff, Nat.reduceBEq, Nat.reduceLT, Nat.reduceLeDiff, Nat.reducePow, Int.reduceToNat, Int.reduceLT, Int.reduceLE, Int.reduceGT, Int.reduceGE, Int.reduceEq, Int.reduceNeg, Int.reduceAdd, Int.reduceSub, Int.reduceMul, ↓reduceIte, reduceCtorEq, *]
    generalize hz6 : iter _ _ _ _ _ = z5
    have hq7 : Q_p_slices_Equal_Quanta__l0 a0 a1 (a0.length : Int) o8 z5 := by
      rw [← hz6]
      refine l_p_slices_Equal_Quanta__l0 L hL a0 a1 (a0.length : Int) _ L 0  _ _ _ c2 (cnt_00 (by decide) c3) ?_ ho4
      all_goals simp only [go_sem, Nat.reduceAdd, Nat.reduceSub, Nat.reduceMul, Nat.reduceEqDiff, Nat.reduceBEq, Nat.reduceLT, Nat.reduceLeDiff, Nat.reducePow, Int.reduceToNat, Int.reduceLT, Int.reduceLE, Int.reduceGT, Int.reduceGE, Int.reduceEq, Int.reduceNeg, Int.reduceAdd, Int.reduceSub, Int.reduceMul, ↓reduceIte, reduceCtorEq, *]
    clear hz6 ho4
    rcases o8 with o8_0 | o8_1
    · obtain ⟨_, st9, rfl, rfl⟩ := hq7
      dsimp only at h
      revert h
      rintro ⟨⟩
      simp only [go_sem, Nat.reduceAdd, Nat.reduceSub, Nat.reduceMul, Nat.reduceEqDiff, Nat.reduceBEq, Nat.reduceLT, Nat.reduceLeDiff, Nat.reducePow, Int.reduceToNat, Int.reduceLT, Int.reduceLE, Int.reduceGT, Int.reduceGE, Int.reduceEq, Int.reduceNeg, Int.reduceAdd, Int.reduceSub, Int.reduceMul, ↓reduceIte, reduceCtorEq, *]
    · obtain ⟨_, st10, rfl, rfl⟩ := hq7
      dsimp only at h
      revert h
      rintro ⟨⟩
      simp only [go_sem, Nat.reduceAdd, Nat.reduceSub, Nat.reduceMul, Nat.reduceEqDiff, Nat.reduceBEq, Nat.reduceLT, Nat.reduceLeDiff, Nat.reducePow, Int.reduceToNat, Int.reduceLT, Int.reduceLE, Int.reduceGT, Int.reduceGE, Int.reduceEq, Int.reduceNeg, Int.reduceAdd, Int.reduceSub, Int.reduceMul, ↓reduceIte, reduceCtorEq, *]
  · rintro ⟨⟩
    simp only [go_sem, Nat.reduceAdd, Nat.reduceSub, Nat.reduceMul, Nat.reduceEqDiff, Nat.reduceBEq, Nat.reduceLT, Nat.reduceLeDiff, Nat.reducePow, Int.reduceToNat, Int.reduceLT, Int.reduceLE, Int.reduceGT, Int.reduceGE, Int.reduceEq, Int.reduceNeg, Int.reduceAdd, Int.reduceSub, Int.reduceMul, ↓reduceIte, reduceCtorEq, *]
noncomputable def s_slices_Equal_Quanta_ (L : Nat) : Ev.Spec := specP (cCons k35 (cCons k35 cNil)) (fun x => p_slices_Equal_Quanta_ L x.1 x.2.1) (fun r => [.bool r])
theorem s_slices_Equal_Quanta__run (L : Nat) (a0 : List (Int × Int × Bool × Unit)) (a1 : List (Int × Int × Bool × Unit)) : (s_slices_Equal_Quanta_ L).run [.sl 43 (a0.map k43.e), .sl 43 (a1.map k43.e)] = (p_slices_Equal_Quanta_ L a0 a1).map fun r => [.bool r] := specP_run (cCons k35 (cCons k35 cNil)) (fun x => p_slices_Equal_Quanta_ L x.1 x.2.1) (fun r => [.bool r]) (a0, a1, ())
theorem ok_slices_Equal_Quanta_ (L : Nat) (hL : L ≤ 4611686018427387904) : SpecOk Try.prog 25 (s_slices_Equal_Quanta_ L) := specP_ok mixed (Go_slices_Equal_Quanta_ L hL) (To_slices_Equal_Quanta_ L) fun x r h => ⟨L, 1, e_slices_Equal_Quanta_ L hL x.1 x.2.1 r h⟩
end Go.Proofs.Ytjplkbeolakbjaa.P
end
section
set_option linter.unusedVariables false
set_option linter.unusedSimpArgs false
set_option maxRecDepth 100000
namespace Go.Proofs.Ytjplkbeolakbjaa.P
open Go.Ev Go.IntKind Go.Proofs.Ytjplkbeolakbjaa Go.Proofs.Ytjplkbeolakbjaa.Ty Go.Proofs.Ytjplkbeolakbjaa.E
def p_spyref3_SameCells (L : Nat) (a0_0 : Int) (a0_1 : Int) (a0_2 : List (Int × Int × Bool × Unit)) (a1_0 : Int) (a1_1 : Int) (a1_2 : List (Int × Int × Bool × Unit)) : Option Bool := cb (decide (a0_0 = a1_0)) (cb (decide (a0_1 = a1_1)) (bnd (p_slices_Equal_Quanta_ L a0_2 a1_2) fun r1 => some r1) (some false)) (some false)
attribute [local go_sem] Ev.putR_s Ev.putR_0 Ev.thenO_s Ev.thenO_0 Ev.seqR_n Ev.seqR_e Ev.seqR_r Ev.seqR_0 Ev.blkR_e Ev.blkR_n Ev.blkR_r Ev.blkR_0 Ev.normR_s Ev.normR_0 Ev.outR_r Ev.outR_n Ev.outR_0 Ev.retS_s Ev.retS_0 Ev.pureO_s Ev.pureO_0 Ev.topR_0 Ev.topR_t Ev.topR_t0 Ev.oneL_0 Ev.oneL_s Ev.topR_d Ev.topR_nils Ev.topR_agg Ev.topR_rs Ev.evOp_move Ev.evOp_assign Ev.evOp_pick Ev.evOp_alloc Ev.evOp_box Ev.evOp_build Ev.evOp_buildSlice Ev.evOp_load Ev.evOp_store Ev.evOp_makeMap Ev.evOp_lookup Ev.evOp_mapUpdate Ev.evOp_insert Ev.evOp_nilCheck Ev.evOp_binOp Ev.evOp_unOp Ev.evOp_convert Ev.evOp_makeFunc Ev.evOp_makeSlice Ev.evOp_slice Ev.evOp_fieldAddr Ev.evOp_field Ev.evOp_indexAddr Ev.evOp_index Ev.evOp_extract Ev.evOp_call Ev.evOp_append Ev.evOp_clear Ev.evOp_len Ev.evOp_min Ev.evOp_max Ev.condR_b Ev.condR_t Ev.evOps_nil Ev.evOps_plain Ev.evOps_guard Ev.runG_eq Ev.skipG_eq Ev.condL_tt Ev.condL_ff Ev.condL_tf Ev.condL_ft Ev.condL_u Ev.condC_t Ev.condC_f Ev.evC_skip Ev.evC_ret Ev.evC_exit Ev.evC_label Ev.evC_region Ev.evC_draw Ev.evC_seq Ev.evC_cond Ev.evC_block Ev.evC_loop Ev.fin_d Ev.fin_nils Ev.fin_agg_ Ev.fin_rs Ev.finS_s Ev.mapO_fin Ev.upd_upd Ev.argv_d Ev.argv_nils Ev.argv_agg Ev.argv_rs Ev.argv_p Ev.fk_low Ev.appendTo_nils Ev.appendTo_rs Ev.consV_d Ev.consV_agg Ev.consV_p Ev.consV_rs Ev.consV_nils Ev.consV_fn Ev.consV_und Ev.consV_jk Ev.consV_grown Ev.topR_grown Ev.len_grown Ev.consV_mp Ev.sameK_i Ev.sameK_s Ev.mget_0 Ev.mget_hit Ev.mget_miss Ev.mput_0 Ev.mput_hit Ev.mput_miss Ev.apartAll Ev.apartL Ev.apartV Ev.freeAll Ev.sel Ev.keyOfV Ev.evLookup Ev.evPut Ev.hintOk Ev.keyOk Ev.consP Ev.lookV Ev.guardV Ev.dstAt Ev.evPure Ev.evStore Ev.evBin Ev.evBinO Ev.evNil Ev.isNilC Ev.evUn Ev.evConv Ev.evSlice Ev.optI Ev.foldI Ev.capsOk Ev.noTup Ev.nth Ev.setN Ev.killAt Ev.pad Ev.V.get Ev.V.put Ev.putD Ev.newBlk Ev.upd Ev.keq Ev.empty Ev.evCall Ev.V.args Ev.argP Ev.callOf Ev.evNilP Ev.isNilP Ev.look Ev.V.view.views Ev.V.view Ev.V.toD Ev.V.toD.V.toDs Ev.V.pure.pures Ev.V.pure Ev.D.flat.flats Ev.D.flat Ev.mkAgg Ev.allD Ev.aggParts Ev.setParts Ev.setElems Ev.getPath Ev.setPath Ev.subL Ev.eqD Ev.eqD.eqDs Ev.and2 Ev.strCut Ev.evalT Ev.constT Ev.evArgs Ev.mask Ev.maskOf Ev.tableOf Ev.compT Ev.resV Ev.retV Ev.mapO Ev.allD_gl Ev.killAt_i Ev.tkOne_i Ev.hT_agg Ev.hT_vagg Ev.hT_int Ev.hT_bool Ev.hT_str Ev.hT_sl Ev.hT_ptr Ev.hT_np Ev.hT_p Ev.hT_rs Ev.hT_mp Ev.hT_nils Ev.hT_fn Ev.hT_jk Ev.hT_gl Ev.eO_sl Ev.eO_nils Ev.eO_rs Ev.eT_sl Ev.eT_rs Ev.pL_str Ev.pL_sl Ev.pL_rs Ev.pL_nils Ev.pL_min Ev.pL_max Ev.len_glB Ev.noTup_gl Ev.rowV_len Ev.rowV_nil Ev.rowV_cons Ev.rowV_append Ev.rowV_set Ev.rowV_replicate Ev.nth_row Ev.row_take Ev.row_drop Ev.toDs_row Ev.fin_row Ev.map_row Ev.map_take_ Ev.map_drop_ Ev.Bk_i Ev.GlB_0 Ev.GlB_mk Ev.gl_nil Ev.gl_cons Ev.gl_snoc Ev.gl_setN Ev.appendTo_gl Ev.consV_gl Ev.elems_gl Ev.fin_gl Ev.view_gl Ev.argv_gl Ev.topR_gl Ev.sp_z Ev.sp_0 Ev.sp_s Ev.km_z Ev.km_0 Ev.km_s Ev.beq_toList Ev.nc0 Ev.bq_t Ev.bq_f Ev.bodyN Ev.le_maxRow Int.cast_ofNat_Int IntWalk.i64_in IntWalk.u64_in IntWalk.u8_in beq_self_eq_true Bool.true_beq Bool.false_beq Bool.and_true Bool.true_and Bool.false_and Bool.and_false Bool.and_self Bool.not_true Bool.not_false Bool.not_eq_true cond_true cond_false if_true if_false and_true true_and and_self decide_true decide_false Bool.or_true Bool.true_or Bool.or_false Bool.false_or List.isEmpty List.isEmpty_nil List.size_toArray List.map List.length_map List.length_cons List.length_nil Option.map Option.bind Option.getD Option.isSome List.replicate Bool.false_eq_true implies_true false_implies forall_const Array.toList Array.isEmpty List.append List.nil_append List.cons_append List.drop_zero List.take_length List.take_succ_cons List.take_zero List.take_nil List.getElem?_map List.getElem?_cons_zero List.getElem?_cons_succ List.getElem?_nil List.append_nil eq_self Int.toNat_natCast List.length_append Nat.zero_add Nat.add_zero List.length_replicate Nat.sub_zero Option.map_some Option.map_none Int.le_refl Nat.le_refl
noncomputable def G_spyref3_SameCells (L : Nat) : Specs := [(25, s_slices_Equal_Quanta_ L)]
noncomputable def T_spyref3_SameCells : Table := tableOf [(55, en55)]
theorem Go_spyref3_SameCells (L : Nat) (hL : L ≤ 4611686018427387904) : ∀ g s, Ev.look (G_spyref3_SameCells L) g = some s → SpecOk Try.prog g s := (specs_cons (ok_slices_Equal_Quanta_ L hL) specs_nil)
theorem To_spyref3_SameCells (L : Nat) : TableOk Try.prog ((G_spyref3_SameCells L).map (·.1)) T_spyref3_SameCells := (table_cons Try.func55 (by kernel_rfl) (by kernel_rfl) table_nil)
theorem lk_spyref3_SameCells_25 (L : Nat) : Ev.look (G_spyref3_SameCells L) 25 = some (s_slices_Equal_Quanta_ L) := nr rfl
attribute [local go_sem] Ty.tk3 Ty.ik3 Ty.ek3 Ty.zv3 Ty.by3 Ty.so3 Ty.tk4 Ty.ub4 Ty.ek4 Ty.zv4 Ty.by4 Ty.so4 Ty.tk27 Ty.ik27 Ty.ek27 Ty.zv27 Ty.by27 Ty.so27 Ty.tk35 Ty.zv35 Ty.by35 Ty.so35 Ty.tk43 Ty.ct43 Ty.ek43 Ty.zv43 Ty.by43 Ty.so43 Ty.tk82 Ty.ct82 Ty.zv82 Ty.by82 Ty.so82 Ty.k35_e Ty.k43_e Ty.k82_e E.mk55_1000000 lk_spyref3_SameCells_25 s_slices_Equal_Quanta__run loopN loops Try.f55
theorem e_spyref3_SameCells (L : Nat) (hL : L ≤ 4611686018427387904) (a0_0 : Int) (a0_1 : Int) (a0_2 : List (Int × Int × Bool × Unit)) (a1_0 : Int) (a1_1 : Int) (a1_2 : List (Int × Int × Bool × Unit)) (res : Bool) (h : p_spyref3_SameCells L a0_0 a0_1 a0_2 a1_0 a1_1 a1_2 = some res) : evTop Try.prog (G_spyref3_SameCells L) T_spyref3_SameCells L 1 55 [.agg 82 [.int .i64 a0_0, .int .i64 a0_1, .sl 43 (a0_2.map k43.e)], .agg 82 [.int .i64 a1_0, .int .i64 a1_1, .sl 43 (a1_2.map k43.e)]] = some [.bool res] := by
  revert h
  unfold p_spyref3_SameCells evTop
  simp only [List.map]
  rw [evF_s (fn := Try.f55) (msk := en55.ms) (hT := by rfl) (hb := by rfl)]
  refine cb_i (fun c1 => ?_) (fun c1 => ?_)
  · refine cb_i (fun c2 => ?_) (fun c2 => ?_)
    · refine bnd_i fun r1 c3 => ?_
      rintro ⟨⟩
      simp only [go_sem, Nat.reduceAdd, Nat.reduceSub, Nat.reduceMul, Nat.reduceEqDiff, Nat.reduceBEq, Nat.reduceLT, Nat.reduceLeDiff, Nat.reducePow, Int.reduceToNat, Int.reduceLT, Int.reduceLE, Int.reduceGT, Int.reduceGE, Int.reduceEq, Int.reduceNeg, Int.reduceAdd, Int.reduceSub, Int.reduceMul, ↓reduceIte, reduceCtorEq, *]
    · rintro ⟨⟩
      simp only [go_sem, Nat.reduceAdd, Nat.reduceSub, Nat.reduceMul, Nat.reduceEqDiff, Nat.reduceBEq, Nat.reduceLT, Nat.reduceLeDiff, Nat.reducePow, Int.reduceToNat, Int.reduceLT, Int.reduceLE, Int.reduceGT, Int.reduceGE, Int.reduceEq, Int.reduceNeg, Int.reduceAdd, Int.reduceSub, Int.reduceMul, ↓reduceIte, reduceCtorEq, *]
  · rintro ⟨⟩
    simp only [go_sem, Nat.reduceAdd, Nat.reduceSub, Nat.reduceMul, Nat.reduceEqDiff, Nat.reduceBEq, Nat.reduceLT, Nat.reduceLeDiff, Nat.reducePow, Int.reduceToNat, Int.reduceLT, Int.reduceLE, Int.reduceGT, Int.reduceGE, Int.reduceEq, Int.reduceNeg, Int.reduceAdd, Int.reduceSub, Int.reduceMul, ↓reduceIte, reduceCtorEq, *]
noncomputable def s_spyref3_SameCells (L : Nat) : Ev.Spec := specP (cCons k82 (cCons k82 cNil)) (fun x => p_spyref3_SameCells L x.1.1 x.1.2.1 x.1.2.2.1 x.2.1.1 x.2.1.2.1 x.2.1.2.2.1) (fun r => [.bool r])
theorem s_spyref3_SameCells_run (L : Nat) (a0_0 : Int) (a0_1 : Int) (a0_2 : List (Int × Int × Bool × Unit)) (a1_0 : Int) (a1_1 : Int) (a1_2 : List (Int × Int × Bool × Unit)) : (s_spyref3_SameCells L).run [.agg 82 [.int .i64 a0_0, .int .i64 a0_1, .sl 43 (a0_2.map k43.e)], .agg 82 [.int .i64 a1_0, .int .i64 a1_1, .sl 43 (a1_2.map k43.e)]] = (p_spyref3_SameCells L a0_0 a0_1 a0_2 a1_0 a1_1 a1_2).map fun r => [.bool r] := specP_run (cCons k82 (cCons k82 cNil)) (fun x => p_spyref3_SameCells L x.1.1 x.1.2.1 x.1.2.2.1 x.2.1.1 x.2.1.2.1 x.2.1.2.2.1) (fun r => [.bool r]) ((a0_0, a0_1, a0_2, ()), (a1_0, a1_1, a1_2, ()), ())
theorem ok_spyref3_SameCells (L : Nat) (hL : L ≤ 4611686018427387904) : SpecOk Try.prog 55 (s_spyref3_SameCells L) := specP_ok mixed (Go_spyref3_SameCells L hL) (To_spyref3_SameCells L) fun x r h => ⟨L, 1, e_spyref3_SameCells L hL x.1.1 x.1.2.1 x.1.2.2.1 x.2.1.1 x.2.1.2.1 x.2.1.2.2.1 r h⟩
end Go.Proofs.Ytjplkbeolakbjaa.P
end
section
set_option linter.unusedVariables false
set_option linter.unusedSimpArgs false
set_option maxRecDepth 100000
namespace Go.Proofs.Ytjplkbeolakbjaa.P
open Go.Ev Go.IntKind Go.Proofs.Ytjplkbeolakbjaa Go.Proofs.Ytjplkbeolakbjaa.Ty Go.Proofs.Ytjplkbeolakbjaa.E
def p_spylaw3_CleanCombines_l0 (L : Nat)  : List (Int × Int × (List (Int × Int × Bool × Unit)) × Unit) → Option (Sum Unit Unit)
  | [] => some (.inl ())
  | x1 :: tl => bnd (p_clean_Check L x1.1 x1.2.1 x1.2.2.1) fun r5 => bnd (p_spyref3_FieldFault L x1.1 x1.2.1 x1.2.2.1) fun r6 => cb (decide (r5 = r6)) (p_spylaw3_CleanCombines_l0 L  tl) (some (.inr ()))
def p_spylaw3_CleanCombines (L : Nat) (a0 : List (Int × Int × (List (Int × Int × Bool × Unit)) × Unit)) (a1 : Int) : Option Bool := rq (a0.length < L) <| bnd (p_spylaw3_CleanCombines_l0 L a0) fun o7 => match o7 with | (.inl o7_0) => (bnd (p_clean_Combine L a0 a1) fun r9 => bnd (p_spyref3_Combined L a0 a1) fun r10 => bnd (p_spylaw3_cleans L) fun r11 => cb r11 (cb (decide (r9.2.2.2 = r10.2.2.2)) (bnd (p_spyref3_SameCells L r9.1 r9.2.1 r9.2.2.1 r10.1 r10.2.1 r10.2.2.1) fun r12 => some r12) (some false)) (some false)) | (.inr o7_1) => (some false)
attribute [local go_sem] Ev.putR_s Ev.putR_0 Ev.thenO_s Ev.thenO_0 Ev.seqR_n Ev.seqR_e Ev.seqR_r Ev.seqR_0 Ev.blkR_e Ev.blkR_n Ev.blkR_r Ev.blkR_0 Ev.normR_s Ev.normR_0 Ev.outR_r Ev.outR_n Ev.outR_0 Ev.retS_s Ev.retS_0 Ev.pureO_s Ev.pureO_0 Ev.topR_0 Ev.topR_t Ev.topR_t0 Ev.oneL_0 Ev.oneL_s Ev.topR_d Ev.topR_nils Ev.topR_agg Ev.topR_rs Ev.evOp_move Ev.evOp_assign Ev.evOp_pick Ev.evOp_alloc Ev.evOp_box Ev.evOp_build Ev.evOp_buildSlice Ev.evOp_load Ev.evOp_store Ev.evOp_makeMap Ev.evOp_lookup Ev.evOp_mapUpdate Ev.evOp_insert Ev.evOp_nilCheck Ev.evOp_binOp Ev.evOp_unOp Ev.evOp_convert Ev.evOp_makeFunc Ev.evOp_makeSlice Ev.evOp_slice Ev.evOp_fieldAddr Ev.evOp_field Ev.evOp_indexAddr Ev.evOp_index Ev.evOp_extract Ev.evOp_call Ev.evOp_append Ev.evOp_clear Ev.evOp_len Ev.evOp_min Ev.evOp_max Ev.condR_b Ev.condR_t Ev.evOps_nil Ev.evOps_plain Ev.evOps_guard Ev.runG_eq Ev.skipG_eq Ev.condL_tt Ev.condL_ff Ev.condL_tf Ev.condL_ft Ev.condL_u Ev.condC_t Ev.condC_f Ev.evC_skip Ev.evC_ret Ev.evC_exit Ev.evC_label Ev.evC_region Ev.evC_draw Ev.evC_seq Ev.evC_cond Ev.evC_block Ev.evC_loop Ev.fin_d Ev.fin_nils Ev.fin_agg_ Ev.fin_rs Ev.finS_s Ev.mapO_fin Ev.upd_upd Ev.argv_d Ev.argv_nils Ev.argv_agg Ev.argv_rs Ev.argv_p Ev.fk_low Ev.appendTo_nils Ev.appendTo_rs Ev.consV_d Ev.consV_agg Ev.consV_p Ev.consV_rs Ev.consV_nils Ev.consV_fn Ev.consV_und Ev.consV_jk Ev.consV_grown Ev.topR_grown Ev.len_grown Ev.consV_mp Ev.sameK_i Ev.sameK_s Ev.mget_0 Ev.mget_hit Ev.mget_miss Ev.mput_0 Ev.mput_hit Ev.mput_miss Ev.apartAll Ev.apartL Ev.apartV Ev.freeAll Ev.sel Ev.keyOfV Ev.evLookup Ev.evPut Ev.hintOk Ev.keyOk Ev.consP Ev.lookV Ev.guardV Ev.dstAt Ev.evPure Ev.evStore Ev.evBin Ev.evBinO Ev.evNil Ev.isNilC Ev.evUn Ev.evConv Ev.evSlice Ev.optI Ev.foldI Ev.capsOk Ev.noTup Ev.nth Ev.setN Ev.killAt Ev.pad Ev.V.get Ev.V.put Ev.putD Ev.newBlk Ev.upd Ev.keq Ev.empty Ev.evCall Ev.V.args Ev.argP Ev.callOf Ev.evNilP Ev.isNilP Ev.look Ev.V.view.views Ev.V.view Ev.V.toD Ev.V.toD.V.toDs Ev.V.pure.pures Ev.V.pure Ev.D.flat.flats Ev.D.flat Ev.mkAgg Ev.allD Ev.aggParts Ev.setParts Ev.setElems Ev.getPath Ev.setPath Ev.subL Ev.eqD Ev.eqD.eqDs Ev.and2 Ev.strCut Ev.evalT Ev.constT Ev.evArgs Ev.mask Ev.maskOf Ev.tableOf Ev.compT Ev.resV Ev.retV Ev.mapO Ev.allD_gl Ev.killAt_i Ev.tkOne_i Ev.hT_agg Ev.hT_vagg Ev.hT_int Ev.hT_bool Ev.hT_str Ev.hT_sl Ev.hT_ptr Ev.hT_np Ev.hT_p Ev.hT_rs Ev.hT_mp Ev.hT_nils Ev.hT_fn Ev.hT_jk Ev.hT_gl Ev.eO_sl Ev.eO_nils Ev.eO_rs Ev.eT_sl Ev.eT_rs Ev.pL_str Ev.pL_sl Ev.pL_rs Ev.pL_nils Ev.pL_min Ev.pL_max Ev.len_glB Ev.noTup_gl Ev.rowV_len Ev.rowV_nil Ev.rowV_cons Ev.rowV_append Ev.rowV_set Ev.rowV_replicate Ev.nth_row Ev.row_take Ev.row_drop Ev.toDs_row Ev.fin_row Ev.map_row Ev.map_take_ Ev.map_drop_ Ev.Bk_i Ev.GlB_0 Ev.GlB_mk Ev.gl_nil Ev.gl_cons Ev.gl_snoc Ev.gl_setN Ev.appendTo_gl Ev.consV_gl Ev.elems_gl Ev.fin_gl Ev.view_gl Ev.argv_gl Ev.topR_gl Ev.sp_z Ev.sp_0 Ev.sp_s Ev.km_z Ev.km_0 Ev.km_s Ev.beq_toList Ev.nc0 Ev.bq_t Ev.bq_f Ev.bodyN Ev.le_maxRow Int.cast_ofNat_Int IntWalk.i64_in IntWalk.u64_in IntWalk.u8_in beq_self_eq_true Bool.true_beq Bool.false_beq Bool.and_true Bool.true_and Bool.false_and Bool.and_false Bool.and_self Bool.not_true Bool.not_false Bool.not_eq_true cond_true cond_false if_true if_false and_true true_and and_self decide_true decide_false Bool.or_true Bool.true_or Bool.or_false Bool.false_or List.isEmpty List.isEmpty_nil List.size_toArray List.map List.length_map List.length_cons List.length_nil Option.map Option.bind Option.getD Option.isSome List.replicate Bool.false_eq_true implies_true false_implies forall_const Array.toList Array.isEmpty List.append List.nil_append List.cons_append List.drop_zero List.take_length List.take_succ_cons List.take_zero List.take_nil List.getElem?_map List.getElem?_cons_zero List.getElem?_cons_succ List.getElem?_nil List.append_nil eq_self Int.toNat_natCast List.length_append Nat.zero_add Nat.add_zero List.length_replicate Nat.sub_zero Option.map_some Option.map_none Int.le_refl Nat.le_refl
noncomputable def G_spylaw3_CleanCombines (L : Nat) : Specs := [(50, s_clean_Check L), (51, s_spyref3_FieldFault L), (52, s_clean_Combine L), (53, s_spyref3_Combined L), (54, s_spylaw3_cleans L), (55, s_spyref3_SameCells L)]
noncomputable def T_spylaw3_CleanCombines : Table := tableOf [(12, en12)]
theorem Go_spylaw3_CleanCombines (L : Nat) (hL : L ≤ 4611686018427387904) : ∀ g s, Ev.look (G_spylaw3_CleanCombines L) g = some s → SpecOk Try.prog g s := (specs_cons (ok_clean_Check L hL) (specs_cons (ok_spyref3_FieldFault L hL) (specs_cons (ok_clean_Combine L hL) (specs_cons (ok_spyref3_Combined L hL) (specs_cons (ok_spylaw3_cleans L hL) (specs_cons (ok_spyref3_SameCells L hL) specs_nil))))))
theorem To_spylaw3_CleanCombines (L : Nat) : TableOk Try.prog ((G_spylaw3_CleanCombines L).map (·.1)) T_spylaw3_CleanCombines := (table_cons Try.func12 (by kernel_rfl) (by kernel_rfl) table_nil)
theorem lk_spylaw3_CleanCombines_50 (L : Nat) : Ev.look (G_spylaw3_CleanCombines L) 50 = some (s_clean_Check L) := nr rfl
theorem lk_spylaw3_CleanCombines_51 (L : Nat) : Ev.look (G_spylaw3_CleanCombines L) 51 = some (s_spyref3_FieldFault L) := nr rfl
theorem lk_spylaw3_CleanCombines_52 (L : Nat) : Ev.look (G_spylaw3_CleanCombines L) 52 = some (s_clean_Combine L) := nr rfl
theorem lk_spylaw3_CleanCombines_53 (L : Nat) : Ev.look (G_spylaw3_CleanCombines L) 53 = some (s_spyref3_Combined L) := nr rfl
theorem lk_spylaw3_CleanCombines_54 (L : Nat) : Ev.look (G_spylaw3_CleanCombines L) 54 = some (s_spylaw3_cleans L) := nr rfl
theorem lk_spylaw3_CleanCombines_55 (L : Nat) : Ev.look (G_spylaw3_CleanCombines L) 55 = some (s_spyref3_SameCells L) := nr rfl
attribute [local go_sem] Ty.tk3 Ty.ik3 Ty.ek3 Ty.zv3 Ty.by3 Ty.so3 Ty.tk4 Ty.ub4 Ty.ek4 Ty.zv4 Ty.by4 Ty.so4 Ty.tk27 Ty.ik27 Ty.ek27 Ty.zv27 Ty.by27 Ty.so27 Ty.tk35 Ty.zv35 Ty.by35 Ty.so35 Ty.tk36 Ty.ik36 Ty.ek36 Ty.zv36 Ty.by36 Ty.so36 Ty.tk43 Ty.ct43 Ty.ek43 Ty.zv43 Ty.by43 Ty.so43 Ty.tk80 Ty.zv80 Ty.by80 Ty.so80 Ty.tk82 Ty.ct82 Ty.zv82 Ty.by82 Ty.so82 Ty.k35_e Ty.k43_e Ty.k80_e Ty.k82_e E.dw12_4 E.kl12_4 E.nc12_4 E.mk12_0 E.mk12_1000001 E.mk12_1000002 E.mk12_1000000 E.lb12_0 lk_spylaw3_CleanCombines_50 lk_spylaw3_CleanCombines_51 lk_spylaw3_CleanCombines_52 lk_spylaw3_CleanCombines_53 lk_spylaw3_CleanCombines_54 lk_spylaw3_CleanCombines_55 s_clean_Check_run s_spyref3_FieldFault_run s_clean_Combine_run s_spyref3_Combined_run s_spylaw3_cleans_run s_spyref3_SameCells_run loopN loops Try.f12
def Q0_p_spylaw3_CleanCombines_l0 (a0 : List (Int × Int × (List (Int × Int × Bool × Unit)) × Unit)) (a1 : Int) (u : Unit) (z : Out) : Prop := ∃ env st, z = some (.exit 0, env, st) ∧ env = sp 46 0 [(0, .d (.sl 82 (a0.map k82.e))), (1, .d (.int .i64 a1))]
def Q1_p_spylaw3_CleanCombines_l0 (a0 : List (Int × Int × (List (Int × Int × Bool × Unit)) × Unit)) (a1 : Int) (u : Unit) (z : Out) : Prop := ∃ env st, z = some (.ret, env, st) ∧ env = sp 46 0 [(4, .d (.bool false))]
def Q_p_spylaw3_CleanCombines_l0 (a0 : List (Int × Int × (List (Int × Int × Bool × Unit)) × Unit)) (a1 : Int) (o : Sum Unit Unit) (z : Out) : Prop := match o with | (.inl u) => Q0_p_spylaw3_CleanCombines_l0 a0 a1 u z | (.inr u) => Q1_p_spylaw3_CleanCombines_l0 a0 a1 u z
theorem l_p_spylaw3_CleanCombines_l0 (L : Nat) (hL : L ≤ 4611686018427387904) (a0 : List (Int × Int × (List (Int × Int × Bool × Unit)) × Unit)) (a1 : Int) : ∀ (tl : List (Int × Int × (List (Int × Int × Bool × Unit)) × Unit)) (n : Nat) (s2 : Int) (env : List V) (st : Store) (o : Sum Unit Unit), tl.length < n → Rng a0 s2 tl → mask (maskOf en12.ms 0) env = sp 46 0 [(0, .d (.sl 82 (a0.map k82.e))), (1, .d (.int .i64 a1)), (11, .d (.sl 82 (a0.map k82.e))), (12, .d (.int .i64 (a0.length : Int))), (13, .d (.int .i64 s2))] → p_spylaw3_CleanCombines_l0 L  tl  = some o →
    Q_p_spylaw3_CleanCombines_l0 a0 a1 o (iter (evC Try.prog (G_spylaw3_CleanCombines L) (evF Try.prog (G_spylaw3_CleanCombines L) T_spylaw3_CleanCombines L 0) L en12.ms 0 0 lb12_0) (maskOf en12.ms 0) n env st) := by
  intro tl
  induction tl with
  | nil =>
    intro n s2  env st o hn hR he  h
    obtain ⟨n, rfl⟩ : ∃ m, n = m + 1 := ⟨n - 1, by omega⟩
    have g0 := rng_nil hR
    rw [iter, he]
    clear he
    generalize hK : iter _ _ n = K
    rw [p_spylaw3_CleanCombines_l0] at h
    revert h
    rintro ⟨⟩
    simp only [go_sem, Nat.reduceAdd, Nat.reduceSub, Nat.reduceMul, Nat.reduceEqDiff, Nat.reduceBEq, Nat.reduceLT, Nat.reduceLeDiff, Nat.reducePow, Int.reduceToNat, Int.reduceLT, Int.reduceLE, Int.reduceGT, Int.reduceGE, Int.reduceEq, Int.reduceNeg, Int.reduceAdd, Int.reduceSub, Int.reduceMul, ↓reduceIte, reduceCtorEq, *]
    refine (⟨_, _, rfl, ?_⟩ : Q0_p_spylaw3_CleanCombines_l0 a0 a1 _ _)
    all_goals simp only [go_sem, Nat.reduceAdd, Nat.reduceSub, Nat.reduceMul, Nat.reduceEqDiff, Nat.reduceBEq, Nat.reduceLT, Nat.reduceLeDiff, Nat.reducePow, Int.reduceToNat, Int.reduceLT, Int.reduceLE, Int.reduceGT, Int.reduceGE, Int.reduceEq, Int.reduceNeg, Int.reduceAdd, Int.reduceSub, Int.reduceMul, ↓reduceIte, reduceCtorEq, *]
  | cons x1 tl ih =>
    intro n s2  env st o hn hR he  h
    obtain ⟨n, rfl⟩ : ∃ m, n = m + 1 := ⟨n - 1, by omega⟩
    replace ih : Hold _ := ih
    replace hR := rng_s hR
    obtain ⟨g0, g1, g2, g3, hR⟩ := hR
    rw [iter, he]
    clear he
    generalize hK : iter _ _ n = K
    rw [p_spylaw3_CleanCombines_l0] at h
    revert h
    refine bnd_i fun r5 c1 => ?_
    refine bnd_i fun r6 c2 => ?_
    refine cb_i (fun c3 => ?_) (fun c3 => ?_)
    · intro h
      simp only [go_sem, Nat.reduceAdd, Nat.reduceSub, Nat.reduceMul, Nat.reduceEqDiff, Nat.reduceBEq, Nat.reduceLT, Nat.reduceLeDiff, Nat.reducePow, Int.reduceToNat, Int.reduceLT, Int.reduceLE, Int.reduceGT, Int.reduceGE, Int.reduceEq, Int.reduceNeg, Int.reduceAdd, Int.reduceSub, Int.reduceMul, ↓reduceIte, reduceCtorEq, *]
      subst hK
      refine ih n (s2 + 1)  _ _ _ (by simp only [List.length_cons] at hn; omega) hR ?_ h
      all_goals simp only [go_sem, Nat.reduceAdd, Nat.reduceSub, Nat.reduceMul, Nat.reduceEqDiff, Nat.reduceBEq, Nat.reduceLT, Nat.reduceLeDiff, Nat.reducePow, Int.reduceToNat, Int.reduceLT, Int.reduceLE, Int.reduceGT, Int.reduceGE, Int.reduceEq, Int.reduceNeg, Int.reduceAdd, Int.reduceSub, Int.reduceMul, ↓reduceIte, reduceCtorEq, *]
    · rintro ⟨⟩
      simp only [go_sem, Nat.reduceAdd, Nat.reduceSub, Nat.reduceMul, Nat.reduceEqDiff, Nat.reduceBEq, Nat.reduceLT, Nat.reduceLeDiff, Nat.reducePow, Int.reduceToNat, Int.reduceLT, Int.reduceLE, Int.reduceGT, Int.reduceGE, Int.reduceEq, Int.reduceNeg, Int.reduceAdd, Int.reduceSub, Int.reduceMul, ↓reduceIte, reduceCtorEq, *]
      refine (⟨_, _, rfl, ?_⟩ : Q1_p_spylaw3_CleanCombines_l0 a0 a1 _ _)
      all_goals simp only [go_sem, Nat.reduceAdd, Nat.reduceSub, Nat.reduceMul, Nat.reduceEqDiff, Nat.reduceBEq, Nat.reduceLT, Nat.reduceLeDiff, Nat.reducePow, Int.reduceToNat, Int.reduceLT, Int.reduceLE, Int.reduceGT, Int.reduceGE, Int.reduceEq, Int.reduceNeg, Int.reduceAdd, Int.reduceSub, Int.reduceMul, ↓reduceIte, reduceCtorEq, *]
theorem e_spylaw3_CleanCombines (L : Nat) (hL : L ≤ 4611686018427387904) (a0 : List (Int × Int × (List (Int × Int × Bool × Unit)) × Unit)) (a1 : Int) (res : Bool) (h : p_spylaw3_CleanCombines L a0 a1 = some res) : evTop Try.prog (G_spylaw3_CleanCombines L) T_spylaw3_CleanCombines L 1 12 [.sl 82 (a0.map k82.e), .int .i64 a1] = some [.bool res] := by
  revert h
  unfold p_spylaw3_CleanCombines evTop
  simp only [List.map]
  rw [evF_s (fn := Try.f12) (msk := en12.ms) (hT := by rfl) (hb := by rfl)]
  refine rq_i fun c1 => ?_
  refine bnd_i fun o7 ho2 => ?_
  intro h
  simp only [go_sem, Nat.reduceAdd, Nat.reduceSub, Nat.reduceMul, Nat.reduceEqDiff, Nat.reduceBEq, Nat.reduceLT, Nat.reduceLeDiff, Nat.reducePow, Int.reduceToNat, Int.reduceLT, Int.reduceLE, Int.reduceGT, Int.reduceGE, Int.reduceEq, Int.reduceNeg, Int.reduceAdd, Int.reduceSub, Int.reduceMul, ↓reduceIte, reduceCtorEq, *]
  generalize hz4 : iter _ _ _ _ _ = z3
  have hq5 : Q_p_spylaw3_CleanCombines_l0 a0 a1 o7 z3 := by
    rw [← hz4]
    refine l_p_spylaw3_CleanCombines_l0 L hL a0 a1 a0 L 0  _ _ _ c1 (rng_0 c1 hL) ?_ ho2
    all_goals simp only [go_sem, Nat.reduceAdd, Nat.reduceSub, Nat.reduceMul, Nat.reduceEqDiff, Nat.reduceBEq, Nat.reduceLT, Nat.reduceLeDiff, Nat.reducePow, Int.reduceToNat, Int.reduceLT, Int.reduceLE, Int.reduceGT, Int.reduceGE, Int.reduceEq, Int.reduceNeg, Int.reduceAdd, Int.reduceSub, Int.reduceMul, ↓reduceIte, reduceCtorEq, *]
  clear hz4 ho2
  rcases o7 with o7_0 | o7_1
  · obtain ⟨_, st8, rfl, rfl⟩ := hq5
    dsimp only at h
    revert h
    refine bnd_i fun r9 c6 => ?_
    refine bnd_i fun r10 c7 => ?_
    refine bnd_i fun r11 c8 => ?_
    refine cb_i (fun c9 => ?_) (fun c9 => ?_)
    · refine cb_i (fun c10 => ?_) (fun c10 => ?_)
      · refine bnd_i fun r12 c11 => ?_
        rintro ⟨⟩
        simp only [go_sem, Nat.reduceAdd, Nat.reduceSub, Nat.reduceMul, Nat.reduceEqDiff, Nat.reduceBEq, Nat.reduceLT, Nat.reduceLeDiff, Nat.reducePow, Int.reduceToNat, Int.reduceLT, Int.reduceLE, Int.reduceGT, Int.reduceGE, Int.reduceEq, Int.reduceNeg, Int.reduceAdd, Int.reduceSub, Int.reduceMul, ↓reduceIte, reduceCtorEq, *]
      · rintro ⟨⟩
        simp only [go_sem, Nat.reduceAdd, Nat.reduceSub, Nat.reduceMul, Nat.reduceEqDiff, Nat.reduceBEq, Nat.reduceLT, Nat.reduceLeDiff, Nat.reducePow, Int.reduceToNat, Int.reduceLT, Int.reduceLE, Int.reduceGT, Int.reduceGE, Int.reduceEq, Int.reduceNeg, Int.reduceAdd, Int.reduceSub, Int.reduceMul, ↓reduceIte, reduceCtorEq, *]
    · rintro ⟨⟩
      simp only [go_sem, Nat.reduceAdd, Nat.reduceSub, Nat.reduceMul, Nat.reduceEqDiff, Nat.reduceBEq, Nat.reduceLT, Nat.reduceLeDiff, Nat.reducePow, Int.reduceToNat, Int.reduceLT, Int.reduceLE, Int.reduceGT, Int.reduceGE, Int.reduceEq, Int.reduceNeg, Int.reduceAdd, Int.reduceSub, Int.reduceMul, ↓reduceIte, reduceCtorEq, *]
  · obtain ⟨_, st13, rfl, rfl⟩ := hq5
    dsimp only at h
    revert h
    rintro ⟨⟩
    simp only [go_sem, Nat.reduceAdd, Nat.reduceSub, Nat.reduceMul, Nat.reduceEqDiff, Nat.reduceBEq, Nat.reduceLT, Nat.reduceLeDiff, Nat.reducePow, Int.reduceToNat, Int.reduceLT, Int.reduceLE, Int.reduceGT, Int.reduceGE, Int.reduceEq, Int.reduceNeg, Int.reduceAdd, Int.reduceSub, Int.reduceMul, ↓reduceIte, reduceCtorEq, *]
noncomputable def s_spylaw3_CleanCombines (L : Nat) : Ev.Spec := specP (cCons k80 (cCons (cI .i64) cNil)) (fun x => p_spylaw3_CleanCombines L x.1 x.2.1) (fun r => [.bool r])
theorem s_spylaw3_CleanCombines_run (L : Nat) (a0 : List (Int × Int × (List (Int × Int × Bool × Unit)) × Unit)) (a1 : Int) : (s_spylaw3_CleanCombines L).run [.sl 82 (a0.map k82.e), .int .i64 a1] = (p_spylaw3_CleanCombines L a0 a1).map fun r => [.bool r] := specP_run (cCons k80 (cCons (cI .i64) cNil)) (fun x => p_spylaw3_CleanCombines L x.1 x.2.1) (fun r => [.bool r]) (a0, a1, ())
theorem ok_spylaw3_CleanCombines (L : Nat) (hL : L ≤ 4611686018427387904) : SpecOk Try.prog 12 (s_spylaw3_CleanCombines L) := specP_ok mixed (Go_spylaw3_CleanCombines L hL) (To_spylaw3_CleanCombines L) fun x r h => ⟨L, 1, e_spylaw3_CleanCombines L hL x.1 x.2.1 r h⟩
end Go.Proofs.Ytjplkbeolakbjaa.P
end
section
set_option linter.unusedVariables false
set_option linter.unusedSimpArgs false
namespace Go.Proofs.Ytjplkbeolakbjaa.PlClean
open Go.Ev Go.IntKind Go.Pl Go.Proofs.Ytjplkbeolakbjaa.P Go.Proofs.Ytjplkbeolakbjaa.PlBndQuanta Go.Proofs.Ytjplkbeolakbjaa.PlFuseQuanta
abbrev Cells := Int × Int × List Bd × Unit
def cellsF : List Bd → Int
  | [] => 0
  | b :: r => if fault b.1 b.2.1 b.2.2.1 (-1099511627776) 1099511627776 = 0 then cellsF r else fault b.1 b.2.1 b.2.2.1 (-1099511627776) 1099511627776
def fieldF (w h : Int) (l : List Bd) : Int := if w < 1 ∨ w > 32 ∨ h < 1 ∨ h > 32 ∨ ¬ (l.length : Int) = w * h then 3 else cellsF l
theorem ff_l (L : Nat) : ∀ l : List Bd, p_spyref3_FieldFault_l0 L l = some (if cellsF l = 0 then .inl () else .inr (cellsF l))
  | [] => rfl
  | b :: r => by
    have ih := ff_l L r
    rw [p_spyref3_FieldFault_l0, fault_eq, bnd_s, cb_d, ih, cellsF]
    by_cases c : fault b.1 b.2.1 b.2.2.1 (-1099511627776) 1099511627776 = 0
    · rw [if_pos c, if_pos c]
    · rw [if_neg c, if_neg c, if_neg c]
theorem fault_chk (b : Bd) : fault b.1 b.2.1 b.2.2.1 (-1099511627776) 1099511627776 = if chk b.1 b.2.1 b.2.2.1 = 0 then (if b.1 < -1099511627776 ∨ b.2.1 > 1099511627776 then 4 else 0) else chk b.1 b.2.1 b.2.2.1 := by
  unfold fault
  by_cases c : chk b.1 b.2.1 b.2.2.1 = 0
  · rw [if_neg (by simpa using c), if_pos c]
  · rw [if_pos c, if_neg c]
theorem ck_l (L : Nat) : ∀ l : List Bd, p_clean_Check_l0 L l = some (if cellsF l = 0 then .inl () else .inr (cellsF l))
  | [] => rfl
  | b :: r => by
    have ih := ck_l L r
    have h := fault_chk b
    rw [p_clean_Check_l0, check_eq, bnd_s, cb_d, ih, cellsF]
    generalize fault b.1 b.2.1 b.2.2.1 (-1099511627776) 1099511627776 = q at *
    grind
theorem w_mul {w h : Int} (h1 : 1 ≤ w) (h2 : w ≤ 32) (h3 : 1 ≤ h) (h4 : h ≤ 32) : 1 ≤ w * h ∧ w * h ≤ 1024 := by
  have a : w * h ≤ 32 * 32 := Int.mul_le_mul h2 h4 (by omega) (by omega)
  have b : 1 * 1 ≤ w * h := Int.mul_le_mul h1 h3 (by omega) (by omega)
  omega
theorem ff_eq (L : Nat) (w h : Int) (l : List Bd) (hl : l.length < L) : p_spyref3_FieldFault L w h l = some (fieldF w h l) := by
  unfold p_spyref3_FieldFault fieldF
  rw [rq_t hl, ff_l, bnd_s, cb_d]
  by_cases c : 1 ≤ w ∧ w ≤ 32 ∧ 1 ≤ h ∧ h ≤ 32
  · have hm := w_mul c.1 c.2.1 c.2.2.1 c.2.2.2
    rw [w64 (x := w * h) (by omega)]
    generalize w * h = m at *
    grind
  · grind
theorem ck_eq (L : Nat) (w h : Int) (l : List Bd) (hl : l.length < L) : p_clean_Check L w h l = some (fieldF w h l) := by
  unfold p_clean_Check fieldF
  rw [rq_t hl, ck_l, bnd_s, cb_d, min_v, max_v]
  by_cases c : 1 ≤ w ∧ w ≤ 32 ∧ 1 ≤ h ∧ h ≤ 32
  · have hm := w_mul c.1 c.2.1 c.2.2.1 c.2.2.2
    rw [w64 (x := w * h) (by omega)]
    generalize w * h = m at *
    grind
  · grind (splits := 40)
/-! ### all fields -/
def allF : List Cells → Int
  | [] => 0
  | c :: r => if fieldF c.1 c.2.1 c.2.2.1 = 0 then allF r else fieldF c.1 c.2.1 c.2.2.1
def Small (L : Nat) (l : List Cells) : Prop := ∀ c ∈ l, c.2.2.1.length < L
theorem cf_l (L : Nat) : ∀ l : List Cells, Small L l → p_spyref3_Combined_l0 L l = some (if allF l = 0 then .inl () else .inr (allF l))
  | [], _ => rfl
  | c :: r, h => by
    have ih := cf_l L r fun x hx => h x (by simp [hx])
    rw [p_spyref3_Combined_l0, ff_eq L _ _ _ (h c (by simp)), bnd_s, cb_d, ih, allF]
    by_cases q : fieldF c.1 c.2.1 c.2.2.1 = 0
    · rw [if_pos q, if_pos q]
    · rw [if_neg q, if_neg q, if_neg q]
theorem cv_l (L : Nat) : ∀ l : List Cells, Small L l → p_clean_valid_l0 L l = some (if allF l = 0 then .inl () else .inr (allF l))
  | [], _ => rfl
  | c :: r, h => by
    have ih := cv_l L r fun x hx => h x (by simp [hx])
    rw [p_clean_valid_l0, ck_eq L _ _ _ (h c (by simp)), bnd_s, cb_d, ih, allF]
    by_cases q : fieldF c.1 c.2.1 c.2.2.1 = 0
    · rw [if_pos q, if_pos q]
    · rw [if_neg q, if_neg q, if_neg q]
def same (a : Cells) : List Cells → Bool
  | [] => true
  | c :: r => decide (c.1 = a.1) && decide (c.2.1 = a.2.1) && same a r
theorem cs_l (L : Nat) (a : Cells) (q : List Cells) : ∀ l : List Cells, p_spyref3_Combined_l1 L (a :: q) l = some (if same a l = true then .inl () else .inr ())
  | [] => rfl
  | c :: r => by
    have ih := cs_l L a q r
    rw [p_spyref3_Combined_l1, idx_z, bnd_s, cb_d, cb_d, ih, same]
    by_cases h1 : c.1 = a.1 <;> by_cases h2 : c.2.1 = a.2.1 <;> simp [h1, h2]
theorem vs_l (L : Nat) (a : Cells) (q : List Cells) : ∀ l : List Cells, p_clean_valid_l1 L (a :: q) l = some (if same a l = true then .inl () else .inr ())
  | [] => rfl
  | c :: r => by
    have ih := vs_l L a q r
    rw [p_clean_valid_l1, idx_z, bnd_s, cb_d, cb_d, ih, same]
    by_cases h1 : c.1 = a.1 <;> by_cases h2 : c.2.1 = a.2.1 <;> simp [h1, h2]
def sameAll (l : List Cells) : Bool := match l with | [] => true | a :: _ => same a l
def fieldsF (l : List Cells) (f : Int) : Int := if l.length > 8 then 2 else if allF l ≠ 0 then allF l else
  if sameAll l = false then 3 else if f < 0 then 1 else if f > 3 ∨ (l.length : Int) < 2 * f + 1 then 14 else 0
theorem valid_eq (L : Nat) (l : List Cells) (f : Int) (h8 : 8 < L) (hs : Small L l) : p_clean_valid L l f = some (fieldsF l f) := by
  unfold p_clean_valid fieldsF
  have h3 : p_clean_valid_l1 L l l = some (if sameAll l = true then .inl () else .inr ()) := by
    cases l with
    | nil => rfl
    | cons a q => exact vs_l L a q _
  by_cases c1 : (l.length : Int) > 8
  · grind
  rw [rq_t (show l.length < L by omega), cv_l L l hs, bnd_s]
  simp only [h3, bnd_s]
  by_cases c : 0 ≤ f ∧ f < 8
  · rw [w64 (x := 2 * f) (by omega), w64 (x := 2 * f + 1) (by omega)]
    grind
  · grind
/-! ### the cells -/
def col (i : Nat) (l : List Cells) : List Bd := l.map fun c => c.2.2.1.getD i (0, 0, false, ())
def Wide (n : Nat) (l : List Cells) : Prop := ∀ c ∈ l, c.2.2.1.length = n
theorem col1 (L : Nat) (n i : Nat) (hi : i < n) : ∀ (l : List Cells) (s : List Bd), Wide n l → (s.length + l.length) * 24 ≤ 140737488355328 → p_clean_Combine_l1 L (i : Int) l s = some (s ++ col i l)
  | [], s, _, _ => by rw [p_clean_Combine_l1]; simp [col]
  | c :: r, s, hw, h => by
    rw [List.length_cons] at h
    have hc := hw c (by simp)
    rw [p_clean_Combine_l1, idx_at (by omega), bnd_s, rq_t (by rw [maxRow_v]; omega), rq_t (by rw [maxRow_v]; omega), col1 L n i hi r _ (fun x hx => hw x (by simp [hx])) (by simp; omega)]
    simp [col, hc, hi]
theorem col2 (L : Nat) (n i : Nat) (hi : i < n) (a : List Cells) : ∀ (l p : List Cells) (s : List Bd), a = p ++ l → Wide n l → (s.length + l.length) * 24 ≤ 140737488355328 → p_spyref3_Combined_l3 L (i : Int) a l.length (p.length : Int) s = some (s ++ col i l)
  | [], p, s, _, _, _ => by rw [List.length_nil, p_spyref3_Combined_l3]; simp [col]
  | c :: r, p, s, ha, hw, h => by
    rw [List.length_cons] at h
    have hc := hw c (by simp)
    have := col2 L n i hi a r (p ++ [c]) (s ++ [c.2.2.1[i]'(by omega)]) (by simp [ha]) (fun x hx => hw x (by simp [hx])) (by simp; omega)
    rw [List.length_cons, p_spyref3_Combined_l3, ha, idx_app, bnd_s, idx_at (by omega), bnd_s, rq_t (by rw [maxRow_v]; omega), rq_t (by rw [maxRow_v]; omega), ← ha]
    rw [show ((p.length : Int) + 1) = ((p ++ [c]).length : Int) by simp, this]
    simp [col, hc, hi]
def cells (l : List Cells) (f : Int) : Nat → Nat → List Bd
  | _, 0 => []
  | i, k + 1 => ((fuse (col i l) f).1, (fuse (col i l) f).2.1, (fuse (col i l) f).2.2, ()) :: cells l f (i + 1) k
theorem cells_len (l : List Cells) (f : Int) : ∀ k i, (cells l f i k).length = k
  | 0, i => rfl
  | k + 1, i => by rw [cells, List.length_cons, cells_len l f k]
theorem cmb1 (L : Nat) (hL : L ≤ 4611686018427387904) (n : Nat) (l : List Cells) (hw : Wide n l) (h8 : l.length ≤ 8) (h16 : 16 < L) (f : Int) (hf : f < 9223372036854775808) : ∀ (k i : Nat) (s : List Bd), i + k = n → (s.length + k) * 24 ≤ 140737488355328 → p_clean_Combine_l0 L l f k (i : Int) s = some (s ++ cells l f i k)
  | 0, i, s, _, _ => by rw [p_clean_Combine_l0]; simp [cells]
  | k + 1, i, s, hk, h => by
    have := cmb1 L hL n l hw h8 h16 f hf k (i + 1) (s ++ [((fuse (col i l) f).1, (fuse (col i l) f).2.1, (fuse (col i l) f).2.2, ())]) (by omega) (by simp; omega)
    rw [p_clean_Combine_l0, rq_t (by omega), col1 L n i (by omega) l [] hw (by simp; omega), bnd_s, List.nil_append, fuse_eq L _ f hf (by simp [col]; omega) (by simp [col]; omega) hL, bnd_s, rq_t (by rw [maxRow_v]; omega), rq_t (by rw [maxRow_v]; omega)]
    rw [show ((i : Int) + 1) = ((i + 1 : Nat) : Int) by simp, this, cells]
    simp
theorem cmb2 (L : Nat) (hL : L ≤ 4611686018427387904) (n : Nat) (l : List Cells) (hw : Wide n l) (h8 : l.length ≤ 8) (h16 : 16 < L) (f : Int) : ∀ (k i : Nat) (s : List Bd), i + k = n → (s.length + k) * 24 ≤ 140737488355328 → p_spyref3_Combined_l2 L (l.length : Int) f l k (i : Int) s = some (s ++ cells l f i k)
  | 0, i, s, _, _ => by rw [p_spyref3_Combined_l2]; simp [cells]
  | k + 1, i, s, hk, h => by
    have := cmb2 L hL n l hw h8 h16 f k (i + 1) (s ++ [((fuse (col i l) f).1, (fuse (col i l) f).2.1, (fuse (col i l) f).2.2, ())]) (by omega) (by simp; omega)
    have hc := col2 L n i (by omega) l l [] [] rfl hw (by simp; omega)
    simp only [List.length_nil, Int.natCast_zero, List.nil_append] at hc
    rw [p_spyref3_Combined_l2, Int.toNat_natCast, rq_t (by omega), rq_t (by omega), hc, bnd_s, fused_eq L _ f (by omega) (by simp [col]; omega) (by simp [col]; omega) hL, bnd_s, rq_t (by rw [maxRow_v]; omega), rq_t (by rw [maxRow_v]; omega)]
    rw [show ((i : Int) + 1) = ((i + 1 : Nat) : Int) by simp, this, cells]
    simp
theorem allF_0 : ∀ {l : List Cells}, allF l = 0 → ∀ c ∈ l, fieldF c.1 c.2.1 c.2.2.1 = 0
  | c :: r, h, x, hx => by
    rw [allF] at h
    by_cases q : fieldF c.1 c.2.1 c.2.2.1 = 0
    · rw [if_pos q] at h
      rcases List.mem_cons.1 hx with rfl | hx
      · exact q
      · exact allF_0 h x hx
    · rw [if_neg q] at h; exact absurd h q
theorem same_0 {a : Cells} : ∀ {l : List Cells}, same a l = true → ∀ c ∈ l, c.1 = a.1 ∧ c.2.1 = a.2.1
  | c :: r, h, x, hx => by
    rw [same, Bool.and_eq_true, Bool.and_eq_true, decide_eq_true_iff, decide_eq_true_iff] at h
    rcases List.mem_cons.1 hx with rfl | hx
    · exact h.1
    · exact same_0 h.2 x hx
theorem wide_of {a : Cells} {l : List Cells} (h1 : allF l = 0) (h2 : same a l = true) (ha : a ∈ l) : Wide a.2.2.1.length l := by
  intro c hc
  have g : ∀ x ∈ l, (x.2.2.1.length : Int) = x.1 * x.2.1 := by
    intro x hx
    have := allF_0 h1 x hx
    unfold fieldF at this
    split at this
    · cases this
    · omega
  have e1 := g c hc
  have e2 := g a ha
  obtain ⟨s1, s2⟩ := same_0 h2 c hc
  rw [s1, s2] at e1
  omega
theorem field_len {w h : Int} {l : List Bd} (hf : fieldF w h l = 0) : l.length ≤ 1024 := by
  unfold fieldF at hf
  split at hf
  · cases hf
  · rename_i hc
    have := w_mul (w := w) (h := h) (by omega) (by omega) (by omega) (by omega)
    omega
def comb (l : List Cells) (f : Int) : Int × Int × List Bd × Int := match l with
  | [] => (0, 0, [], fieldsF l f)
  | a :: _ => if fieldsF l f = 0 then (a.1, a.2.1, cells l f 0 a.2.2.1.length, 0) else (0, 0, [], fieldsF l f)
theorem fields_nil (f : Int) : fieldsF [] f ≠ 0 := by
  unfold fieldsF
  simp only [List.length_nil, allF, sameAll]
  grind
theorem fields_0 {a : Cells} {q : List Cells} {f : Int} (h : fieldsF (a :: q) f = 0) : (a :: q).length ≤ 8 ∧ allF (a :: q) = 0 ∧ same a (a :: q) = true ∧ 0 ≤ f ∧ f ≤ 3 := by
  unfold fieldsF at h
  simp only [sameAll] at h
  grind
theorem combine_eq (L : Nat) (hL : L ≤ 4611686018427387904) (h16 : 1024 < L) (l : List Cells) (f : Int) (hs : Small L l) : p_clean_Combine L l f = some (comb l f) := by
  unfold p_clean_Combine comb
  rw [valid_eq L l f (by omega) hs, bnd_s, cb_d]
  cases l with
  | nil => rw [if_neg (fields_nil f)]
  | cons a q =>
    by_cases c : fieldsF (a :: q) f = 0
    · obtain ⟨c1, c2, c3, c4, c5⟩ := fields_0 c
      have hw := wide_of c2 c3 (by simp)
      have hn := field_len (allF_0 c2 a (by simp))
      have := cmb1 L hL _ (a :: q) hw c1 (by omega) f (by omega) a.2.2.1.length 0 [] (by omega) (by simp; omega)
      simp only [Int.natCast_zero, List.nil_append] at this
      rw [if_pos c, idx_z, bnd_s, rq_t (by omega), rq_t (by omega), Int.toNat_natCast, this, bnd_s]
      simp only [if_pos c]
    · rw [if_neg c]
      simp only [if_neg c]
theorem combined_eq (L : Nat) (hL : L ≤ 4611686018427387904) (h16 : 1024 < L) (l : List Cells) (f : Int) (hs : Small L l) : p_spyref3_Combined L l f = some (comb l f) := by
  have hv : p_spyref3_Combined L l f = if fieldsF l f = 0 then (bnd (idx l 0) fun x13 => rq ((x13.2.2.1.length : Int).toNat < L) <| rq ((x13.2.2.1.length : Int) < 4611686018427387904) <| bnd (p_spyref3_Combined_l2 L (l.length : Int) f l (x13.2.2.1.length : Int).toNat 0 ([])) fun o69 => some (x13.1, x13.2.1, o69, 0)) else some (0, 0, [], fieldsF l f) := by
    unfold p_spyref3_Combined fieldsF
    have h3 : p_spyref3_Combined_l1 L l l = some (if sameAll l = true then .inl () else .inr ()) := by
      cases l with
      | nil => rfl
      | cons a q => exact cs_l L a q _
    by_cases c1 : (l.length : Int) > 8
    · grind
    rw [rq_t (show l.length < L by omega), cf_l L l hs, bnd_s]
    simp only [h3, bnd_s]
    by_cases c : 0 ≤ f ∧ f < 8
    · rw [w64 (x := 2 * f) (by omega), w64 (x := 2 * f + 1) (by omega)]
      grind
    · grind
  rw [hv]
  unfold comb
  cases l with
  | nil => rw [if_neg (fields_nil f)]
  | cons a q =>
    by_cases c : fieldsF (a :: q) f = 0
    · obtain ⟨c1, c2, c3, c4, c5⟩ := fields_0 c
      have hw := wide_of c2 c3 (by simp)
      have hn := field_len (allF_0 c2 a (by simp))
      have := cmb2 L hL _ (a :: q) hw c1 (by omega) f a.2.2.1.length 0 [] (by omega) (by simp; omega)
      simp only [Int.natCast_zero, List.nil_append] at this
      rw [if_pos c, idx_z, bnd_s, rq_t (by omega), rq_t (by omega), Int.toNat_natCast, this, bnd_s]
      simp only [if_pos c]
    · rw [if_neg c]
      simp only [if_neg c]
/-! ### the same cells -/
theorem eq_l (L : Nat) (a : List Bd) : ∀ (s p : List Bd), a = p ++ s → p_slices_Equal_Quanta__l0 L a a s.length (p.length : Int) = some (.inl ())
  | [], p, _ => rfl
  | x :: s, p, h => by
    have := eq_l L a s (p ++ [x]) (by simp [h])
    rw [List.length_cons, p_slices_Equal_Quanta__l0, h, idx_app, bnd_s, bnd_s, ← h, show ((p.length : Int) + 1) = ((p ++ [x]).length : Int) by simp, this]
    simp [cb]
theorem same_eq (L : Nat) (w h : Int) (l : List Bd) (hl : l.length < L) (hb : l.length < 4611686018427387904) : p_spyref3_SameCells L w h l w h l = some true := by
  have := eq_l L l l [] rfl
  simp only [List.length_nil, Int.natCast_zero] at this
  unfold p_spyref3_SameCells p_slices_Equal_Quanta_
  simp only [decide_true, cb_t, Int.toNat_natCast]
  rw [rq_t hl, rq_t (by omega), this]; rfl
theorem comb_len (l : List Cells) (f : Int) : (comb l f).2.2.1.length ≤ 1024 := by
  unfold comb
  cases l with
  | nil => simp
  | cons a q =>
    by_cases c : fieldsF (a :: q) f = 0
    · simp only [if_pos c, cells_len]
      exact field_len (allF_0 (fields_0 c).2.1 a (by simp))
    · simp only [if_neg c]; simp
/-! ### cleans -/
theorem cl1 (L : Nat) (n i : Nat) (hi : i < n) : ∀ (l : List Cells) (s : List Bd), p_spylaw3_cleans_l1 L (i : Int) l s = p_clean_Combine_l1 L (i : Int) l s
  | [], s => rfl
  | c :: r, s => by rw [p_spylaw3_cleans_l1, p_clean_Combine_l1]; simp only [cl1 L n i hi r]
theorem cleans_eq (L : Nat) (hL : L ≤ 4611686018427387904) (h16 : 1024 < L) : p_spylaw3_cleans L = some true := by
  unfold p_spylaw3_cleans p_spylaw3_cleans_1
  simp only [bnd_s, List.length_cons, List.length_nil]
  rw [valid_eq L _ _ (by omega) (by intro c hc; simp at hc; rcases hc with rfl | rfl | rfl <;> simp <;> omega), bnd_s, cb_d, if_pos (by decide), rq_t (by simp; omega), rq_t (by decide)]
  rw [show (((0 + 1 : Nat) : Int)).toNat = 0 + 1 from rfl, p_spylaw3_cleans_l0, rq_t (by simp; omega)]
  have h1 := cl1 L 1 0 (by omega) [((1 : Int), (1 : Int), [((1 : Int), (3 : Int), false, ())], ()), (1, 1, [(2, 5, false, ())], ()), (1, 1, [(9, 9, false, ())], ())] []
  have h2 := col1 L 1 0 (by omega) [((1 : Int), (1 : Int), [((1 : Int), (3 : Int), false, ())], ()), (1, 1, [(2, 5, false, ())], ()), (1, 1, [(9, 9, false, ())], ())] [] (by intro c hc; simp at hc; rcases hc with rfl | rfl | rfl <;> rfl) (by decide)
  rw [Int.natCast_zero] at h1 h2
  rw [h1, h2, bnd_s, fuse_eq L _ 1 (by decide) (by simp [col]; omega) (by simp [col]) hL, bnd_s, rq_t (by rw [maxRow_v]; simp), rq_t (by rw [maxRow_v]; simp), p_spylaw3_cleans_l0, bnd_s]
  decide
end Go.Proofs.Ytjplkbeolakbjaa.PlClean
end
section
set_option linter.unusedVariables false
set_option linter.unusedSimpArgs false
namespace Go.Proofs.Ytjplkbeolakbjaa.PlCleanCombines
open Go Go.Ev Go.IntKind Go.Pl Go.Proofs.Ytjplkbeolakbjaa.P Go.Proofs.Ytjplkbeolakbjaa.PlBndQuanta Go.Proofs.Ytjplkbeolakbjaa.PlFuseQuanta Go.Proofs.Ytjplkbeolakbjaa.PlClean
theorem law_l (L : Nat) : ∀ l : List Cells, Small L l → p_spylaw3_CleanCombines_l0 L l = some (.inl ())
  | [], _ => rfl
  | c :: r, h => by
    rw [p_spylaw3_CleanCombines_l0, ck_eq L _ _ _ (h c (by simp)), bnd_s, ff_eq L _ _ _ (h c (by simp)), bnd_s, decide_eq_true rfl, cb_t]
    exact law_l L r fun x hx => h x (by simp [hx])
theorem top (a0 : List (Int × Int × List (Int × Int × Bool × Unit) × Unit)) (a1 : Int) (h0 : a0.length * 40 ≤ 140737488351232 ∧ ∀ y ∈ a0, ((Lit.int .i64 y.1).wf = true) ∧ ((Lit.int .i64 y.2.1).wf = true) ∧ (y.2.2.1.length * 24 ≤ 140737488351232 ∧ ∀ zy221 ∈ y.2.2.1, ((Lit.int .i64 zy221.1).wf = true) ∧ ((Lit.int .i64 zy221.2.1).wf = true) ∧ (True) ∧ True) ∧ True) (h1 : (Lit.int .i64 a1).wf = true) : ∃ L, L ≤ 4611686018427387904 ∧ p_spylaw3_CleanCombines L a0 a1 = some true := by
  obtain ⟨L, hL⟩ : ∃ L, L = 4611686018427387904 := ⟨_, rfl⟩
  refine ⟨L, by omega, ?_⟩
  have hs : Small L a0 := fun c hc => by have := (h0.2 c hc).2.2.1.1; omega
  have hl := comb_len a0 a1
  unfold p_spylaw3_CleanCombines
  rw [rq_t (by omega), law_l L a0 hs, bnd_s]
  simp only
  rw [combine_eq L (by omega) (by omega) a0 a1 hs, bnd_s, combined_eq L (by omega) (by omega) a0 a1 hs, bnd_s, cleans_eq L (by omega) (by omega), bnd_s, cb_t, decide_eq_true rfl, cb_t, same_eq L _ _ _ (by omega) (by omega), bnd_s]
end Go.Proofs.Ytjplkbeolakbjaa.PlCleanCombines
end
section
set_option linter.unusedVariables false
set_option linter.unusedSimpArgs false
namespace Go.Proofs.Ytjplkbeolakbjaa.cleanCombines
open Go.ChangeShapes Go.WideShapes Go.ChangeAt Go.RowKit
open Go.ChangeMaps (open_string shut_string)
open Go.Ev (Opens OpensF arg_agg arg_one weight_at law_calls call_of_ev ArgsOk D Fl)
theorem own : ownKnob Try.prog.godebug = none := by kernel_rfl
theorem laidOut : laidOutB Try.prog = true := by kernel_rfl
set_option maxRecDepth 100000 in
set_option maxHeartbeats 4000000 in
theorem lifted (os : Os) (started : os.Started) (H : Type) (enc : TypeId × Value → H) :
    ReturnsInHanded {} Try.checked os 12 .any (Rows.cleanCombinesSpec.pre6 enc Try.prog Try.f12 Rows.cleanCombinesRow.domain false) (Rows.cleanCombinesSpec.post enc Try.prog Try.f12 false true false false) := by
  refine returnsInHanded_of_change_sized (C := Try.checked) own started (by kernel_rfl) Try.func12
    (ChangeSpec.witness6 (enc := enc) (C := Try.checked) false ⟨#[], #[.slice none 0 0, .int .i64 0], []⟩ 8 (by kernel_rfl) (by kernel_rfl) (by kernel_rfl) (by kernel_rfl)) ?_
  intro W base args ds gs before hval0 hW hcnd hsz0 _
  have hsz : (DataW.weightsEach Try.prog (Try.f12.params.toList ++ Rows.cleanCombinesSpec.plain.varTypes Try.prog) (ds ++ gs)).all (· ≤ reachBytes) = true := hsz0
  have hval : ∀ (j : Nat) t v, Try.f12.params[j]? = some t → args[j]? = some v → Value.okWide Try.prog W .any base t v := hval0
  have hW' := hW
  obtain ⟨p, q, hA0, hV, rfl, hfz, hnd⟩ := hW
  have hA : DataW.TrodAll enc Try.prog W 0 (fun _ => true) true Try.f12.params.toList args.toList ds p := hA0
  rw [Try.params12] at hA hval hsz
  obtain ⟨v0, vs0, d0, ds0, p0, q0, hargs, rfl, rfl, h0, r0⟩ := trodAll_cons hA
  obtain ⟨v1, vs1, d1, ds1, p1, q1, rfl, rfl, rfl, h1, r1⟩ := trodAll_cons r0
  obtain ⟨rfl, rfl, rfl⟩ := trodAll_nil r1
  obtain rfl : args = #[v0, v1] := by cases args; simp_all
  obtain ⟨rfl, rfl⟩ := trodVars_none hV
  obtain ⟨A0, len0, c0, rfl⟩ := okWide_slice Try.underlying80 (hval 0 80 v0 rfl rfl)
  have k0_ := h0
  have lt0 : ∀ x ∈ p0, x.block < W.heap.size := by obtain ⟨m, hm⟩ := k0_; exact DataW.trod_lt m _ _ _ hm
  obtain ⟨fuel0, hf0⟩ := h0
  obtain ⟨a0, hK0, hw0⟩ := (Opens.slice (B := 40) Try.underlying80 (of_decide_eq_true (by kernel_rfl)) (by kernel_rfl) (Opens.struct Try.underlying82 (by kernel_rfl) (OpensF.cons rfl (Opens.int Try.underlying3) (OpensF.cons rfl (Opens.int Try.underlying3) (OpensF.cons rfl (Opens.slice (B := 24) Try.underlying35 (of_decide_eq_true (by kernel_rfl)) (by kernel_rfl) (Opens.struct Try.underlying43 (by kernel_rfl) (OpensF.cons rfl (Opens.int Try.underlying27) (OpensF.cons rfl (Opens.int Try.underlying27) (OpensF.cons rfl (Opens.bool Try.underlying4) OpensF.nil))))) OpensF.nil))))) enc W fuel0 _ _ hf0 (weight_at hsz (j := 0) rfl rfl)
  obtain ⟨a1, rfl, rfl, rfl, hw1⟩ := open_int Try.underlying3 (hval 1 3 v1 rfl rfl) h1
  clear hA0 hval0 hsz0 hsz
  obtain ⟨L, hL, hp⟩ := PlCleanCombines.top a0 a1 hw0 hw1
  have ht := P.e_spylaw3_CleanCombines L hL a0 a1 true hp
  have hok : ArgsOk Try.prog (Go.Ev.Old W) W [D.sl 82 (a0.map (fun ya0 : Int × Int × List (Int × Int × Bool × Unit) × Unit => D.agg 82 [.int .i64 ya0.1, .int .i64 ya0.2.1, D.sl 43 (ya0.2.2.1.map (fun yza0221 : Int × Int × Bool × Unit => D.agg 43 [.int .i64 yza0221.1, .int .i64 yza0221.2.1, .bool yza0221.2.2.1]))])), .int .i64 a1] [(.slice A0 len0 c0 : Value), (.int .i64 a1 : Value)] := fun σ st => ⟨_, _, rfl, arg_one rfl hK0, ⟨_, _, rfl, arg_one rfl rfl, rfl⟩⟩
  refine (law_calls Try.func12 (by kernel_rfl) (by kernel_rfl) (call_of_ev Ty.mixed (P.Go_spylaw3_CleanCombines L hL) (P.To_spylaw3_CleanCombines L) ht (fun _ h => h) hok)).mono fun e W' ⟨he, bel⟩ => ?_
  subst he
  exact ⟨_, rfl, _, _, _, [], _, [], hW', trodAll_mk1 (shut_bool Try.underlying4 _), (trodAll_cons_mk (Below.trod laidOut (by kernel_rfl) (of_decide_eq_true (by kernel_rfl)) k0_ bel lt0) (trodAll_cons_mk (shut_int Try.underlying3 hw1) trodAll_mk0)), rfl, bel.frame _, fun h => by cases h⟩
theorem over : Rows.cleanCombinesRow.holds Try.pinned (OpenSpec.ofChange Rows.cleanCombinesSpec) :=
  OpenClaim.holds_of_wide 12 Try.f12 rfl rfl rfl rfl rfl rfl rfl ⟨rfl, rfl, rfl, rfl, rfl⟩ rfl rfl rfl rfl rfl (by kernel_rfl) Try.func12 (by kernel_rfl)
    (of_decide_eq_true (by kernel_rfl)) (by unfold Func.isWrapper; first | (rw [if_pos (by decide +kernel)]; kernel_rfl) | (rw [if_neg (by decide +kernel)]; exact ⟨rfl, rfl⟩))
    (fun os started H enc _ => lifted os started H enc)
theorem proved : Rows.CleanCombinesSaid := over
#print axioms proved
end Go.Proofs.Ytjplkbeolakbjaa.cleanCombines
namespace Go.Proofs.Ytjplkbeolakbjaa
/-- The row, under a short name, for the claim. -/
theorem cleanCombines_holds : Rows.CleanCombinesSaid := cleanCombines.proved
end Go.Proofs.Ytjplkbeolakbjaa
end
