/- Parts of one proof, joined: Ty, E99, E121, E123, E130, E62, G62, E65, E79, E96, G96, G79, G65, E120, G120, E122, E131, G131, G122, E124, G124, E125, G125. -/
import Derived.Test.YtjplkbeolakbjaaMCleanCombines5
import Derived.Test.YtjplkbeolakbjaaProg
section
set_option linter.unusedVariables false
set_option linter.unusedSimpArgs false
set_option maxRecDepth 100000
namespace Go.Proofs.Ytjplkbeolakbjaa.Ty
open Go.Ev
theorem tk3 : tk Try.prog 3 = .one := by kernel_rfl
theorem ik3 : intK Try.prog 3 = some .i64 := by kernel_rfl
theorem ek3 : ek Try.prog 3 = .int := by kernel_rfl
theorem zv3 : zeroV Try.prog 3 = some (.d (.int .i64 0)) := by kernel_rfl
theorem by3 : Try.prog.bytesOf 3 = 8 := by kernel_rfl
theorem so3 : szOf Try.prog 3 = 1 := by kernel_rfl
theorem tk4 : tk Try.prog 4 = .one := by kernel_rfl
theorem ub4 : Try.prog.underlying 4 = some .bool := by kernel_rfl
theorem ek4 : ek Try.prog 4 = .bool := by kernel_rfl
theorem zv4 : zeroV Try.prog 4 = some (.d (.bool false)) := by kernel_rfl
theorem by4 : Try.prog.bytesOf 4 = 1 := by kernel_rfl
theorem so4 : szOf Try.prog 4 = 1 := by kernel_rfl
theorem tk20 : tk Try.prog 20 = .one := by kernel_rfl
theorem by20 : Try.prog.bytesOf 20 = 16 := by kernel_rfl
theorem so20 : szOf Try.prog 20 = 1 := by kernel_rfl
theorem tk27 : tk Try.prog 27 = .one := by kernel_rfl
theorem ik27 : intK Try.prog 27 = some .i64 := by kernel_rfl
theorem ek27 : ek Try.prog 27 = .int := by kernel_rfl
theorem zv27 : zeroV Try.prog 27 = some (.d (.int .i64 0)) := by kernel_rfl
theorem by27 : Try.prog.bytesOf 27 = 8 := by kernel_rfl
theorem so27 : szOf Try.prog 27 = 1 := by kernel_rfl
theorem tk32 : tk Try.prog 32 = .sl 3 := by kernel_rfl
theorem zv32 : zeroV Try.prog 32 = some (.nils 3) := by kernel_rfl
theorem by32 : Try.prog.bytesOf 32 = 24 := by kernel_rfl
theorem so32 : szOf Try.prog 32 = 1 := by kernel_rfl
theorem tk35 : tk Try.prog 35 = .sl 43 := by kernel_rfl
theorem zv35 : zeroV Try.prog 35 = some (.nils 43) := by kernel_rfl
theorem by35 : Try.prog.bytesOf 35 = 24 := by kernel_rfl
theorem so35 : szOf Try.prog 35 = 1 := by kernel_rfl
theorem tk36 : tk Try.prog 36 = .one := by kernel_rfl
theorem ik36 : intK Try.prog 36 = some .i64 := by kernel_rfl
theorem ek36 : ek Try.prog 36 = .int := by kernel_rfl
theorem zv36 : zeroV Try.prog 36 = some (.d (.int .i64 0)) := by kernel_rfl
theorem by36 : Try.prog.bytesOf 36 = 8 := by kernel_rfl
theorem so36 : szOf Try.prog 36 = 1 := by kernel_rfl
theorem tk43 : tk Try.prog 43 = .agg 3 false := by kernel_rfl
theorem ct43 : compTs Try.prog 43 = [27, 27, 4] := by kernel_rfl
theorem ek43 : ek Try.prog 43 = .agg := by kernel_rfl
theorem zv43 : zeroV Try.prog 43 = some (.d (.agg 43 [.int .i64 0, .int .i64 0, .bool false])) := by kernel_rfl
theorem by43 : Try.prog.bytesOf 43 = 24 := by kernel_rfl
theorem so43 : szOf Try.prog 43 = 3 := by kernel_rfl
theorem tk67 : tk Try.prog 67 = .one := by kernel_rfl
theorem zv67 : zeroV Try.prog 67 = some (.jk) := by kernel_rfl
theorem by67 : Try.prog.bytesOf 67 = 8 := by kernel_rfl
theorem so67 : szOf Try.prog 67 = 1 := by kernel_rfl
theorem tk73 : tk Try.prog 73 = .sl 27 := by kernel_rfl
theorem zv73 : zeroV Try.prog 73 = some (.nils 27) := by kernel_rfl
theorem by73 : Try.prog.bytesOf 73 = 24 := by kernel_rfl
theorem so73 : szOf Try.prog 73 = 1 := by kernel_rfl
theorem tk80 : tk Try.prog 80 = .sl 82 := by kernel_rfl
theorem zv80 : zeroV Try.prog 80 = some (.nils 82) := by kernel_rfl
theorem by80 : Try.prog.bytesOf 80 = 24 := by kernel_rfl
theorem so80 : szOf Try.prog 80 = 1 := by kernel_rfl
theorem tk82 : tk Try.prog 82 = .agg 3 false := by kernel_rfl
theorem ct82 : compTs Try.prog 82 = [3, 3, 35] := by kernel_rfl
theorem zv82 : zeroV Try.prog 82 = some (.agg 82 [.d (.int .i64 0), .d (.int .i64 0), .nils 43]) := by kernel_rfl
theorem by82 : Try.prog.bytesOf 82 = 40 := by kernel_rfl
theorem so82 : szOf Try.prog 82 = 3 := by kernel_rfl
theorem tk92 : tk Try.prog 92 = .sl 32 := by kernel_rfl
theorem zv92 : zeroV Try.prog 92 = some (.nils 32) := by kernel_rfl
theorem by92 : Try.prog.bytesOf 92 = 24 := by kernel_rfl
theorem so92 : szOf Try.prog 92 = 1 := by kernel_rfl
theorem tk130 : tk Try.prog 130 = .one := by kernel_rfl
theorem zv130 : zeroV Try.prog 130 = some (.jk) := by kernel_rfl
theorem by130 : Try.prog.bytesOf 130 = 8 := by kernel_rfl
theorem so130 : szOf Try.prog 130 = 1 := by kernel_rfl
theorem tk131 : tk Try.prog 131 = .one := by kernel_rfl
theorem zv131 : zeroV Try.prog 131 = some (.jk) := by kernel_rfl
theorem by131 : Try.prog.bytesOf 131 = 8 := by kernel_rfl
theorem so131 : szOf Try.prog 131 = 1 := by kernel_rfl
theorem tk155 : tk Try.prog 155 = .one := by kernel_rfl
theorem zv155 : zeroV Try.prog 155 = some (.jk) := by kernel_rfl
theorem by155 : Try.prog.bytesOf 155 = 8 := by kernel_rfl
theorem so155 : szOf Try.prog 155 = 1 := by kernel_rfl
theorem tk164 : tk Try.prog 164 = .agg 2 true := by kernel_rfl
theorem ct164 : compTs Try.prog 164 = [27, 27] := by kernel_rfl
theorem zv164 : zeroV Try.prog 164 = some (.d (.agg 164 [.int .i64 0, .int .i64 0])) := by kernel_rfl
theorem by164 : Try.prog.bytesOf 164 = 16 := by kernel_rfl
theorem so164 : szOf Try.prog 164 = 2 := by kernel_rfl
def k73 : Cod (List Int) := cL 27 (cI .i64)
theorem k73_e (y : List Int) : k73.e y = .sl 27 (y.map (D.int .i64)) := nr rfl
def k32 : Cod (List Int) := cL 3 (cI .i64)
theorem k32_e (y : List Int) : k32.e y = .sl 3 (y.map (D.int .i64)) := nr rfl
def k164 : Cod (Int × Int × Unit) := cA 164 (cCons (cI .i64) (cCons (cI .i64) cNil))
theorem k164_e (y : Int × Int × Unit) : k164.e y = .agg 164 [.int .i64 y.1, .int .i64 y.2.1] := nr rfl
def k43 : Cod (Int × Int × Bool × Unit) := cA 43 (cCons (cI .i64) (cCons (cI .i64) (cCons cB cNil)))
theorem k43_e (y : Int × Int × Bool × Unit) : k43.e y = .agg 43 [.int .i64 y.1, .int .i64 y.2.1, .bool y.2.2.1] := nr rfl
def k92 : Cod (List (List Int)) := cL 32 k32
theorem k92_e (y : List (List Int)) : k92.e y = .sl 32 (y.map k32.e) := nr rfl
def k35 : Cod (List (Int × Int × Bool × Unit)) := cL 43 k43
theorem k35_e (y : List (Int × Int × Bool × Unit)) : k35.e y = .sl 43 (y.map k43.e) := nr rfl
def k82 : Cod (Int × Int × (List (Int × Int × Bool × Unit)) × Unit) := cA 82 (cCons (cI .i64) (cCons (cI .i64) (cCons k35 cNil)))
theorem k82_e (y : Int × Int × (List (Int × Int × Bool × Unit)) × Unit) : k82.e y = .agg 82 [.int .i64 y.1, .int .i64 y.2.1, .sl 43 (y.2.2.1.map k43.e)] := nr rfl
def k80 : Cod (List (Int × Int × (List (Int × Int × Bool × Unit)) × Unit)) := cL 82 k82
theorem k80_e (y : List (Int × Int × (List (Int × Int × Bool × Unit)) × Unit)) : k80.e y = .sl 82 (y.map k82.e) := nr rfl
theorem mixed : Try.prog.follows .mixedOrders = true := by kernel_rfl
end Go.Proofs.Ytjplkbeolakbjaa.Ty
end
section
set_option linter.unusedVariables false
set_option linter.unusedSimpArgs false
set_option maxRecDepth 100000
namespace Go.Proofs.Ytjplkbeolakbjaa.E
open Go.Ev
noncomputable def en99 : Entry := ⟨Try.f99, [(0, mb 53 0 [1, 2, 4, 5, 10, 11, 12]), (1000001, mb 53 0 [1, 2, 4, 5]), (1000002, mb 53 0 [1, 2, 4, 5, 10, 11, 12]), (1000000, mb 53 0 [4])]⟩
theorem mk99_0 (vs : List V) : mask (maskOf en99.ms 0) vs = km 53 0 [1, 2, 4, 5, 10, 11, 12] vs := mask_mb _ _ _ _
theorem mk99_1000001 (vs : List V) : mask (maskOf en99.ms 1000001) vs = km 53 0 [1, 2, 4, 5] vs := mask_mb _ _ _ _
theorem mk99_1000002 (vs : List V) : mask (maskOf en99.ms 1000002) vs = km 53 0 [1, 2, 4, 5, 10, 11, 12] vs := mask_mb _ _ _ _
theorem mk99_1000000 (vs : List V) : mask (maskOf en99.ms 1000000) vs = km 53 0 [4] vs := mask_mb _ _ _ _
noncomputable def lb99_0 : Code := loopN Try.f99 0
end Go.Proofs.Ytjplkbeolakbjaa.E
end
section
set_option linter.unusedVariables false
set_option linter.unusedSimpArgs false
set_option maxRecDepth 100000
namespace Go.Proofs.Ytjplkbeolakbjaa.E
open Go.Ev
noncomputable def en121 : Entry := ⟨Try.f121, [(1000000, mb 10 0 [4])]⟩
theorem dw121_1 (lv : Nat) (env : List V) (st : Store) (o : Option (List V × Store)) : drawR en121.ms 1 lv env st o = if lv < 1000000000000000000000000000000 then (o) else none := nr rfl
theorem kl121_1 (lv : Nat) (st : Store) : killR en121.ms 1 lv st = st := nr rfl
theorem nc121_1 : ncOf en121.ms 1 = false := nr rfl
theorem mk121_1000000 (vs : List V) : mask (maskOf en121.ms 1000000) vs = km 10 0 [4] vs := mask_mb _ _ _ _
end Go.Proofs.Ytjplkbeolakbjaa.E
end
section
set_option linter.unusedVariables false
set_option linter.unusedSimpArgs false
set_option maxRecDepth 100000
namespace Go.Proofs.Ytjplkbeolakbjaa.E
open Go.Ev
noncomputable def en123 : Entry := ⟨Try.f123, [(0, mb 42 0 [0, 1, 5, 6]), (1000001, mb 42 0 [0, 5]), (1000002, mb 42 0 [0, 1, 5, 6]), (1000000, mb 42 0 [4])]⟩
theorem mk123_0 (vs : List V) : mask (maskOf en123.ms 0) vs = km 42 0 [0, 1, 5, 6] vs := mask_mb _ _ _ _
theorem mk123_1000001 (vs : List V) : mask (maskOf en123.ms 1000001) vs = km 42 0 [0, 5] vs := mask_mb _ _ _ _
theorem mk123_1000002 (vs : List V) : mask (maskOf en123.ms 1000002) vs = km 42 0 [0, 1, 5, 6] vs := mask_mb _ _ _ _
theorem mk123_1000000 (vs : List V) : mask (maskOf en123.ms 1000000) vs = km 42 0 [4] vs := mask_mb _ _ _ _
noncomputable def lb123_0 : Code := loopN Try.f123 0
end Go.Proofs.Ytjplkbeolakbjaa.E
end
section
set_option linter.unusedVariables false
set_option linter.unusedSimpArgs false
set_option maxRecDepth 100000
namespace Go.Proofs.Ytjplkbeolakbjaa.E
open Go.Ev
noncomputable def en130 : Entry := ⟨Try.f130, [(0, mb 19 0 [0, 1, 7, 8]), (1000001, mb 19 0 []), (1000002, mb 19 0 [0, 1, 7, 8]), (1000000, mb 19 0 [4])]⟩
theorem mk130_0 (vs : List V) : mask (maskOf en130.ms 0) vs = km 19 0 [0, 1, 7, 8] vs := mask_mb _ _ _ _
theorem mk130_1000001 (vs : List V) : mask (maskOf en130.ms 1000001) vs = km 19 0 [] vs := mask_mb _ _ _ _
theorem mk130_1000002 (vs : List V) : mask (maskOf en130.ms 1000002) vs = km 19 0 [0, 1, 7, 8] vs := mask_mb _ _ _ _
theorem mk130_1000000 (vs : List V) : mask (maskOf en130.ms 1000000) vs = km 19 0 [4] vs := mask_mb _ _ _ _
noncomputable def lb130_0 : Code := loopN Try.f130 0
end Go.Proofs.Ytjplkbeolakbjaa.E
end
section
set_option linter.unusedVariables false
set_option linter.unusedSimpArgs false
set_option maxRecDepth 100000
namespace Go.Proofs.Ytjplkbeolakbjaa.E
open Go.Ev
noncomputable def en62 : Entry := ⟨Try.f62, [(1000000, mb 2 0 [0])]⟩
theorem mk62_1000000 (vs : List V) : mask (maskOf en62.ms 1000000) vs = km 2 0 [0] vs := mask_mb _ _ _ _
end Go.Proofs.Ytjplkbeolakbjaa.E
end
section
set_option linter.unusedVariables false
set_option linter.unusedSimpArgs false
set_option maxRecDepth 100000
namespace Go.Proofs.Ytjplkbeolakbjaa.P
open Go.Ev Go.IntKind Go.Proofs.Ytjplkbeolakbjaa Go.Proofs.Ytjplkbeolakbjaa.Ty Go.Proofs.Ytjplkbeolakbjaa.E
def p_bound_None_Quanta (L : Nat)  : Option (Int × Int × Bool) := some (0, 0, true)
attribute [local go_sem] Ev.putR_s Ev.putR_0 Ev.thenO_s Ev.thenO_0 Ev.seqR_n Ev.seqR_e Ev.seqR_r Ev.seqR_0 Ev.blkR_e Ev.blkR_n Ev.blkR_r Ev.blkR_0 Ev.normR_s Ev.normR_0 Ev.outR_r Ev.outR_n Ev.outR_0 Ev.retS_s Ev.retS_0 Ev.pureO_s Ev.pureO_0 Ev.topR_0 Ev.topR_t Ev.topR_t0 Ev.oneL_0 Ev.oneL_s Ev.topR_d Ev.topR_nils Ev.topR_agg Ev.topR_rs Ev.evOp_move Ev.evOp_assign Ev.evOp_pick Ev.evOp_alloc Ev.evOp_box Ev.evOp_build Ev.evOp_buildSlice Ev.evOp_load Ev.evOp_store Ev.evOp_makeMap Ev.evOp_lookup Ev.evOp_mapUpdate Ev.evOp_insert Ev.evOp_nilCheck Ev.evOp_binOp Ev.evOp_unOp Ev.evOp_convert Ev.evOp_makeFunc Ev.evOp_makeSlice Ev.evOp_slice Ev.evOp_fieldAddr Ev.evOp_field Ev.evOp_indexAddr Ev.evOp_index Ev.evOp_extract Ev.evOp_call Ev.evOp_append Ev.evOp_clear Ev.evOp_len Ev.evOp_min Ev.evOp_max Ev.condR_b Ev.condR_t Ev.evOps_nil Ev.evOps_plain Ev.evOps_guard Ev.runG_eq Ev.skipG_eq Ev.condL_tt Ev.condL_ff Ev.condL_tf Ev.condL_ft Ev.condL_u Ev.condC_t Ev.condC_f Ev.evC_skip Ev.evC_ret Ev.evC_exit Ev.evC_label Ev.evC_region Ev.evC_draw Ev.evC_seq Ev.evC_cond Ev.evC_block Ev.evC_loop Ev.fin_d Ev.fin_nils Ev.fin_agg_ Ev.fin_rs Ev.finS_s Ev.mapO_fin Ev.upd_upd Ev.argv_d Ev.argv_nils Ev.argv_agg Ev.argv_rs Ev.argv_p Ev.fk_low Ev.appendTo_nils Ev.appendTo_rs Ev.consV_d Ev.consV_agg Ev.consV_p Ev.consV_rs Ev.consV_nils Ev.consV_fn Ev.consV_und Ev.consV_jk Ev.consV_grown Ev.topR_grown Ev.len_grown Ev.consV_mp Ev.sameK_i Ev.sameK_s Ev.mget_0 Ev.mget_hit Ev.mget_miss Ev.mput_0 Ev.mput_hit Ev.mput_miss Ev.apartAll Ev.apartL Ev.apartV Ev.freeAll Ev.sel Ev.keyOfV Ev.evLookup Ev.evPut Ev.hintOk Ev.keyOk Ev.consP Ev.lookV Ev.guardV Ev.dstAt Ev.evPure Ev.evStore Ev.evBin Ev.evBinO Ev.evNil Ev.isNilC Ev.evUn Ev.evConv Ev.evSlice Ev.optI Ev.foldI Ev.capsOk Ev.noTup Ev.nth Ev.setN Ev.killAt Ev.pad Ev.V.get Ev.V.put Ev.putD Ev.newBlk Ev.upd Ev.keq Ev.empty Ev.evCall Ev.V.args Ev.argP Ev.callOf Ev.evNilP Ev.isNilP Ev.look Ev.V.view.views Ev.V.view Ev.V.toD Ev.V.toD.V.toDs Ev.V.pure.pures Ev.V.pure Ev.D.flat.flats Ev.D.flat Ev.mkAgg Ev.allD Ev.aggParts Ev.setParts Ev.setElems Ev.getPath Ev.setPath Ev.subL Ev.eqD Ev.eqD.eqDs Ev.and2 Ev.strCut Ev.evalT Ev.constT Ev.evArgs Ev.mask Ev.maskOf Ev.tableOf Ev.compT Ev.resV Ev.retV Ev.mapO Ev.allD_gl Ev.killAt_i Ev.tkOne_i Ev.hT_agg Ev.hT_vagg Ev.hT_int Ev.hT_bool Ev.hT_str Ev.hT_sl Ev.hT_ptr Ev.hT_np Ev.hT_p Ev.hT_rs Ev.hT_mp Ev.hT_nils Ev.hT_fn Ev.hT_jk Ev.hT_gl Ev.eO_sl Ev.eO_nils Ev.eO_rs Ev.eT_sl Ev.eT_rs Ev.pL_str Ev.pL_sl Ev.pL_rs Ev.pL_nils Ev.pL_min Ev.pL_max Ev.len_glB Ev.noTup_gl Ev.rowV_len Ev.rowV_nil Ev.rowV_cons Ev.rowV_append Ev.rowV_set Ev.rowV_replicate Ev.nth_row Ev.row_take Ev.row_drop Ev.toDs_row Ev.fin_row Ev.map_row Ev.map_take_ Ev.map_drop_ Ev.Bk_i Ev.GlB_0 Ev.GlB_mk Ev.gl_nil Ev.gl_cons Ev.gl_snoc Ev.gl_setN Ev.appendTo_gl Ev.consV_gl Ev.elems_gl Ev.fin_gl Ev.view_gl Ev.argv_gl Ev.topR_gl Ev.sp_z Ev.sp_0 Ev.sp_s Ev.km_z Ev.km_0 Ev.km_s Ev.beq_toList Ev.nc0 Ev.bq_t Ev.bq_f Ev.bodyN Ev.le_maxRow Int.cast_ofNat_Int IntWalk.i64_in IntWalk.u64_in IntWalk.u8_in beq_self_eq_true Bool.true_beq Bool.false_beq Bool.and_true Bool.true_and Bool.false_and Bool.and_false Bool.and_self Bool.not_true Bool.not_false Bool.not_eq_true cond_true cond_false if_true if_false and_true true_and and_self decide_true decide_false Bool.or_true Bool.true_or Bool.or_false Bool.false_or List.isEmpty List.isEmpty_nil List.size_toArray List.map List.length_map List.length_cons List.length_nil Option.map Option.bind Option.getD Option.isSome List.replicate Bool.false_eq_true implies_true false_implies forall_const Array.toList Array.isEmpty List.append List.nil_append List.cons_append List.drop_zero List.take_length List.take_succ_cons List.take_zero List.take_nil List.getElem?_map List.getElem?_cons_zero List.getElem?_cons_succ List.getElem?_nil List.append_nil eq_self Int.toNat_natCast List.length_append Nat.zero_add Nat.add_zero List.length_replicate Nat.sub_zero Option.map_some Option.map_none Int.le_refl Nat.le_refl
noncomputable def G_bound_None_Quanta (L : Nat) : Specs := []
noncomputable def T_bound_None_Quanta : Table := tableOf [(62, en62)]
theorem Go_bound_None_Quanta (L : Nat) (hL : L ≤ 4611686018427387904) : ∀ g s, Ev.look (G_bound_None_Quanta L) g = some s → SpecOk Try.prog g s := specs_nil
theorem To_bound_None_Quanta (L : Nat) : TableOk Try.prog ((G_bound_None_Quanta L).map (·.1)) T_bound_None_Quanta := (table_cons Try.func62 (by kernel_rfl) (by kernel_rfl) table_nil)
attribute [local go_sem] Ty.tk4 Ty.ub4 Ty.ek4 Ty.zv4 Ty.by4 Ty.so4 Ty.tk27 Ty.ik27 Ty.ek27 Ty.zv27 Ty.by27 Ty.so27 Ty.tk43 Ty.ct43 Ty.ek43 Ty.zv43 Ty.by43 Ty.so43 Ty.k43_e E.mk62_1000000 loopN loops Try.f62
theorem e_bound_None_Quanta (L : Nat) (hL : L ≤ 4611686018427387904)  (res : Int × Int × Bool) (h : p_bound_None_Quanta L  = some res) : evTop Try.prog (G_bound_None_Quanta L) T_bound_None_Quanta L 1 62 [] = some [.agg 43 [.int .i64 res.1, .int .i64 res.2.1, .bool res.2.2]] := by
  revert h
  unfold p_bound_None_Quanta evTop
  simp only [List.map]
  rw [evF_s (fn := Try.f62) (msk := en62.ms) (hT := by rfl) (hb := by rfl)]
  rintro ⟨⟩
  simp only [go_sem, Nat.reduceAdd, Nat.reduceSub, Nat.reduceMul, Nat.reduceEqDiff, Nat.reduceBEq, Nat.reduceLT, Nat.reduceLeDiff, Nat.reducePow, Int.reduceToNat, Int.reduceLT, Int.reduceLE, Int.reduceGT, Int.reduceGE, Int.reduceEq, Int.reduceNeg, Int.reduceAdd, Int.reduceSub, Int.reduceMul, ↓reduceIte, reduceCtorEq, *]
noncomputable def s_bound_None_Quanta (L : Nat) : Ev.Spec := specP cNil (fun x => p_bound_None_Quanta L ) (fun r => [.agg 43 [.int .i64 r.1, .int .i64 r.2.1, .bool r.2.2]])
theorem s_bound_None_Quanta_run (L : Nat)  : (s_bound_None_Quanta L).run [] = (p_bound_None_Quanta L ).map fun r => [.agg 43 [.int .i64 r.1, .int .i64 r.2.1, .bool r.2.2]] := specP_run cNil (fun x => p_bound_None_Quanta L ) (fun r => [.agg 43 [.int .i64 r.1, .int .i64 r.2.1, .bool r.2.2]]) (())
theorem ok_bound_None_Quanta (L : Nat) (hL : L ≤ 4611686018427387904) : SpecOk Try.prog 62 (s_bound_None_Quanta L) := specP_ok mixed (Go_bound_None_Quanta L hL) (To_bound_None_Quanta L) fun x r h => ⟨L, 1, e_bound_None_Quanta L hL  r h⟩
end Go.Proofs.Ytjplkbeolakbjaa.P
end
section
set_option linter.unusedVariables false
set_option linter.unusedSimpArgs false
set_option maxRecDepth 100000
namespace Go.Proofs.Ytjplkbeolakbjaa.E
open Go.Ev
noncomputable def en65 : Entry := ⟨Try.f65, [(1000000, mb 9 0 [4])]⟩
theorem mk65_1000000 (vs : List V) : mask (maskOf en65.ms 1000000) vs = km 9 0 [4] vs := mask_mb _ _ _ _
end Go.Proofs.Ytjplkbeolakbjaa.E
end
section
set_option linter.unusedVariables false
set_option linter.unusedSimpArgs false
set_option maxRecDepth 100000
namespace Go.Proofs.Ytjplkbeolakbjaa.E
open Go.Ev
noncomputable def en79 : Entry := ⟨Try.f79, [(1000000, mb 8 0 [2])]⟩
theorem mk79_1000000 (vs : List V) : mask (maskOf en79.ms 1000000) vs = km 8 0 [2] vs := mask_mb _ _ _ _
end Go.Proofs.Ytjplkbeolakbjaa.E
end
section
set_option linter.unusedVariables false
set_option linter.unusedSimpArgs false
set_option maxRecDepth 100000
namespace Go.Proofs.Ytjplkbeolakbjaa.E
open Go.Ev
noncomputable def en96 : Entry := ⟨Try.f96, [(1000001, mb 37 0 []), (1000000, mb 37 0 [2])]⟩
theorem mk96_1000001 (vs : List V) : mask (maskOf en96.ms 1000001) vs = km 37 0 [] vs := mask_mb _ _ _ _
theorem mk96_1000000 (vs : List V) : mask (maskOf en96.ms 1000000) vs = km 37 0 [2] vs := mask_mb _ _ _ _
end Go.Proofs.Ytjplkbeolakbjaa.E
end
section
set_option linter.unusedVariables false
set_option linter.unusedSimpArgs false
set_option maxRecDepth 100000
namespace Go.Proofs.Ytjplkbeolakbjaa.P
open Go.Ev Go.IntKind Go.Proofs.Ytjplkbeolakbjaa Go.Proofs.Ytjplkbeolakbjaa.Ty Go.Proofs.Ytjplkbeolakbjaa.E
def p_bound_Check_Quanta (L : Nat) (a0_0 : Int) (a0_1 : Int) (a0_2 : Bool) : Option Int := cb a0_2 (cb (decide (a0_0 = 0)) (cb (decide (a0_1 = 0)) (if (minI a0_0 a0_1) < (-1152921504606846976) then (some 4) else (if (maxI a0_0 a0_1) > 1152921504606846976 then (some 4) else (if a0_0 > a0_1 then (some 11) else (some 0)))) (some 3)) (some 3)) (if (minI a0_0 a0_1) < (-1152921504606846976) then (some 4) else (if (maxI a0_0 a0_1) > 1152921504606846976 then (some 4) else (if a0_0 > a0_1 then (some 11) else (some 0))))
attribute [local go_sem] Ev.putR_s Ev.putR_0 Ev.thenO_s Ev.thenO_0 Ev.seqR_n Ev.seqR_e Ev.seqR_r Ev.seqR_0 Ev.blkR_e Ev.blkR_n Ev.blkR_r Ev.blkR_0 Ev.normR_s Ev.normR_0 Ev.outR_r Ev.outR_n Ev.outR_0 Ev.retS_s Ev.retS_0 Ev.pureO_s Ev.pureO_0 Ev.topR_0 Ev.topR_t Ev.topR_t0 Ev.oneL_0 Ev.oneL_s Ev.topR_d Ev.topR_nils Ev.topR_agg Ev.topR_rs Ev.evOp_move Ev.evOp_assign Ev.evOp_pick Ev.evOp_alloc Ev.evOp_box Ev.evOp_build Ev.evOp_buildSlice Ev.evOp_load Ev.evOp_store Ev.evOp_makeMap Ev.evOp_lookup Ev.evOp_mapUpdate Ev.evOp_insert Ev.evOp_nilCheck Ev.evOp_binOp Ev.evOp_unOp Ev.evOp_convert Ev.evOp_makeFunc Ev.evOp_makeSlice Ev.evOp_slice Ev.evOp_fieldAddr Ev.evOp_field Ev.evOp_indexAddr Ev.evOp_index Ev.evOp_extract Ev.evOp_call Ev.evOp_append Ev.evOp_clear Ev.evOp_len Ev.evOp_min Ev.evOp_max Ev.condR_b Ev.condR_t Ev.evOps_nil Ev.evOps_plain Ev.evOps_guard Ev.runG_eq Ev.skipG_eq Ev.condL_tt Ev.condL_ff Ev.condL_tf Ev.condL_ft Ev.condL_u Ev.condC_t Ev.condC_f Ev.evC_skip Ev.evC_ret Ev.evC_exit Ev.evC_label Ev.evC_region Ev.evC_draw Ev.evC_seq Ev.evC_cond Ev.evC_block Ev.evC_loop Ev.fin_d Ev.fin_nils Ev.fin_agg_ Ev.fin_rs Ev.finS_s Ev.mapO_fin Ev.upd_upd Ev.argv_d Ev.argv_nils Ev.argv_agg Ev.argv_rs Ev.argv_p Ev.fk_low Ev.appendTo_nils Ev.appendTo_rs Ev.consV_d Ev.consV_agg Ev.consV_p Ev.consV_rs Ev.consV_nils Ev.consV_fn Ev.consV_und Ev.consV_jk Ev.consV_grown Ev.topR_grown Ev.len_grown Ev.consV_mp Ev.sameK_i Ev.sameK_s Ev.mget_0 Ev.mget_hit Ev.mget_miss Ev.mput_0 Ev.mput_hit Ev.mput_miss Ev.apartAll Ev.apartL Ev.apartV Ev.freeAll Ev.sel Ev.keyOfV Ev.evLookup Ev.evPut Ev.hintOk Ev.keyOk Ev.consP Ev.lookV Ev.guardV Ev.dstAt Ev.evPure Ev.evStore Ev.evBin Ev.evBinO Ev.evNil Ev.isNilC Ev.evUn Ev.evConv Ev.evSlice Ev.optI Ev.foldI Ev.capsOk Ev.noTup Ev.nth Ev.setN Ev.killAt Ev.pad Ev.V.get Ev.V.put Ev.putD Ev.newBlk Ev.upd Ev.keq Ev.empty Ev.evCall Ev.V.args Ev.argP Ev.callOf Ev.evNilP Ev.isNilP Ev.look Ev.V.view.views Ev.V.view Ev.V.toD Ev.V.toD.V.toDs Ev.V.pure.pures Ev.V.pure Ev.D.flat.flats Ev.D.flat Ev.mkAgg Ev.allD Ev.aggParts Ev.setParts Ev.setElems Ev.getPath Ev.setPath Ev.subL Ev.eqD Ev.eqD.eqDs Ev.and2 Ev.strCut Ev.evalT Ev.constT Ev.evArgs Ev.mask Ev.maskOf Ev.tableOf Ev.compT Ev.resV Ev.retV Ev.mapO Ev.allD_gl Ev.killAt_i Ev.tkOne_i Ev.hT_agg Ev.hT_vagg Ev.hT_int Ev.hT_bool Ev.hT_str Ev.hT_sl Ev.hT_ptr Ev.hT_np Ev.hT_p Ev.hT_rs Ev.hT_mp Ev.hT_nils Ev.hT_fn Ev.hT_jk Ev.hT_gl Ev.eO_sl Ev.eO_nils Ev.eO_rs Ev.eT_sl Ev.eT_rs Ev.pL_str Ev.pL_sl Ev.pL_rs Ev.pL_nils Ev.pL_min Ev.pL_max Ev.len_glB Ev.noTup_gl Ev.rowV_len Ev.rowV_nil Ev.rowV_cons Ev.rowV_append Ev.rowV_set Ev.rowV_replicate Ev.nth_row Ev.row_take Ev.row_drop Ev.toDs_row Ev.fin_row Ev.map_row Ev.map_take_ Ev.map_drop_ Ev.Bk_i Ev.GlB_0 Ev.GlB_mk Ev.gl_nil Ev.gl_cons Ev.gl_snoc Ev.gl_setN Ev.appendTo_gl Ev.consV_gl Ev.elems_gl Ev.fin_gl Ev.view_gl Ev.argv_gl Ev.topR_gl Ev.sp_z Ev.sp_0 Ev.sp_s Ev.km_z Ev.km_0 Ev.km_s Ev.beq_toList Ev.nc0 Ev.bq_t Ev.bq_f Ev.bodyN Ev.le_maxRow Int.cast_ofNat_Int IntWalk.i64_in IntWalk.u64_in IntWalk.u8_in beq_self_eq_true Bool.true_beq Bool.false_beq Bool.and_true Bool.true_and Bool.false_and Bool.and_false Bool.and_self Bool.not_true Bool.not_false Bool.not_eq_true cond_true cond_false if_true if_false and_true true_and and_self decide_true decide_false Bool.or_true Bool.true_or Bool.or_false Bool.false_or List.isEmpty List.isEmpty_nil List.size_toArray List.map List.length_map List.length_cons List.length_nil Option.map Option.bind Option.getD Option.isSome List.replicate Bool.false_eq_true implies_true false_implies forall_const Array.toList Array.isEmpty List.append List.nil_append List.cons_append List.drop_zero List.take_length List.take_succ_cons List.take_zero List.take_nil List.getElem?_map List.getElem?_cons_zero List.getElem?_cons_succ List.getElem?_nil List.append_nil eq_self Int.toNat_natCast List.length_append Nat.zero_add Nat.add_zero List.length_replicate Nat.sub_zero Option.map_some Option.map_none Int.le_refl Nat.le_refl
noncomputable def G_bound_Check_Quanta (L : Nat) : Specs := []
noncomputable def T_bound_Check_Quanta : Table := tableOf [(96, en96)]
theorem Go_bound_Check_Quanta (L : Nat) (hL : L ≤ 4611686018427387904) : ∀ g s, Ev.look (G_bound_Check_Quanta L) g = some s → SpecOk Try.prog g s := specs_nil
theorem To_bound_Check_Quanta (L : Nat) : TableOk Try.prog ((G_bound_Check_Quanta L).map (·.1)) T_bound_Check_Quanta := (table_cons Try.func96 (by kernel_rfl) (by kernel_rfl) table_nil)
attribute [local go_sem] Ty.tk4 Ty.ub4 Ty.ek4 Ty.zv4 Ty.by4 Ty.so4 Ty.tk27 Ty.ik27 Ty.ek27 Ty.zv27 Ty.by27 Ty.so27 Ty.tk36 Ty.ik36 Ty.ek36 Ty.zv36 Ty.by36 Ty.so36 Ty.tk43 Ty.ct43 Ty.ek43 Ty.zv43 Ty.by43 Ty.so43 Ty.k43_e E.mk96_1000001 E.mk96_1000000 loopN loops Try.f96
theorem e_bound_Check_Quanta (L : Nat) (hL : L ≤ 4611686018427387904) (a0_0 : Int) (a0_1 : Int) (a0_2 : Bool) (res : Int) (h : p_bound_Check_Quanta L a0_0 a0_1 a0_2 = some res) : evTop Try.prog (G_bound_Check_Quanta L) T_bound_Check_Quanta L 1 96 [.agg 43 [.int .i64 a0_0, .int .i64 a0_1, .bool a0_2]] = some [.int .i64 res] := by
  revert h
  unfold p_bound_Check_Quanta evTop
  simp only [List.map]
  rw [evF_s (fn := Try.f96) (msk := en96.ms) (hT := by rfl) (hb := by rfl)]
  refine cb_i (fun c1 => ?_) (fun c1 => ?_)
  · refine cb_i (fun c2 => ?_) (fun c2 => ?_)
    · refine cb_i (fun c3 => ?_) (fun c3 => ?_)
      · refine ite_i (fun c4 => ?_) (fun c4 => ?_)
        · rintro ⟨⟩
          simp only [go_sem, Nat.reduceAdd, Nat.reduceSub, Nat.reduceMul, Nat.reduceEqDiff, Nat.reduceBEq, Nat.reduceLT, Nat.reduceLeDiff, Nat.reducePow, Int.reduceToNat, Int.reduceLT, Int.reduceLE, Int.reduceGT, Int.reduceGE, Int.reduceEq, Int.reduceNeg, Int.reduceAdd, Int.reduceSub, Int.reduceMul, ↓reduceIte, reduceCtorEq, *]
        · refine ite_i (fun c5 => ?_) (fun c5 => ?_)
          · rintro ⟨⟩
            simp only [go_sem, Nat.reduceAdd, Nat.reduceSub, Nat.reduceMul, Nat.reduceEqDiff, Nat.reduceBEq, Nat.reduceLT, Nat.reduceLeDiff, Nat.reducePow, Int.reduceToNat, Int.reduceLT, Int.reduceLE, Int.reduceGT, Int.reduceGE, Int.reduceEq, Int.reduceNeg, Int.reduceAdd, Int.reduceSub, Int.reduceMul, ↓reduceIte, reduceCtorEq, *]
          · refine ite_i (fun c6 => ?_) (fun c6 => ?_)
            · rintro ⟨⟩
              simp only [go_sem, Nat.reduceAdd, Nat.reduceSub, Nat.reduceMul, Nat.reduceEqDiff, Nat.reduceBEq, Nat.reduceLT, Nat.reduceLeDiff, Nat.reducePow, Int.reduceToNat, Int.reduceLT, Int.reduceLE, Int.reduceGT, Int.reduceGE, Int.reduceEq, Int.reduceNeg, Int.reduceAdd, Int.reduceSub, Int.reduceMul, ↓reduceIte, reduceCtorEq, *]
            · rintro ⟨⟩
              simp only [go_sem, Nat.reduceAdd, Nat.reduceSub, Nat.reduceMul, Nat.reduceEqDiff, Nat.reduceBEq, Nat.reduceLT, Nat.reduceLeDiff, Nat.reducePow, Int.reduceToNat, Int.reduceLT, Int.reduceLE, Int.reduceGT, Int.reduceGE, Int.reduceEq, Int.reduceNeg, Int.reduceAdd, Int.reduceSub, Int.reduceMul, ↓reduceIte, reduceCtorEq, *]
      · rintro ⟨⟩
        simp only [go_sem, Nat.reduceAdd, Nat.reduceSub, Nat.reduceMul, Nat.reduceEqDiff, Nat.reduceBEq, Nat.reduceLT, Nat.reduceLeDiff, Nat.reducePow, Int.reduceToNat, Int.reduceLT, Int.reduceLE, Int.reduceGT, Int.reduceGE, Int.reduceEq, Int.reduceNeg, Int.reduceAdd, Int.reduceSub, Int.reduceMul, ↓reduceIte, reduceCtorEq, *]
    · rintro ⟨⟩
      simp only [go_sem, Nat.reduceAdd, Nat.reduceSub, Nat.reduceMul, Nat.reduceEqDiff, Nat.reduceBEq, Nat.reduceLT, Nat.reduceLeDiff, Nat.reducePow, Int.reduceToNat, Int.reduceLT, Int.reduceLE, Int.reduceGT, Int.reduceGE, Int.reduceEq, Int.reduceNeg, Int.reduceAdd, Int.reduceSub, Int.reduceMul, ↓reduceIte, reduceCtorEq, *]
  · refine ite_i (fun c7 => ?_) (fun c7 => ?_)
    · rintro ⟨⟩
      simp only [go_sem, Nat.reduceAdd, Nat.reduceSub, Nat.reduceMul, Nat.reduceEqDiff, Nat.reduceBEq, Nat.reduceLT, Nat.reduceLeDiff, Nat.reducePow, Int.reduceToNat, Int.reduceLT, Int.reduceLE, Int.reduceGT, Int.reduceGE, Int.reduceEq, Int.reduceNeg, Int.reduceAdd, Int.reduceSub, Int.reduceMul, ↓reduceIte, reduceCtorEq, *]
    · refine ite_i (fun c8 => ?_) (fun c8 => ?_)
      · rintro ⟨⟩
        simp only [go_sem, Nat.reduceAdd, Nat.reduceSub, Nat.reduceMul, Nat.reduceEqDiff, Nat.reduceBEq, Nat.reduceLT, Nat.reduceLeDiff, Nat.reducePow, Int.reduceToNat, Int.reduceLT, Int.reduceLE, Int.reduceGT, Int.reduceGE, Int.reduceEq, Int.reduceNeg, Int.reduceAdd, Int.reduceSub, Int.reduceMul, ↓reduceIte, reduceCtorEq, *]
      · refine ite_i (fun c9 => ?_) (fun c9 => ?_)
        · rintro ⟨⟩
          simp only [go_sem, Nat.reduceAdd, Nat.reduceSub, Nat.reduceMul, Nat.reduceEqDiff, Nat.reduceBEq, Nat.reduceLT, Nat.reduceLeDiff, Nat.reducePow, Int.reduceToNat, Int.reduceLT, Int.reduceLE, Int.reduceGT, Int.reduceGE, Int.reduceEq, Int.reduceNeg, Int.reduceAdd, Int.reduceSub, Int.reduceMul, ↓reduceIte, reduceCtorEq, *]
        · rintro ⟨⟩
          simp only [go_sem, Nat.reduceAdd, Nat.reduceSub, Nat.reduceMul, Nat.reduceEqDiff, Nat.reduceBEq, Nat.reduceLT, Nat.reduceLeDiff, Nat.reducePow, Int.reduceToNat, Int.reduceLT, Int.reduceLE, Int.reduceGT, Int.reduceGE, Int.reduceEq, Int.reduceNeg, Int.reduceAdd, Int.reduceSub, Int.reduceMul, ↓reduceIte, reduceCtorEq, *]
noncomputable def s_bound_Check_Quanta (L : Nat) : Ev.Spec := specP (cCons k43 cNil) (fun x => p_bound_Check_Quanta L x.1.1 x.1.2.1 x.1.2.2.1) (fun r => [.int .i64 r])
theorem s_bound_Check_Quanta_run (L : Nat) (a0_0 : Int) (a0_1 : Int) (a0_2 : Bool) : (s_bound_Check_Quanta L).run [.agg 43 [.int .i64 a0_0, .int .i64 a0_1, .bool a0_2]] = (p_bound_Check_Quanta L a0_0 a0_1 a0_2).map fun r => [.int .i64 r] := specP_run (cCons k43 cNil) (fun x => p_bound_Check_Quanta L x.1.1 x.1.2.1 x.1.2.2.1) (fun r => [.int .i64 r]) ((a0_0, a0_1, a0_2, ()), ())
theorem ok_bound_Check_Quanta (L : Nat) (hL : L ≤ 4611686018427387904) : SpecOk Try.prog 96 (s_bound_Check_Quanta L) := specP_ok mixed (Go_bound_Check_Quanta L hL) (To_bound_Check_Quanta L) fun x r h => ⟨L, 1, e_bound_Check_Quanta L hL x.1.1 x.1.2.1 x.1.2.2.1 r h⟩
end Go.Proofs.Ytjplkbeolakbjaa.P
end
section
set_option linter.unusedVariables false
set_option linter.unusedSimpArgs false
set_option maxRecDepth 100000
namespace Go.Proofs.Ytjplkbeolakbjaa.P
open Go.Ev Go.IntKind Go.Proofs.Ytjplkbeolakbjaa Go.Proofs.Ytjplkbeolakbjaa.Ty Go.Proofs.Ytjplkbeolakbjaa.E
def p_bound_Norm_Quanta (L : Nat) (a0_0 : Int) (a0_1 : Int) (a0_2 : Bool) : Option (Int × Int × Bool) := bnd (p_bound_Check_Quanta L a0_0 a0_1 a0_2) fun r1 => cb (decide (r1 = 0)) (some (a0_0, a0_1, a0_2)) (bnd (p_bound_None_Quanta L) fun r2 => some (r2.1, r2.2.1, r2.2.2))
attribute [local go_sem] Ev.putR_s Ev.putR_0 Ev.thenO_s Ev.thenO_0 Ev.seqR_n Ev.seqR_e Ev.seqR_r Ev.seqR_0 Ev.blkR_e Ev.blkR_n Ev.blkR_r Ev.blkR_0 Ev.normR_s Ev.normR_0 Ev.outR_r Ev.outR_n Ev.outR_0 Ev.retS_s Ev.retS_0 Ev.pureO_s Ev.pureO_0 Ev.topR_0 Ev.topR_t Ev.topR_t0 Ev.oneL_0 Ev.oneL_s Ev.topR_d Ev.topR_nils Ev.topR_agg Ev.topR_rs Ev.evOp_move Ev.evOp_assign Ev.evOp_pick Ev.evOp_alloc Ev.evOp_box Ev.evOp_build Ev.evOp_buildSlice Ev.evOp_load Ev.evOp_store Ev.evOp_makeMap Ev.evOp_lookup Ev.evOp_mapUpdate Ev.evOp_insert Ev.evOp_nilCheck Ev.evOp_binOp Ev.evOp_unOp Ev.evOp_convert Ev.evOp_makeFunc Ev.evOp_makeSlice Ev.evOp_slice Ev.evOp_fieldAddr Ev.evOp_field Ev.evOp_indexAddr Ev.evOp_index Ev.evOp_extract Ev.evOp_call Ev.evOp_append Ev.evOp_clear Ev.evOp_len Ev.evOp_min Ev.evOp_max Ev.condR_b Ev.condR_t Ev.evOps_nil Ev.evOps_plain Ev.evOps_guard Ev.runG_eq Ev.skipG_eq Ev.condL_tt Ev.condL_ff Ev.condL_tf Ev.condL_ft Ev.condL_u Ev.condC_t Ev.condC_f Ev.evC_skip Ev.evC_ret Ev.evC_exit Ev.evC_label Ev.evC_region Ev.evC_draw Ev.evC_seq Ev.evC_cond Ev.evC_block Ev.evC_loop Ev.fin_d Ev.fin_nils Ev.fin_agg_ Ev.fin_rs Ev.finS_s Ev.mapO_fin Ev.upd_upd Ev.argv_d Ev.argv_nils Ev.argv_agg Ev.argv_rs Ev.argv_p Ev.fk_low Ev.appendTo_nils Ev.appendTo_rs Ev.consV_d Ev.consV_agg Ev.consV_p Ev.consV_rs Ev.consV_nils Ev.consV_fn Ev.consV_und Ev.consV_jk Ev.consV_grown Ev.topR_grown Ev.len_grown Ev.consV_mp Ev.sameK_i Ev.sameK_s Ev.mget_0 Ev.mget_hit Ev.mget_miss Ev.mput_0 Ev.mput_hit Ev.mput_miss Ev.apartAll Ev.apartL Ev.apartV Ev.freeAll Ev.sel Ev.keyOfV Ev.evLookup Ev.evPut Ev.hintOk Ev.keyOk Ev.consP Ev.lookV Ev.guardV Ev.dstAt Ev.evPure Ev.evStore Ev.evBin Ev.evBinO Ev.evNil Ev.isNilC Ev.evUn Ev.evConv Ev.evSlice Ev.optI Ev.foldI Ev.capsOk Ev.noTup Ev.nth Ev.setN Ev.killAt Ev.pad Ev.V.get Ev.V.put Ev.putD Ev.newBlk Ev.upd Ev.keq Ev.empty Ev.evCall Ev.V.args Ev.argP Ev.callOf Ev.evNilP Ev.isNilP Ev.look Ev.V.view.views Ev.V.view Ev.V.toD Ev.V.toD.V.toDs Ev.V.pure.pures Ev.V.pure Ev.D.flat.flats Ev.D.flat Ev.mkAgg Ev.allD Ev.aggParts Ev.setParts Ev.setElems Ev.getPath Ev.setPath Ev.subL Ev.eqD Ev.eqD.eqDs Ev.and2 Ev.strCut Ev.evalT Ev.constT Ev.evArgs Ev.mask Ev.maskOf Ev.tableOf Ev.compT Ev.resV Ev.retV Ev.mapO Ev.allD_gl Ev.killAt_i Ev.tkOne_i Ev.hT_agg Ev.hT_vagg Ev.hT_int Ev.hT_bool Ev.hT_str Ev.hT_sl Ev.hT_ptr Ev.hT_np Ev.hT_p Ev.hT_rs Ev.hT_mp Ev.hT_nils Ev.hT_fn Ev.hT_jk Ev.hT_gl Ev.eO_sl Ev.eO_nils Ev.eO_rs Ev.eT_sl Ev.eT_rs Ev.pL_str Ev.pL_sl Ev.pL_rs Ev.pL_nils Ev.pL_min Ev.pL_max Ev.len_glB Ev.noTup_gl Ev.rowV_len Ev.rowV_nil Ev.rowV_cons Ev.rowV_append Ev.rowV_set Ev.rowV_replicate Ev.nth_row Ev.row_take Ev.row_drop Ev.toDs_row Ev.fin_row Ev.map_row Ev.map_take_ Ev.map_drop_ Ev.Bk_i Ev.GlB_0 Ev.GlB_mk Ev.gl_nil Ev.gl_cons Ev.gl_snoc Ev.gl_setN Ev.appendTo_gl Ev.consV_gl Ev.elems_gl Ev.fin_gl Ev.view_gl Ev.argv_gl Ev.topR_gl Ev.sp_z Ev.sp_0 Ev.sp_s Ev.km_z Ev.km_0 Ev.km_s Ev.beq_toList Ev.nc0 Ev.bq_t Ev.bq_f Ev.bodyN Ev.le_maxRow Int.cast_ofNat_Int IntWalk.i64_in IntWalk.u64_in IntWalk.u8_in beq_self_eq_true Bool.true_beq Bool.false_beq Bool.and_true Bool.true_and Bool.false_and Bool.and_false Bool.and_self Bool.not_true Bool.not_false Bool.not_eq_true cond_true cond_false if_true if_false and_true true_and and_self decide_true decide_false Bool.or_true Bool.true_or Bool.or_false Bool.false_or List.isEmpty List.isEmpty_nil List.size_toArray List.map List.length_map List.length_cons List.length_nil Option.map Option.bind Option.getD Option.isSome List.replicate Bool.false_eq_true implies_true false_implies forall_const Array.toList Array.isEmpty List.append List.nil_append List.cons_append List.drop_zero List.take_length List.take_succ_cons List.take_zero List.take_nil List.getElem?_map List.getElem?_cons_zero List.getElem?_cons_succ List.getElem?_nil List.append_nil eq_self Int.toNat_natCast List.length_append Nat.zero_add Nat.add_zero List.length_replicate Nat.sub_zero Option.map_some Option.map_none Int.le_refl Nat.le_refl
noncomputable def G_bound_Norm_Quanta (L : Nat) : Specs := [(62, s_bound_None_Quanta L), (96, s_bound_Check_Quanta L)]
noncomputable def T_bound_Norm_Quanta : Table := tableOf [(79, en79)]
theorem Go_bound_Norm_Quanta (L : Nat) (hL : L ≤ 4611686018427387904) : ∀ g s, Ev.look (G_bound_Norm_Quanta L) g = some s → SpecOk Try.prog g s := (specs_cons (ok_bound_None_Quanta L hL) (specs_cons (ok_bound_Check_Quanta L hL) specs_nil))
theorem To_bound_Norm_Quanta (L : Nat) : TableOk Try.prog ((G_bound_Norm_Quanta L).map (·.1)) T_bound_Norm_Quanta := (table_cons Try.func79 (by kernel_rfl) (by kernel_rfl) table_nil)
theorem lk_bound_Norm_Quanta_62 (L : Nat) : Ev.look (G_bound_Norm_Quanta L) 62 = some (s_bound_None_Quanta L) := nr rfl
theorem lk_bound_Norm_Quanta_96 (L : Nat) : Ev.look (G_bound_Norm_Quanta L) 96 = some (s_bound_Check_Quanta L) := nr rfl
attribute [local go_sem] Ty.tk4 Ty.ub4 Ty.ek4 Ty.zv4 Ty.by4 Ty.so4 Ty.tk27 Ty.ik27 Ty.ek27 Ty.zv27 Ty.by27 Ty.so27 Ty.tk36 Ty.ik36 Ty.ek36 Ty.zv36 Ty.by36 Ty.so36 Ty.tk43 Ty.ct43 Ty.ek43 Ty.zv43 Ty.by43 Ty.so43 Ty.k43_e E.mk79_1000000 lk_bound_Norm_Quanta_62 lk_bound_Norm_Quanta_96 s_bound_None_Quanta_run s_bound_Check_Quanta_run loopN loops Try.f79
theorem e_bound_Norm_Quanta (L : Nat) (hL : L ≤ 4611686018427387904) (a0_0 : Int) (a0_1 : Int) (a0_2 : Bool) (res : Int × Int × Bool) (h : p_bound_Norm_Quanta L a0_0 a0_1 a0_2 = some res) : evTop Try.prog (G_bound_Norm_Quanta L) T_bound_Norm_Quanta L 1 79 [.agg 43 [.int .i64 a0_0, .int .i64 a0_1, .bool a0_2]] = some [.agg 43 [.int .i64 res.1, .int .i64 res.2.1, .bool res.2.2]] := by
  revert h
  unfold p_bound_Norm_Quanta evTop
  simp only [List.map]
  rw [evF_s (fn := Try.f79) (msk := en79.ms) (hT := by rfl) (hb := by rfl)]
  refine bnd_i fun r1 c1 => ?_
  refine cb_i (fun c2 => ?_) (fun c2 => ?_)
  · rintro ⟨⟩
    simp only [go_sem, Nat.reduceAdd, Nat.reduceSub, Nat.reduceMul, Nat.reduceEqDiff, Nat.reduceBEq, Nat.reduceLT, Nat.reduceLeDiff, Nat.reducePow, Int.reduceToNat, Int.reduceLT, Int.reduceLE, Int.reduceGT, Int.reduceGE, Int.reduceEq, Int.reduceNeg, Int.reduceAdd, Int.reduceSub, Int.reduceMul, ↓reduceIte, reduceCtorEq, *]
  · refine bnd_i fun r2 c3 => ?_
    rintro ⟨⟩
    simp only [go_sem, Nat.reduceAdd, Nat.reduceSub, Nat.reduceMul, Nat.reduceEqDiff, Nat.reduceBEq, Nat.reduceLT, Nat.reduceLeDiff, Nat.reducePow, Int.reduceToNat, Int.reduceLT, Int.reduceLE, Int.reduceGT, Int.reduceGE, Int.reduceEq, Int.reduceNeg, Int.reduceAdd, Int.reduceSub, Int.reduceMul, ↓reduceIte, reduceCtorEq, *]
noncomputable def s_bound_Norm_Quanta (L : Nat) : Ev.Spec := specP (cCons k43 cNil) (fun x => p_bound_Norm_Quanta L x.1.1 x.1.2.1 x.1.2.2.1) (fun r => [.agg 43 [.int .i64 r.1, .int .i64 r.2.1, .bool r.2.2]])
theorem s_bound_Norm_Quanta_run (L : Nat) (a0_0 : Int) (a0_1 : Int) (a0_2 : Bool) : (s_bound_Norm_Quanta L).run [.agg 43 [.int .i64 a0_0, .int .i64 a0_1, .bool a0_2]] = (p_bound_Norm_Quanta L a0_0 a0_1 a0_2).map fun r => [.agg 43 [.int .i64 r.1, .int .i64 r.2.1, .bool r.2.2]] := specP_run (cCons k43 cNil) (fun x => p_bound_Norm_Quanta L x.1.1 x.1.2.1 x.1.2.2.1) (fun r => [.agg 43 [.int .i64 r.1, .int .i64 r.2.1, .bool r.2.2]]) ((a0_0, a0_1, a0_2, ()), ())
theorem ok_bound_Norm_Quanta (L : Nat) (hL : L ≤ 4611686018427387904) : SpecOk Try.prog 79 (s_bound_Norm_Quanta L) := specP_ok mixed (Go_bound_Norm_Quanta L hL) (To_bound_Norm_Quanta L) fun x r h => ⟨L, 1, e_bound_Norm_Quanta L hL x.1.1 x.1.2.1 x.1.2.2.1 r h⟩
end Go.Proofs.Ytjplkbeolakbjaa.P
end
section
set_option linter.unusedVariables false
set_option linter.unusedSimpArgs false
set_option maxRecDepth 100000
namespace Go.Proofs.Ytjplkbeolakbjaa.P
open Go.Ev Go.IntKind Go.Proofs.Ytjplkbeolakbjaa Go.Proofs.Ytjplkbeolakbjaa.Ty Go.Proofs.Ytjplkbeolakbjaa.E
def p_bound_Of_Quanta (L : Nat) (a0 : Int) (a1 : Int) : Option (Int × Int × Bool) := bnd (p_bound_Norm_Quanta L a0 a1 false) fun r1 => some (r1.1, r1.2.1, r1.2.2)
attribute [local go_sem] Ev.putR_s Ev.putR_0 Ev.thenO_s Ev.thenO_0 Ev.seqR_n Ev.seqR_e Ev.seqR_r Ev.seqR_0 Ev.blkR_e Ev.blkR_n Ev.blkR_r Ev.blkR_0 Ev.normR_s Ev.normR_0 Ev.outR_r Ev.outR_n Ev.outR_0 Ev.retS_s Ev.retS_0 Ev.pureO_s Ev.pureO_0 Ev.topR_0 Ev.topR_t Ev.topR_t0 Ev.oneL_0 Ev.oneL_s Ev.topR_d Ev.topR_nils Ev.topR_agg Ev.topR_rs Ev.evOp_move Ev.evOp_assign Ev.evOp_pick Ev.evOp_alloc Ev.evOp_box Ev.evOp_build Ev.evOp_buildSlice Ev.evOp_load Ev.evOp_store Ev.evOp_makeMap Ev.evOp_lookup Ev.evOp_mapUpdate Ev.evOp_insert Ev.evOp_nilCheck Ev.evOp_binOp Ev.evOp_unOp Ev.evOp_convert Ev.evOp_makeFunc Ev.evOp_makeSlice Ev.evOp_slice Ev.evOp_fieldAddr Ev.evOp_field Ev.evOp_indexAddr Ev.evOp_index Ev.evOp_extract Ev.evOp_call Ev.evOp_append Ev.evOp_clear Ev.evOp_len Ev.evOp_min Ev.evOp_max Ev.condR_b Ev.condR_t Ev.evOps_nil Ev.evOps_plain Ev.evOps_guard Ev.runG_eq Ev.skipG_eq Ev.condL_tt Ev.condL_ff Ev.condL_tf Ev.condL_ft Ev.condL_u Ev.condC_t Ev.condC_f Ev.evC_skip Ev.evC_ret Ev.evC_exit Ev.evC_label Ev.evC_region Ev.evC_draw Ev.evC_seq Ev.evC_cond Ev.evC_block Ev.evC_loop Ev.fin_d Ev.fin_nils Ev.fin_agg_ Ev.fin_rs Ev.finS_s Ev.mapO_fin Ev.upd_upd Ev.argv_d Ev.argv_nils Ev.argv_agg Ev.argv_rs Ev.argv_p Ev.fk_low Ev.appendTo_nils Ev.appendTo_rs Ev.consV_d Ev.consV_agg Ev.consV_p Ev.consV_rs Ev.consV_nils Ev.consV_fn Ev.consV_und Ev.consV_jk Ev.consV_grown Ev.topR_grown Ev.len_grown Ev.consV_mp Ev.sameK_i Ev.sameK_s Ev.mget_0 Ev.mget_hit Ev.mget_miss Ev.mput_0 Ev.mput_hit Ev.mput_miss Ev.apartAll Ev.apartL Ev.apartV Ev.freeAll Ev.sel Ev.keyOfV Ev.evLookup Ev.evPut Ev.hintOk Ev.keyOk Ev.consP Ev.lookV Ev.guardV Ev.dstAt Ev.evPure Ev.evStore Ev.evBin Ev.evBinO Ev.evNil Ev.isNilC Ev.evUn Ev.evConv Ev.evSlice Ev.optI Ev.foldI Ev.capsOk Ev.noTup Ev.nth Ev.setN Ev.killAt Ev.pad Ev.V.get Ev.V.put Ev.putD Ev.newBlk Ev.upd Ev.keq Ev.empty Ev.evCall Ev.V.args Ev.argP Ev.callOf Ev.evNilP Ev.isNilP Ev.look Ev.V.view.views Ev.V.view Ev.V.toD Ev.V.toD.V.toDs Ev.V.pure.pures Ev.V.pure Ev.D.flat.flats Ev.D.flat Ev.mkAgg Ev.allD Ev.aggParts Ev.setParts Ev.setElems Ev.getPath Ev.setPath Ev.subL Ev.eqD Ev.eqD.eqDs Ev.and2 Ev.strCut Ev.evalT Ev.constT Ev.evArgs Ev.mask Ev.maskOf Ev.tableOf Ev.compT Ev.resV Ev.retV Ev.mapO Ev.allD_gl Ev.killAt_i Ev.tkOne_i Ev.hT_agg Ev.hT_vagg Ev.hT_int Ev.hT_bool Ev.hT_str Ev.hT_sl Ev.hT_ptr Ev.hT_np Ev.hT_p Ev.hT_rs Ev.hT_mp Ev.hT_nils Ev.hT_fn Ev.hT_jk Ev.hT_gl Ev.eO_sl Ev.eO_nils Ev.eO_rs Ev.eT_sl Ev.eT_rs Ev.pL_str Ev.pL_sl Ev.pL_rs Ev.pL_nils Ev.pL_min Ev.pL_max Ev.len_glB Ev.noTup_gl Ev.rowV_len Ev.rowV_nil Ev.rowV_cons Ev.rowV_append Ev.rowV_set Ev.rowV_replicate Ev.nth_row Ev.row_take Ev.row_drop Ev.toDs_row Ev.fin_row Ev.map_row Ev.map_take_ Ev.map_drop_ Ev.Bk_i Ev.GlB_0 Ev.GlB_mk Ev.gl_nil Ev.gl_cons Ev.gl_snoc Ev.gl_setN Ev.appendTo_gl Ev.consV_gl Ev.elems_gl Ev.fin_gl Ev.view_gl Ev.argv_gl Ev.topR_gl Ev.sp_z Ev.sp_0 Ev.sp_s Ev.km_z Ev.km_0 Ev.km_s Ev.beq_toList Ev.nc0 Ev.bq_t Ev.bq_f Ev.bodyN Ev.le_maxRow Int.cast_ofNat_Int IntWalk.i64_in IntWalk.u64_in IntWalk.u8_in beq_self_eq_true Bool.true_beq Bool.false_beq Bool.and_true Bool.true_and Bool.false_and Bool.and_false Bool.and_self Bool.not_true Bool.not_false Bool.not_eq_true cond_true cond_false if_true if_false and_true true_and and_self decide_true decide_false Bool.or_true Bool.true_or Bool.or_false Bool.false_or List.isEmpty List.isEmpty_nil List.size_toArray List.map List.length_map List.length_cons List.length_nil Option.map Option.bind Option.getD Option.isSome List.replicate Bool.false_eq_true implies_true false_implies forall_const Array.toList Array.isEmpty List.append List.nil_append List.cons_append List.drop_zero List.take_length List.take_succ_cons List.take_zero List.take_nil List.getElem?_map List.getElem?_cons_zero List.getElem?_cons_succ List.getElem?_nil List.append_nil eq_self Int.toNat_natCast List.length_append Nat.zero_add Nat.add_zero List.length_replicate Nat.sub_zero Option.map_some Option.map_none Int.le_refl Nat.le_refl
noncomputable def G_bound_Of_Quanta (L : Nat) : Specs := [(79, s_bound_Norm_Quanta L)]
noncomputable def T_bound_Of_Quanta : Table := tableOf [(65, en65)]
theorem Go_bound_Of_Quanta (L : Nat) (hL : L ≤ 4611686018427387904) : ∀ g s, Ev.look (G_bound_Of_Quanta L) g = some s → SpecOk Try.prog g s := (specs_cons (ok_bound_Norm_Quanta L hL) specs_nil)
theorem To_bound_Of_Quanta (L : Nat) : TableOk Try.prog ((G_bound_Of_Quanta L).map (·.1)) T_bound_Of_Quanta := (table_cons Try.func65 (by kernel_rfl) (by kernel_rfl) table_nil)
theorem lk_bound_Of_Quanta_79 (L : Nat) : Ev.look (G_bound_Of_Quanta L) 79 = some (s_bound_Norm_Quanta L) := nr rfl
attribute [local go_sem] Ty.tk4 Ty.ub4 Ty.ek4 Ty.zv4 Ty.by4 Ty.so4 Ty.tk27 Ty.ik27 Ty.ek27 Ty.zv27 Ty.by27 Ty.so27 Ty.tk43 Ty.ct43 Ty.ek43 Ty.zv43 Ty.by43 Ty.so43 Ty.k43_e E.mk65_1000000 lk_bound_Of_Quanta_79 s_bound_Norm_Quanta_run loopN loops Try.f65
theorem e_bound_Of_Quanta (L : Nat) (hL : L ≤ 4611686018427387904) (a0 : Int) (a1 : Int) (res : Int × Int × Bool) (h : p_bound_Of_Quanta L a0 a1 = some res) : evTop Try.prog (G_bound_Of_Quanta L) T_bound_Of_Quanta L 1 65 [.int .i64 a0, .int .i64 a1] = some [.agg 43 [.int .i64 res.1, .int .i64 res.2.1, .bool res.2.2]] := by
  revert h
  unfold p_bound_Of_Quanta evTop
  simp only [List.map]
  rw [evF_s (fn := Try.f65) (msk := en65.ms) (hT := by rfl) (hb := by rfl)]
  refine bnd_i fun r1 c1 => ?_
  rintro ⟨⟩
  simp only [go_sem, Nat.reduceAdd, Nat.reduceSub, Nat.reduceMul, Nat.reduceEqDiff, Nat.reduceBEq, Nat.reduceLT, Nat.reduceLeDiff, Nat.reducePow, Int.reduceToNat, Int.reduceLT, Int.reduceLE, Int.reduceGT, Int.reduceGE, Int.reduceEq, Int.reduceNeg, Int.reduceAdd, Int.reduceSub, Int.reduceMul, ↓reduceIte, reduceCtorEq, *]
noncomputable def s_bound_Of_Quanta (L : Nat) : Ev.Spec := specP (cCons (cI .i64) (cCons (cI .i64) cNil)) (fun x => p_bound_Of_Quanta L x.1 x.2.1) (fun r => [.agg 43 [.int .i64 r.1, .int .i64 r.2.1, .bool r.2.2]])
theorem s_bound_Of_Quanta_run (L : Nat) (a0 : Int) (a1 : Int) : (s_bound_Of_Quanta L).run [.int .i64 a0, .int .i64 a1] = (p_bound_Of_Quanta L a0 a1).map fun r => [.agg 43 [.int .i64 r.1, .int .i64 r.2.1, .bool r.2.2]] := specP_run (cCons (cI .i64) (cCons (cI .i64) cNil)) (fun x => p_bound_Of_Quanta L x.1 x.2.1) (fun r => [.agg 43 [.int .i64 r.1, .int .i64 r.2.1, .bool r.2.2]]) (a0, a1, ())
theorem ok_bound_Of_Quanta (L : Nat) (hL : L ≤ 4611686018427387904) : SpecOk Try.prog 65 (s_bound_Of_Quanta L) := specP_ok mixed (Go_bound_Of_Quanta L hL) (To_bound_Of_Quanta L) fun x r h => ⟨L, 1, e_bound_Of_Quanta L hL x.1 x.2.1 r h⟩
end Go.Proofs.Ytjplkbeolakbjaa.P
end
section
set_option linter.unusedVariables false
set_option linter.unusedSimpArgs false
set_option maxRecDepth 100000
namespace Go.Proofs.Ytjplkbeolakbjaa.E
open Go.Ev
noncomputable def en120 : Entry := ⟨Try.f120, [(1000000, mb 13 0 [4])]⟩
theorem mk120_1000000 (vs : List V) : mask (maskOf en120.ms 1000000) vs = km 13 0 [4] vs := mask_mb _ _ _ _
end Go.Proofs.Ytjplkbeolakbjaa.E
end
section
set_option linter.unusedVariables false
set_option linter.unusedSimpArgs false
set_option maxRecDepth 100000
namespace Go.Proofs.Ytjplkbeolakbjaa.P
open Go.Ev Go.IntKind Go.Proofs.Ytjplkbeolakbjaa Go.Proofs.Ytjplkbeolakbjaa.Ty Go.Proofs.Ytjplkbeolakbjaa.E
def p_bound_vague_Quanta (L : Nat) (a0_0 : Int) (a0_1 : Int) (a0_2 : Bool) (a1_0 : Int) (a1_1 : Int) (a1_2 : Bool) : Option Bool := bnd (p_bound_Norm_Quanta L a0_0 a0_1 a0_2) fun r1 => cb r1.2.2 (some true) (bnd (p_bound_Norm_Quanta L a1_0 a1_1 a1_2) fun r2 => some r2.2.2)
attribute [local go_sem] Ev.putR_s Ev.putR_0 Ev.thenO_s Ev.thenO_0 Ev.seqR_n Ev.seqR_e Ev.seqR_r Ev.seqR_0 Ev.blkR_e Ev.blkR_n Ev.blkR_r Ev.blkR_0 Ev.normR_s Ev.normR_0 Ev.outR_r Ev.outR_n Ev.outR_0 Ev.retS_s Ev.retS_0 Ev.pureO_s Ev.pureO_0 Ev.topR_0 Ev.topR_t Ev.topR_t0 Ev.oneL_0 Ev.oneL_s Ev.topR_d Ev.topR_nils Ev.topR_agg Ev.topR_rs Ev.evOp_move Ev.evOp_assign Ev.evOp_pick Ev.evOp_alloc Ev.evOp_box Ev.evOp_build Ev.evOp_buildSlice Ev.evOp_load Ev.evOp_store Ev.evOp_makeMap Ev.evOp_lookup Ev.evOp_mapUpdate Ev.evOp_insert Ev.evOp_nilCheck Ev.evOp_binOp Ev.evOp_unOp Ev.evOp_convert Ev.evOp_makeFunc Ev.evOp_makeSlice Ev.evOp_slice Ev.evOp_fieldAddr Ev.evOp_field Ev.evOp_indexAddr Ev.evOp_index Ev.evOp_extract Ev.evOp_call Ev.evOp_append Ev.evOp_clear Ev.evOp_len Ev.evOp_min Ev.evOp_max Ev.condR_b Ev.condR_t Ev.evOps_nil Ev.evOps_plain Ev.evOps_guard Ev.runG_eq Ev.skipG_eq Ev.condL_tt Ev.condL_ff Ev.condL_tf Ev.condL_ft Ev.condL_u Ev.condC_t Ev.condC_f Ev.evC_skip Ev.evC_ret Ev.evC_exit Ev.evC_label Ev.evC_region Ev.evC_draw Ev.evC_seq Ev.evC_cond Ev.evC_block Ev.evC_loop Ev.fin_d Ev.fin_nils Ev.fin_agg_ Ev.fin_rs Ev.finS_s Ev.mapO_fin Ev.upd_upd Ev.argv_d Ev.argv_nils Ev.argv_agg Ev.argv_rs Ev.argv_p Ev.fk_low Ev.appendTo_nils Ev.appendTo_rs Ev.consV_d Ev.consV_agg Ev.consV_p Ev.consV_rs Ev.consV_nils Ev.consV_fn Ev.consV_und Ev.consV_jk Ev.consV_grown Ev.topR_grown Ev.len_grown Ev.consV_mp Ev.sameK_i Ev.sameK_s Ev.mget_0 Ev.mget_hit Ev.mget_miss Ev.mput_0 Ev.mput_hit Ev.mput_miss Ev.apartAll Ev.apartL Ev.apartV Ev.freeAll Ev.sel Ev.keyOfV Ev.evLookup Ev.evPut Ev.hintOk Ev.keyOk Ev.consP Ev.lookV Ev.guardV Ev.dstAt Ev.evPure Ev.evStore Ev.evBin Ev.evBinO Ev.evNil Ev.isNilC Ev.evUn Ev.evConv Ev.evSlice Ev.optI Ev.foldI Ev.capsOk Ev.noTup Ev.nth Ev.setN Ev.killAt Ev.pad Ev.V.get Ev.V.put Ev.putD Ev.newBlk Ev.upd Ev.keq Ev.empty Ev.evCall Ev.V.args Ev.argP Ev.callOf Ev.evNilP Ev.isNilP Ev.look Ev.V.view.views Ev.V.view Ev.V.toD Ev.V.toD.V.toDs Ev.V.pure.pures Ev.V.pure Ev.D.flat.flats Ev.D.flat Ev.mkAgg Ev.allD Ev.aggParts Ev.setParts Ev.setElems Ev.getPath Ev.setPath Ev.subL Ev.eqD Ev.eqD.eqDs Ev.and2 Ev.strCut Ev.evalT Ev.constT Ev.evArgs Ev.mask Ev.maskOf Ev.tableOf Ev.compT Ev.resV Ev.retV Ev.mapO Ev.allD_gl Ev.killAt_i Ev.tkOne_i Ev.hT_agg Ev.hT_vagg Ev.hT_int Ev.hT_bool Ev.hT_str Ev.hT_sl Ev.hT_ptr Ev.hT_np Ev.hT_p Ev.hT_rs Ev.hT_mp Ev.hT_nils Ev.hT_fn Ev.hT_jk Ev.hT_gl Ev.eO_sl Ev.eO_nils Ev.eO_rs Ev.eT_sl Ev.eT_rs Ev.pL_str Ev.pL_sl Ev.pL_rs Ev.pL_nils Ev.pL_min Ev.pL_max Ev.len_glB Ev.noTup_gl Ev.rowV_len Ev.rowV_nil Ev.rowV_cons Ev.rowV_append Ev.rowV_set Ev.rowV_replicate Ev.nth_row Ev.row_take Ev.row_drop Ev.toDs_row Ev.fin_row Ev.map_row Ev.map_take_ Ev.map_drop_ Ev.Bk_i Ev.GlB_0 Ev.GlB_mk Ev.gl_nil Ev.gl_cons Ev.gl_snoc Ev.gl_setN Ev.appendTo_gl Ev.consV_gl Ev.elems_gl Ev.fin_gl Ev.view_gl Ev.argv_gl Ev.topR_gl Ev.sp_z Ev.sp_0 Ev.sp_s Ev.km_z Ev.km_0 Ev.km_s Ev.beq_toList Ev.nc0 Ev.bq_t Ev.bq_f Ev.bodyN Ev.le_maxRow Int.cast_ofNat_Int IntWalk.i64_in IntWalk.u64_in IntWalk.u8_in beq_self_eq_true Bool.true_beq Bool.false_beq Bool.and_true Bool.true_and Bool.false_and Bool.and_false Bool.and_self Bool.not_true Bool.not_false Bool.not_eq_true cond_true cond_false if_true if_false and_true true_and and_self decide_true decide_false Bool.or_true Bool.true_or Bool.or_false Bool.false_or List.isEmpty List.isEmpty_nil List.size_toArray List.map List.length_map List.length_cons List.length_nil Option.map Option.bind Option.getD Option.isSome List.replicate Bool.false_eq_true implies_true false_implies forall_const Array.toList Array.isEmpty List.append List.nil_append List.cons_append List.drop_zero List.take_length List.take_succ_cons List.take_zero List.take_nil List.getElem?_map List.getElem?_cons_zero List.getElem?_cons_succ List.getElem?_nil List.append_nil eq_self Int.toNat_natCast List.length_append Nat.zero_add Nat.add_zero List.length_replicate Nat.sub_zero Option.map_some Option.map_none Int.le_refl Nat.le_refl
noncomputable def G_bound_vague_Quanta (L : Nat) : Specs := [(79, s_bound_Norm_Quanta L)]
noncomputable def T_bound_vague_Quanta : Table := tableOf [(120, en120)]
theorem Go_bound_vague_Quanta (L : Nat) (hL : L ≤ 4611686018427387904) : ∀ g s, Ev.look (G_bound_vague_Quanta L) g = some s → SpecOk Try.prog g s := (specs_cons (ok_bound_Norm_Quanta L hL) specs_nil)
theorem To_bound_vague_Quanta (L : Nat) : TableOk Try.prog ((G_bound_vague_Quanta L).map (·.1)) T_bound_vague_Quanta := (table_cons Try.func120 (by kernel_rfl) (by kernel_rfl) table_nil)
theorem lk_bound_vague_Quanta_79 (L : Nat) : Ev.look (G_bound_vague_Quanta L) 79 = some (s_bound_Norm_Quanta L) := nr rfl
attribute [local go_sem] Ty.tk4 Ty.ub4 Ty.ek4 Ty.zv4 Ty.by4 Ty.so4 Ty.tk27 Ty.ik27 Ty.ek27 Ty.zv27 Ty.by27 Ty.so27 Ty.tk43 Ty.ct43 Ty.ek43 Ty.zv43 Ty.by43 Ty.so43 Ty.k43_e E.mk120_1000000 lk_bound_vague_Quanta_79 s_bound_Norm_Quanta_run loopN loops Try.f120
theorem e_bound_vague_Quanta (L : Nat) (hL : L ≤ 4611686018427387904) (a0_0 : Int) (a0_1 : Int) (a0_2 : Bool) (a1_0 : Int) (a1_1 : Int) (a1_2 : Bool) (res : Bool) (h : p_bound_vague_Quanta L a0_0 a0_1 a0_2 a1_0 a1_1 a1_2 = some res) : evTop Try.prog (G_bound_vague_Quanta L) T_bound_vague_Quanta L 1 120 [.agg 43 [.int .i64 a0_0, .int .i64 a0_1, .bool a0_2], .agg 43 [.int .i64 a1_0, .int .i64 a1_1, .bool a1_2]] = some [.bool res] := by
  revert h
  unfold p_bound_vague_Quanta evTop
  simp only [List.map]
  rw [evF_s (fn := Try.f120) (msk := en120.ms) (hT := by rfl) (hb := by rfl)]
  refine bnd_i fun r1 c1 => ?_
  refine cb_i (fun c2 => ?_) (fun c2 => ?_)
  · rintro ⟨⟩
    simp only [go_sem, Nat.reduceAdd, Nat.reduceSub, Nat.reduceMul, Nat.reduceEqDiff, Nat.reduceBEq, Nat.reduceLT, Nat.reduceLeDiff, Nat.reducePow, Int.reduceToNat, Int.reduceLT, Int.reduceLE, Int.reduceGT, Int.reduceGE, Int.reduceEq, Int.reduceNeg, Int.reduceAdd, Int.reduceSub, Int.reduceMul, ↓reduceIte, reduceCtorEq, *]
  · refine bnd_i fun r2 c3 => ?_
    rintro ⟨⟩
    simp only [go_sem, Nat.reduceAdd, Nat.reduceSub, Nat.reduceMul, Nat.reduceEqDiff, Nat.reduceBEq, Nat.reduceLT, Nat.reduceLeDiff, Nat.reducePow, Int.reduceToNat, Int.reduceLT, Int.reduceLE, Int.reduceGT, Int.reduceGE, Int.reduceEq, Int.reduceNeg, Int.reduceAdd, Int.reduceSub, Int.reduceMul, ↓reduceIte, reduceCtorEq, *]
noncomputable def s_bound_vague_Quanta (L : Nat) : Ev.Spec := specP (cCons k43 (cCons k43 cNil)) (fun x => p_bound_vague_Quanta L x.1.1 x.1.2.1 x.1.2.2.1 x.2.1.1 x.2.1.2.1 x.2.1.2.2.1) (fun r => [.bool r])
theorem s_bound_vague_Quanta_run (L : Nat) (a0_0 : Int) (a0_1 : Int) (a0_2 : Bool) (a1_0 : Int) (a1_1 : Int) (a1_2 : Bool) : (s_bound_vague_Quanta L).run [.agg 43 [.int .i64 a0_0, .int .i64 a0_1, .bool a0_2], .agg 43 [.int .i64 a1_0, .int .i64 a1_1, .bool a1_2]] = (p_bound_vague_Quanta L a0_0 a0_1 a0_2 a1_0 a1_1 a1_2).map fun r => [.bool r] := specP_run (cCons k43 (cCons k43 cNil)) (fun x => p_bound_vague_Quanta L x.1.1 x.1.2.1 x.1.2.2.1 x.2.1.1 x.2.1.2.1 x.2.1.2.2.1) (fun r => [.bool r]) ((a0_0, a0_1, a0_2, ()), (a1_0, a1_1, a1_2, ()), ())
theorem ok_bound_vague_Quanta (L : Nat) (hL : L ≤ 4611686018427387904) : SpecOk Try.prog 120 (s_bound_vague_Quanta L) := specP_ok mixed (Go_bound_vague_Quanta L hL) (To_bound_vague_Quanta L) fun x r h => ⟨L, 1, e_bound_vague_Quanta L hL x.1.1 x.1.2.1 x.1.2.2.1 x.2.1.1 x.2.1.2.1 x.2.1.2.2.1 r h⟩
end Go.Proofs.Ytjplkbeolakbjaa.P
end
section
set_option linter.unusedVariables false
set_option linter.unusedSimpArgs false
set_option maxRecDepth 100000
namespace Go.Proofs.Ytjplkbeolakbjaa.E
open Go.Ev
noncomputable def en122 : Entry := ⟨Try.f122, [(0, mb 27 0 [1, 5, 8, 9, 10]), (1000001, mb 27 0 [5]), (1000002, mb 27 0 [1, 5, 8, 9, 10]), (1000000, mb 27 0 [4])]⟩
theorem mk122_0 (vs : List V) : mask (maskOf en122.ms 0) vs = km 27 0 [1, 5, 8, 9, 10] vs := mask_mb _ _ _ _
theorem mk122_1000001 (vs : List V) : mask (maskOf en122.ms 1000001) vs = km 27 0 [5] vs := mask_mb _ _ _ _
theorem mk122_1000002 (vs : List V) : mask (maskOf en122.ms 1000002) vs = km 27 0 [1, 5, 8, 9, 10] vs := mask_mb _ _ _ _
theorem mk122_1000000 (vs : List V) : mask (maskOf en122.ms 1000000) vs = km 27 0 [4] vs := mask_mb _ _ _ _
noncomputable def lb122_0 : Code := loopN Try.f122 0
end Go.Proofs.Ytjplkbeolakbjaa.E
end
section
set_option linter.unusedVariables false
set_option linter.unusedSimpArgs false
set_option maxRecDepth 100000
namespace Go.Proofs.Ytjplkbeolakbjaa.E
open Go.Ev
noncomputable def en131 : Entry := ⟨Try.f131, [(1000000, mb 20 0 [4])]⟩
theorem mk131_1000000 (vs : List V) : mask (maskOf en131.ms 1000000) vs = km 20 0 [4] vs := mask_mb _ _ _ _
end Go.Proofs.Ytjplkbeolakbjaa.E
end
section
set_option linter.unusedVariables false
set_option linter.unusedSimpArgs false
set_option maxRecDepth 100000
namespace Go.Proofs.Ytjplkbeolakbjaa.P
open Go.Ev Go.IntKind Go.Proofs.Ytjplkbeolakbjaa Go.Proofs.Ytjplkbeolakbjaa.Ty Go.Proofs.Ytjplkbeolakbjaa.E
def p_bound_Has_Quanta (L : Nat) (a0_0 : Int) (a0_1 : Int) (a0_2 : Bool) (a1 : Int) : Option Bool := bnd (p_bound_vague_Quanta L a0_0 a0_1 a0_2 a0_0 a0_1 a0_2) fun r1 => cb r1 (some true) (if a0_0 ≤ a1 then (some (decide (a1 ≤ a0_1))) else (some false))
attribute [local go_sem] Ev.putR_s Ev.putR_0 Ev.thenO_s Ev.thenO_0 Ev.seqR_n Ev.seqR_e Ev.seqR_r Ev.seqR_0 Ev.blkR_e Ev.blkR_n Ev.blkR_r Ev.blkR_0 Ev.normR_s Ev.normR_0 Ev.outR_r Ev.outR_n Ev.outR_0 Ev.retS_s Ev.retS_0 Ev.pureO_s Ev.pureO_0 Ev.topR_0 Ev.topR_t Ev.topR_t0 Ev.oneL_0 Ev.oneL_s Ev.topR_d Ev.topR_nils Ev.topR_agg Ev.topR_rs Ev.evOp_move Ev.evOp_assign Ev.evOp_pick Ev.evOp_alloc Ev.evOp_box Ev.evOp_build Ev.evOp_buildSlice Ev.evOp_load Ev.evOp_store Ev.evOp_makeMap Ev.evOp_lookup Ev.evOp_mapUpdate Ev.evOp_insert Ev.evOp_nilCheck Ev.evOp_binOp Ev.evOp_unOp Ev.evOp_convert Ev.evOp_makeFunc Ev.evOp_makeSlice Ev.evOp_slice Ev.evOp_fieldAddr Ev.evOp_field Ev.evOp_indexAddr Ev.evOp_index Ev.evOp_extract Ev.evOp_call Ev.evOp_append Ev.evOp_clear Ev.evOp_len Ev.evOp_min Ev.evOp_max Ev.condR_b Ev.condR_t Ev.evOps_nil Ev.evOps_plain Ev.evOps_guard Ev.runG_eq Ev.skipG_eq Ev.condL_tt Ev.condL_ff Ev.condL_tf Ev.condL_ft Ev.condL_u Ev.condC_t Ev.condC_f Ev.evC_skip Ev.evC_ret Ev.evC_exit Ev.evC_label Ev.evC_region Ev.evC_draw Ev.evC_seq Ev.evC_cond Ev.evC_block Ev.evC_loop Ev.fin_d Ev.fin_nils Ev.fin_agg_ Ev.fin_rs Ev.finS_s Ev.mapO_fin Ev.upd_upd Ev.argv_d Ev.argv_nils Ev.argv_agg Ev.argv_rs Ev.argv_p Ev.fk_low Ev.appendTo_nils Ev.appendTo_rs Ev.consV_d Ev.consV_agg Ev.consV_p Ev.consV_rs Ev.consV_nils Ev.consV_fn Ev.consV_und Ev.consV_jk Ev.consV_grown Ev.topR_grown Ev.len_grown Ev.consV_mp Ev.sameK_i Ev.sameK_s Ev.mget_0 Ev.mget_hit Ev.mget_miss Ev.mput_0 Ev.mput_hit Ev.mput_miss Ev.apartAll Ev.apartL Ev.apartV Ev.freeAll Ev.sel Ev.keyOfV Ev.evLookup Ev.evPut Ev.hintOk Ev.keyOk Ev.consP Ev.lookV Ev.guardV Ev.dstAt Ev.evPure Ev.evStore Ev.evBin Ev.evBinO Ev.evNil Ev.isNilC Ev.evUn Ev.evConv Ev.evSlice Ev.optI Ev.foldI Ev.capsOk Ev.noTup Ev.nth Ev.setN Ev.killAt Ev.pad Ev.V.get Ev.V.put Ev.putD Ev.newBlk Ev.upd Ev.keq Ev.empty Ev.evCall Ev.V.args Ev.argP Ev.callOf Ev.evNilP Ev.isNilP Ev.look Ev.V.view.views Ev.V.view Ev.V.toD Ev.V.toD.V.toDs Ev.V.pure.pures Ev.V.pure Ev.D.flat.flats Ev.D.flat Ev.mkAgg Ev.allD Ev.aggParts Ev.setParts Ev.setElems Ev.getPath Ev.setPath Ev.subL Ev.eqD Ev.eqD.eqDs Ev.and2 Ev.strCut Ev.evalT Ev.constT Ev.evArgs Ev.mask Ev.maskOf Ev.tableOf Ev.compT Ev.resV Ev.retV Ev.mapO Ev.allD_gl Ev.killAt_i Ev.tkOne_i Ev.hT_agg Ev.hT_vagg Ev.hT_int Ev.hT_bool Ev.hT_str Ev.hT_sl Ev.hT_ptr Ev.hT_np Ev.hT_p Ev.hT_rs Ev.hT_mp Ev.hT_nils Ev.hT_fn Ev.hT_jk Ev.hT_gl Ev.eO_sl Ev.eO_nils Ev.eO_rs Ev.eT_sl Ev.eT_rs Ev.pL_str Ev.pL_sl Ev.pL_rs Ev.pL_nils Ev.pL_min Ev.pL_max Ev.len_glB Ev.noTup_gl Ev.rowV_len Ev.rowV_nil Ev.rowV_cons Ev.rowV_append Ev.rowV_set Ev.rowV_replicate Ev.nth_row Ev.row_take Ev.row_drop Ev.toDs_row Ev.fin_row Ev.map_row Ev.map_take_ Ev.map_drop_ Ev.Bk_i Ev.GlB_0 Ev.GlB_mk Ev.gl_nil Ev.gl_cons Ev.gl_snoc Ev.gl_setN Ev.appendTo_gl Ev.consV_gl Ev.elems_gl Ev.fin_gl Ev.view_gl Ev.argv_gl Ev.topR_gl Ev.sp_z Ev.sp_0 Ev.sp_s Ev.km_z Ev.km_0 Ev.km_s Ev.beq_toList Ev.nc0 Ev.bq_t Ev.bq_f Ev.bodyN Ev.le_maxRow Int.cast_ofNat_Int IntWalk.i64_in IntWalk.u64_in IntWalk.u8_in beq_self_eq_true Bool.true_beq Bool.false_beq Bool.and_true Bool.true_and Bool.false_and Bool.and_false Bool.and_self Bool.not_true Bool.not_false Bool.not_eq_true cond_true cond_false if_true if_false and_true true_and and_self decide_true decide_false Bool.or_true Bool.true_or Bool.or_false Bool.false_or List.isEmpty List.isEmpty_nil List.size_toArray List.map List.length_map List.length_cons List.length_nil Option.map Option.bind Option.getD Option.isSome List.replicate Bool.false_eq_true implies_true false_implies forall_const Array.toList Array.isEmpty List.append List.nil_append List.cons_append List.drop_zero List.take_length List.take_succ_cons List.take_zero List.take_nil List.getElem?_map List.getElem?_cons_zero List.getElem?_cons_succ List.getElem?_nil List.append_nil eq_self Int.toNat_natCast List.length_append Nat.zero_add Nat.add_zero List.length_replicate Nat.sub_zero Option.map_some Option.map_none Int.le_refl Nat.le_refl
noncomputable def G_bound_Has_Quanta (L : Nat) : Specs := [(120, s_bound_vague_Quanta L)]
noncomputable def T_bound_Has_Quanta : Table := tableOf [(131, en131)]
theorem Go_bound_Has_Quanta (L : Nat) (hL : L ≤ 4611686018427387904) : ∀ g s, Ev.look (G_bound_Has_Quanta L) g = some s → SpecOk Try.prog g s := (specs_cons (ok_bound_vague_Quanta L hL) specs_nil)
theorem To_bound_Has_Quanta (L : Nat) : TableOk Try.prog ((G_bound_Has_Quanta L).map (·.1)) T_bound_Has_Quanta := (table_cons Try.func131 (by kernel_rfl) (by kernel_rfl) table_nil)
theorem lk_bound_Has_Quanta_120 (L : Nat) : Ev.look (G_bound_Has_Quanta L) 120 = some (s_bound_vague_Quanta L) := nr rfl
attribute [local go_sem] Ty.tk4 Ty.ub4 Ty.ek4 Ty.zv4 Ty.by4 Ty.so4 Ty.tk27 Ty.ik27 Ty.ek27 Ty.zv27 Ty.by27 Ty.so27 Ty.tk43 Ty.ct43 Ty.ek43 Ty.zv43 Ty.by43 Ty.so43 Ty.k43_e E.mk131_1000000 lk_bound_Has_Quanta_120 s_bound_vague_Quanta_run loopN loops Try.f131
theorem e_bound_Has_Quanta (L : Nat) (hL : L ≤ 4611686018427387904) (a0_0 : Int) (a0_1 : Int) (a0_2 : Bool) (a1 : Int) (res : Bool) (h : p_bound_Has_Quanta L a0_0 a0_1 a0_2 a1 = some res) : evTop Try.prog (G_bound_Has_Quanta L) T_bound_Has_Quanta L 1 131 [.agg 43 [.int .i64 a0_0, .int .i64 a0_1, .bool a0_2], .int .i64 a1] = some [.bool res] := by
  revert h
  unfold p_bound_Has_Quanta evTop
  simp only [List.map]
  rw [evF_s (fn := Try.f131) (msk := en131.ms) (hT := by rfl) (hb := by rfl)]
  refine bnd_i fun r1 c1 => ?_
  refine cb_i (fun c2 => ?_) (fun c2 => ?_)
  · rintro ⟨⟩
    simp only [go_sem, Nat.reduceAdd, Nat.reduceSub, Nat.reduceMul, Nat.reduceEqDiff, Nat.reduceBEq, Nat.reduceLT, Nat.reduceLeDiff, Nat.reducePow, Int.reduceToNat, Int.reduceLT, Int.reduceLE, Int.reduceGT, Int.reduceGE, Int.reduceEq, Int.reduceNeg, Int.reduceAdd, Int.reduceSub, Int.reduceMul, ↓reduceIte, reduceCtorEq, *]
  · refine ite_i (fun c3 => ?_) (fun c3 => ?_)
    · rintro ⟨⟩
      simp only [go_sem, Nat.reduceAdd, Nat.reduceSub, Nat.reduceMul, Nat.reduceEqDiff, Nat.reduceBEq, Nat.reduceLT, Nat.reduceLeDiff, Nat.reducePow, Int.reduceToNat, Int.reduceLT, Int.reduceLE, Int.reduceGT, Int.reduceGE, Int.reduceEq, Int.reduceNeg, Int.reduceAdd, Int.reduceSub, Int.reduceMul, ↓reduceIte, reduceCtorEq, *]
    · rintro ⟨⟩
      simp only [go_sem, Nat.reduceAdd, Nat.reduceSub, Nat.reduceMul, Nat.reduceEqDiff, Nat.reduceBEq, Nat.reduceLT, Nat.reduceLeDiff, Nat.reducePow, Int.reduceToNat, Int.reduceLT, Int.reduceLE, Int.reduceGT, Int.reduceGE, Int.reduceEq, Int.reduceNeg, Int.reduceAdd, Int.reduceSub, Int.reduceMul, ↓reduceIte, reduceCtorEq, *]
noncomputable def s_bound_Has_Quanta (L : Nat) : Ev.Spec := specP (cCons k43 (cCons (cI .i64) cNil)) (fun x => p_bound_Has_Quanta L x.1.1 x.1.2.1 x.1.2.2.1 x.2.1) (fun r => [.bool r])
theorem s_bound_Has_Quanta_run (L : Nat) (a0_0 : Int) (a0_1 : Int) (a0_2 : Bool) (a1 : Int) : (s_bound_Has_Quanta L).run [.agg 43 [.int .i64 a0_0, .int .i64 a0_1, .bool a0_2], .int .i64 a1] = (p_bound_Has_Quanta L a0_0 a0_1 a0_2 a1).map fun r => [.bool r] := specP_run (cCons k43 (cCons (cI .i64) cNil)) (fun x => p_bound_Has_Quanta L x.1.1 x.1.2.1 x.1.2.2.1 x.2.1) (fun r => [.bool r]) ((a0_0, a0_1, a0_2, ()), a1, ())
theorem ok_bound_Has_Quanta (L : Nat) (hL : L ≤ 4611686018427387904) : SpecOk Try.prog 131 (s_bound_Has_Quanta L) := specP_ok mixed (Go_bound_Has_Quanta L hL) (To_bound_Has_Quanta L) fun x r h => ⟨L, 1, e_bound_Has_Quanta L hL x.1.1 x.1.2.1 x.1.2.2.1 x.2.1 r h⟩
end Go.Proofs.Ytjplkbeolakbjaa.P
end
section
set_option linter.unusedVariables false
set_option linter.unusedSimpArgs false
set_option maxRecDepth 100000
namespace Go.Proofs.Ytjplkbeolakbjaa.P
open Go.Ev Go.IntKind Go.Proofs.Ytjplkbeolakbjaa Go.Proofs.Ytjplkbeolakbjaa.Ty Go.Proofs.Ytjplkbeolakbjaa.E
def p_bound_Votes_Quanta_l0 (L : Nat) (a1 : Int) : List (Int × Int × Bool × Unit) → Int → Option Int
  | [], s5 => some s5
  | x1 :: tl, s5 => bnd (p_bound_vague_Quanta L x1.1 x1.2.1 x1.2.2.1 x1.1 x1.2.1 x1.2.2.1) fun r8 => cb r8 (p_bound_Votes_Quanta_l0 L a1 tl s5) (bnd (p_bound_Has_Quanta L x1.1 x1.2.1 x1.2.2.1 a1) fun r9 => cb r9 (p_bound_Votes_Quanta_l0 L a1 tl (i64.wrap (s5 + 1))) (p_bound_Votes_Quanta_l0 L a1 tl s5))
def p_bound_Votes_Quanta (L : Nat) (a0 : List (Int × Int × Bool × Unit)) (a1 : Int) : Option Int := rq (a0.length < L) <| bnd (p_bound_Votes_Quanta_l0 L a1 a0 0) fun o10 => some o10
attribute [local go_sem] Ev.putR_s Ev.putR_0 Ev.thenO_s Ev.thenO_0 Ev.seqR_n Ev.seqR_e Ev.seqR_r Ev.seqR_0 Ev.blkR_e Ev.blkR_n Ev.blkR_r Ev.blkR_0 Ev.normR_s Ev.normR_0 Ev.outR_r Ev.outR_n Ev.outR_0 Ev.retS_s Ev.retS_0 Ev.pureO_s Ev.pureO_0 Ev.topR_0 Ev.topR_t Ev.topR_t0 Ev.oneL_0 Ev.oneL_s Ev.topR_d Ev.topR_nils Ev.topR_agg Ev.topR_rs Ev.evOp_move Ev.evOp_assign Ev.evOp_pick Ev.evOp_alloc Ev.evOp_box Ev.evOp_build Ev.evOp_buildSlice Ev.evOp_load Ev.evOp_store Ev.evOp_makeMap Ev.evOp_lookup Ev.evOp_mapUpdate Ev.evOp_insert Ev.evOp_nilCheck Ev.evOp_binOp Ev.evOp_unOp Ev.evOp_convert Ev.evOp_makeFunc Ev.evOp_makeSlice Ev.evOp_slice Ev.evOp_fieldAddr Ev.evOp_field Ev.evOp_indexAddr Ev.evOp_index Ev.evOp_extract Ev.evOp_call Ev.evOp_append Ev.evOp_clear Ev.evOp_len Ev.evOp_min Ev.evOp_max Ev.condR_b Ev.condR_t Ev.evOps_nil Ev.evOps_plain Ev.evOps_guard Ev.runG_eq Ev.skipG_eq Ev.condL_tt Ev.condL_ff Ev.condL_tf Ev.condL_ft Ev.condL_u Ev.condC_t Ev.condC_f Ev.evC_skip Ev.evC_ret Ev.evC_exit Ev.evC_label Ev.evC_region Ev.evC_draw Ev.evC_seq Ev.evC_cond Ev.evC_block Ev.evC_loop Ev.fin_d Ev.fin_nils Ev.fin_agg_ Ev.fin_rs Ev.finS_s Ev.mapO_fin Ev.upd_upd Ev.argv_d Ev.argv_nils Ev.argv_agg Ev.argv_rs Ev.argv_p Ev.fk_low Ev.appendTo_nils Ev.appendTo_rs Ev.consV_d Ev.consV_agg Ev.consV_p Ev.consV_rs Ev.consV_nils Ev.consV_fn Ev.consV_und Ev.consV_jk Ev.consV_grown Ev.topR_grown Ev.len_grown Ev.consV_mp Ev.sameK_i Ev.sameK_s Ev.mget_0 Ev.mget_hit Ev.mget_miss Ev.mput_0 Ev.mput_hit Ev.mput_miss Ev.apartAll Ev.apartL Ev.apartV Ev.freeAll Ev.sel Ev.keyOfV Ev.evLookup Ev.evPut Ev.hintOk Ev.keyOk Ev.consP Ev.lookV Ev.guardV Ev.dstAt Ev.evPure Ev.evStore Ev.evBin Ev.evBinO Ev.evNil Ev.isNilC Ev.evUn Ev.evConv Ev.evSlice Ev.optI Ev.foldI Ev.capsOk Ev.noTup Ev.nth Ev.setN Ev.killAt Ev.pad Ev.V.get Ev.V.put Ev.putD Ev.newBlk Ev.upd Ev.keq Ev.empty Ev.evCall Ev.V.args Ev.argP Ev.callOf Ev.evNilP Ev.isNilP Ev.look Ev.V.view.views Ev.V.view Ev.V.toD Ev.V.toD.V.toDs Ev.V.pure.pures Ev.V.pure Ev.D.flat.flats Ev.D.flat Ev.mkAgg Ev.allD Ev.aggParts Ev.setParts Ev.setElems Ev.getPath Ev.setPath Ev.subL Ev.eqD Ev.eqD.eqDs Ev.and2 Ev.strCut Ev.evalT Ev.constT Ev.evArgs Ev.mask Ev.maskOf Ev.tableOf Ev.compT Ev.resV Ev.retV Ev.mapO Ev.allD_gl Ev.killAt_i Ev.tkOne_i Ev.hT_agg Ev.hT_vagg Ev.hT_int Ev.hT_bool Ev.hT_str Ev.hT_sl Ev.hT_ptr Ev.hT_np Ev.hT_p Ev.hT_rs Ev.hT_mp Ev.hT_nils Ev.hT_fn Ev.hT_jk Ev.hT_gl Ev.eO_sl Ev.eO_nils Ev.eO_rs Ev.eT_sl Ev.eT_rs Ev.pL_str Ev.pL_sl Ev.pL_rs Ev.pL_nils Ev.pL_min Ev.pL_max Ev.len_glB Ev.noTup_gl Ev.rowV_len Ev.rowV_nil Ev.rowV_cons Ev.rowV_append Ev.rowV_set Ev.rowV_replicate Ev.nth_row Ev.row_take Ev.row_drop Ev.toDs_row Ev.fin_row Ev.map_row Ev.map_take_ Ev.map_drop_ Ev.Bk_i Ev.GlB_0 Ev.GlB_mk Ev.gl_nil Ev.gl_cons Ev.gl_snoc Ev.gl_setN Ev.appendTo_gl Ev.consV_gl Ev.elems_gl Ev.fin_gl Ev.view_gl Ev.argv_gl Ev.topR_gl Ev.sp_z Ev.sp_0 Ev.sp_s Ev.km_z Ev.km_0 Ev.km_s Ev.beq_toList Ev.nc0 Ev.bq_t Ev.bq_f Ev.bodyN Ev.le_maxRow Int.cast_ofNat_Int IntWalk.i64_in IntWalk.u64_in IntWalk.u8_in beq_self_eq_true Bool.true_beq Bool.false_beq Bool.and_true Bool.true_and Bool.false_and Bool.and_false Bool.and_self Bool.not_true Bool.not_false Bool.not_eq_true cond_true cond_false if_true if_false and_true true_and and_self decide_true decide_false Bool.or_true Bool.true_or Bool.or_false Bool.false_or List.isEmpty List.isEmpty_nil List.size_toArray List.map List.length_map List.length_cons List.length_nil Option.map Option.bind Option.getD Option.isSome List.replicate Bool.false_eq_true implies_true false_implies forall_const Array.toList Array.isEmpty List.append List.nil_append List.cons_append List.drop_zero List.take_length List.take_succ_cons List.take_zero List.take_nil List.getElem?_map List.getElem?_cons_zero List.getElem?_cons_succ List.getElem?_nil List.append_nil eq_self Int.toNat_natCast List.length_append Nat.zero_add Nat.add_zero List.length_replicate Nat.sub_zero Option.map_some Option.map_none Int.le_refl Nat.le_refl
noncomputable def G_bound_Votes_Quanta (L : Nat) : Specs := [(120, s_bound_vague_Quanta L), (131, s_bound_Has_Quanta L)]
noncomputable def T_bound_Votes_Quanta : Table := tableOf [(122, en122)]
theorem Go_bound_Votes_Quanta (L : Nat) (hL : L ≤ 4611686018427387904) : ∀ g s, Ev.look (G_bound_Votes_Quanta L) g = some s → SpecOk Try.prog g s := (specs_cons (ok_bound_vague_Quanta L hL) (specs_cons (ok_bound_Has_Quanta L hL) specs_nil))
theorem To_bound_Votes_Quanta (L : Nat) : TableOk Try.prog ((G_bound_Votes_Quanta L).map (·.1)) T_bound_Votes_Quanta := (table_cons Try.func122 (by kernel_rfl) (by kernel_rfl) table_nil)
theorem lk_bound_Votes_Quanta_120 (L : Nat) : Ev.look (G_bound_Votes_Quanta L) 120 = some (s_bound_vague_Quanta L) := nr rfl
theorem lk_bound_Votes_Quanta_131 (L : Nat) : Ev.look (G_bound_Votes_Quanta L) 131 = some (s_bound_Has_Quanta L) := nr rfl
attribute [local go_sem] Ty.tk3 Ty.ik3 Ty.ek3 Ty.zv3 Ty.by3 Ty.so3 Ty.tk4 Ty.ub4 Ty.ek4 Ty.zv4 Ty.by4 Ty.so4 Ty.tk27 Ty.ik27 Ty.ek27 Ty.zv27 Ty.by27 Ty.so27 Ty.tk35 Ty.zv35 Ty.by35 Ty.so35 Ty.tk43 Ty.ct43 Ty.ek43 Ty.zv43 Ty.by43 Ty.so43 Ty.k35_e Ty.k43_e E.mk122_0 E.mk122_1000001 E.mk122_1000002 E.mk122_1000000 E.lb122_0 lk_bound_Votes_Quanta_120 lk_bound_Votes_Quanta_131 s_bound_vague_Quanta_run s_bound_Has_Quanta_run loopN loops Try.f122
def Q0_p_bound_Votes_Quanta_l0 (a1 : Int) (a0 : List (Int × Int × Bool × Unit)) (u : Int) (z : Out) : Prop := ∃ env st, z = some (.exit 0, env, st) ∧ env = sp 27 0 [(5, .d (.int .i64 u))]
abbrev Q_p_bound_Votes_Quanta_l0 (a1 : Int) (a0 : List (Int × Int × Bool × Unit)) (o : Int) (z : Out) : Prop := Q0_p_bound_Votes_Quanta_l0 a1 a0 o z
theorem l_p_bound_Votes_Quanta_l0 (L : Nat) (hL : L ≤ 4611686018427387904) (a1 : Int) (a0 : List (Int × Int × Bool × Unit)) : ∀ (tl : List (Int × Int × Bool × Unit)) (n : Nat) (s2 : Int) (s5 : Int) (env : List V) (st : Store) (o : Int), tl.length < n → Rng a0 s2 tl → mask (maskOf en122.ms 0) env = sp 27 0 [(1, .d (.int .i64 a1)), (5, .d (.int .i64 s5)), (8, .d (.sl 43 (a0.map k43.e))), (9, .d (.int .i64 (a0.length : Int))), (10, .d (.int .i64 s2))] → p_bound_Votes_Quanta_l0 L a1 tl s5 = some o →
    Q_p_bound_Votes_Quanta_l0 a1 a0 o (iter (evC Try.prog (G_bound_Votes_Quanta L) (evF Try.prog (G_bound_Votes_Quanta L) T_bound_Votes_Quanta L 0) L en122.ms 0 0 lb122_0) (maskOf en122.ms 0) n env st) := by
  intro tl
  induction tl with
  | nil =>
    intro n s2 s5 env st o hn hR he  h
    obtain ⟨n, rfl⟩ : ∃ m, n = m + 1 := ⟨n - 1, by omega⟩
    have g0 := rng_nil hR
    rw [iter, he]
    clear he
    generalize hK : iter _ _ n = K
    rw [p_bound_Votes_Quanta_l0] at h
    revert h
    rintro ⟨⟩
    simp only [go_sem, Nat.reduceAdd, Nat.reduceSub, Nat.reduceMul, Nat.reduceEqDiff, Nat.reduceBEq, Nat.reduceLT, Nat.reduceLeDiff, Nat.reducePow, Int.reduceToNat, Int.reduceLT, Int.reduceLE, Int.reduceGT, Int.reduceGE, Int.reduceEq, Int.reduceNeg, Int.reduceAdd, Int.reduceSub, Int.reduceMul, ↓reduceIte, reduceCtorEq, *]
    refine (⟨_, _, rfl, ?_⟩ : Q0_p_bound_Votes_Quanta_l0 a1 a0 _ _)
    all_goals simp only [go_sem, Nat.reduceAdd, Nat.reduceSub, Nat.reduceMul, Nat.reduceEqDiff, Nat.reduceBEq, Nat.reduceLT, Nat.reduceLeDiff, Nat.reducePow, Int.reduceToNat, Int.reduceLT, Int.reduceLE, Int.reduceGT, Int.reduceGE, Int.reduceEq, Int.reduceNeg, Int.reduceAdd, Int.reduceSub, Int.reduceMul, ↓reduceIte, reduceCtorEq, *]
  | cons x1 tl ih =>
    intro n s2 s5 env st o hn hR he  h
    obtain ⟨n, rfl⟩ : ∃ m, n = m + 1 := ⟨n - 1, by omega⟩
    replace ih : Hold _ := ih
    replace hR := rng_s hR
    obtain ⟨g0, g1, g2, g3, hR⟩ := hR
    rw [iter, he]
    clear he
    generalize hK : iter _ _ n = K
    rw [p_bound_Votes_Quanta_l0] at h
    revert h
    refine bnd_i fun r8 c1 => ?_
    refine cb_i (fun c2 => ?_) (fun c2 => ?_)
    · intro h
      simp only [go_sem, Nat.reduceAdd, Nat.reduceSub, Nat.reduceMul, Nat.reduceEqDiff, Nat.reduceBEq, Nat.reduceLT, Nat.reduceLeDiff, Nat.reducePow, Int.reduceToNat, Int.reduceLT, Int.reduceLE, Int.reduceGT, Int.reduceGE, Int.reduceEq, Int.reduceNeg, Int.reduceAdd, Int.reduceSub, Int.reduceMul, ↓reduceIte, reduceCtorEq, *]
      subst hK
      refine ih n (s2 + 1) s5 _ _ _ (by simp only [List.length_cons] at hn; omega) hR ?_ h
      all_goals simp only [go_sem, Nat.reduceAdd, Nat.reduceSub, Nat.reduceMul, Nat.reduceEqDiff, Nat.reduceBEq, Nat.reduceLT, Nat.reduceLeDiff, Nat.reducePow, Int.reduceToNat, Int.reduceLT, Int.reduceLE, Int.reduceGT, Int.reduceGE, Int.reduceEq, Int.reduceNeg, Int.reduceAdd, Int.reduceSub, Int.reduceMul, ↓reduceIte, reduceCtorEq, *]
    · refine bnd_i fun r9 c3 => ?_
      refine cb_i (fun c4 => ?_) (fun c4 => ?_)
      · intro h
        simp only [go_sem, Nat.reduceAdd, Nat.reduceSub, Nat.reduceMul, Nat.reduceEqDiff, Nat.reduceBEq, Nat.reduceLT, Nat.reduceLeDiff, Nat.reducePow, Int.reduceToNat, Int.reduceLT, Int.reduceLE, Int.reduceGT, Int.reduceGE, Int.reduceEq, Int.reduceNeg, Int.reduceAdd, Int.reduceSub, Int.reduceMul, ↓reduceIte, reduceCtorEq, *]
        subst hK
        refine ih n (s2 + 1) (i64.wrap (s5 + 1)) _ _ _ (by simp only [List.length_cons] at hn; omega) hR ?_ h
        all_goals simp only [go_sem, Nat.reduceAdd, Nat.reduceSub, Nat.reduceMul, Nat.reduceEqDiff, Nat.reduceBEq, Nat.reduceLT, Nat.reduceLeDiff, Nat.reducePow, Int.reduceToNat, Int.reduceLT, Int.reduceLE, Int.reduceGT, Int.reduceGE, Int.reduceEq, Int.reduceNeg, Int.reduceAdd, Int.reduceSub, Int.reduceMul, ↓reduceIte, reduceCtorEq, *]
      · intro h
        simp only [go_sem, Nat.reduceAdd, Nat.reduceSub, Nat.reduceMul, Nat.reduceEqDiff, Nat.reduceBEq, Nat.reduceLT, Nat.reduceLeDiff, Nat.reducePow, Int.reduceToNat, Int.reduceLT, Int.reduceLE, Int.reduceGT, Int.reduceGE, Int.reduceEq, Int.reduceNeg, Int.reduceAdd, Int.reduceSub, Int.reduceMul, ↓reduceIte, reduceCtorEq, *]
        subst hK
        refine ih n (s2 + 1) s5 _ _ _ (by simp only [List.length_cons] at hn; omega) hR ?_ h
        all_goals simp only [go_sem, Nat.reduceAdd, Nat.reduceSub, Nat.reduceMul, Nat.reduceEqDiff, Nat.reduceBEq, Nat.reduceLT, Nat.reduceLeDiff, Nat.reducePow, Int.reduceToNat, Int.reduceLT, Int.reduceLE, Int.reduceGT, Int.reduceGE, Int.reduceEq, Int.reduceNeg, Int.reduceAdd, Int.reduceSub, Int.reduceMul, ↓reduceIte, reduceCtorEq, *]
theorem e_bound_Votes_Quanta (L : Nat) (hL : L ≤ 4611686018427387904) (a0 : List (Int × Int × Bool × Unit)) (a1 : Int) (res : Int) (h : p_bound_Votes_Quanta L a0 a1 = some res) : evTop Try.prog (G_bound_Votes_Quanta L) T_bound_Votes_Quanta L 1 122 [.sl 43 (a0.map k43.e), .int .i64 a1] = some [.int .i64 res] := by
  revert h
  unfold p_bound_Votes_Quanta evTop
  simp only [List.map]
  rw [evF_s (fn := Try.f122) (msk := en122.ms) (hT := by rfl) (hb := by rfl)]
  refine rq_i fun c1 => ?_
  refine bnd_i fun o10 ho2 => ?_
  intro h
  simp only [go_sem, Nat.reduceAdd, Nat.reduceSub, Nat.reduceMul, Nat.reduceEqDiff, Nat.reduceBEq, Nat.reduceLT, Nat.reduceLeDiff, Nat.reducePow, Int.reduceToNat, Int.reduceLT, Int.reduceLE, Int.reduceGT, Int.reduceGE, Int.reduceEq, Int.reduceNeg, Int.reduceAdd, Int.reduceSub, Int.reduceMul, ↓reduceIte, reduceCtorEq, *]
  generalize hz4 : iter _ _ _ _ _ = z3
  have hq5 : Q_p_bound_Votes_Quanta_l0 a1 a0 o10 z3 := by
    rw [← hz4]
    refine l_p_bound_Votes_Quanta_l0 L hL a1 a0 a0 L 0 0 _ _ _ c1 (rng_0 c1 hL) ?_ ho2
    all_goals simp only [go_sem, Nat.reduceAdd, Nat.reduceSub, Nat.reduceMul, Nat.reduceEqDiff, Nat.reduceBEq, Nat.reduceLT, Nat.reduceLeDiff, Nat.reducePow, Int.reduceToNat, Int.reduceLT, Int.reduceLE, Int.reduceGT, Int.reduceGE, Int.reduceEq, Int.reduceNeg, Int.reduceAdd, Int.reduceSub, Int.reduceMul, ↓reduceIte, reduceCtorEq, *]
  clear hz4 ho2
  obtain ⟨_, st11, rfl, rfl⟩ := hq5
  revert h
  rintro ⟨⟩
  simp only [go_sem, Nat.reduceAdd, Nat.reduceSub, Nat.reduceMul, Nat.reduceEqDiff, Nat.reduceBEq, Nat.reduceLT, Nat.reduceLeDiff, Nat.reducePow, Int.reduceToNat, Int.reduceLT, Int.reduceLE, Int.reduceGT, Int.reduceGE, Int.reduceEq, Int.reduceNeg, Int.reduceAdd, Int.reduceSub, Int.reduceMul, ↓reduceIte, reduceCtorEq, *]
noncomputable def s_bound_Votes_Quanta (L : Nat) : Ev.Spec := specP (cCons k35 (cCons (cI .i64) cNil)) (fun x => p_bound_Votes_Quanta L x.1 x.2.1) (fun r => [.int .i64 r])
theorem s_bound_Votes_Quanta_run (L : Nat) (a0 : List (Int × Int × Bool × Unit)) (a1 : Int) : (s_bound_Votes_Quanta L).run [.sl 43 (a0.map k43.e), .int .i64 a1] = (p_bound_Votes_Quanta L a0 a1).map fun r => [.int .i64 r] := specP_run (cCons k35 (cCons (cI .i64) cNil)) (fun x => p_bound_Votes_Quanta L x.1 x.2.1) (fun r => [.int .i64 r]) (a0, a1, ())
theorem ok_bound_Votes_Quanta (L : Nat) (hL : L ≤ 4611686018427387904) : SpecOk Try.prog 122 (s_bound_Votes_Quanta L) := specP_ok mixed (Go_bound_Votes_Quanta L hL) (To_bound_Votes_Quanta L) fun x r h => ⟨L, 1, e_bound_Votes_Quanta L hL x.1 x.2.1 r h⟩
end Go.Proofs.Ytjplkbeolakbjaa.P
end
section
set_option linter.unusedVariables false
set_option linter.unusedSimpArgs false
set_option maxRecDepth 100000
namespace Go.Proofs.Ytjplkbeolakbjaa.E
open Go.Ev
noncomputable def en124 : Entry := ⟨Try.f124, [(0, mb 25 0 [0, 3, 4]), (1000001, mb 25 0 [3]), (1000002, mb 25 0 [0, 3, 4]), (1000000, mb 25 0 [2])]⟩
theorem mk124_0 (vs : List V) : mask (maskOf en124.ms 0) vs = km 25 0 [0, 3, 4] vs := mask_mb _ _ _ _
theorem mk124_1000001 (vs : List V) : mask (maskOf en124.ms 1000001) vs = km 25 0 [3] vs := mask_mb _ _ _ _
theorem mk124_1000002 (vs : List V) : mask (maskOf en124.ms 1000002) vs = km 25 0 [0, 3, 4] vs := mask_mb _ _ _ _
theorem mk124_1000000 (vs : List V) : mask (maskOf en124.ms 1000000) vs = km 25 0 [2] vs := mask_mb _ _ _ _
noncomputable def lb124_0 : Code := loopN Try.f124 0
end Go.Proofs.Ytjplkbeolakbjaa.E
end
section
set_option linter.unusedVariables false
set_option linter.unusedSimpArgs false
set_option maxRecDepth 100000
namespace Go.Proofs.Ytjplkbeolakbjaa.P
open Go.Ev Go.IntKind Go.Proofs.Ytjplkbeolakbjaa Go.Proofs.Ytjplkbeolakbjaa.Ty Go.Proofs.Ytjplkbeolakbjaa.E
def p_slices_Min_Quanta_l0 (L : Nat) (a0 : List Int) : Nat → Int → Int → Option Int
  | 0, _, _ => none
  | tl + 1, s4, s5 => if s5 < (a0.length : Int) then (bnd (idx a0 s5) fun x7 => p_slices_Min_Quanta_l0 L a0 tl (minI s4 x7) (i64.wrap (s5 + 1))) else (some s4)
def p_slices_Min_Quanta (L : Nat) (a0 : List Int) : Option Int := if (a0.length : Int) < 1 then (none) else (bnd (idx a0 0) fun x1 => bnd (p_slices_Min_Quanta_l0 L a0 L x1 1) fun o8 => some o8)
attribute [local go_sem] Ev.putR_s Ev.putR_0 Ev.thenO_s Ev.thenO_0 Ev.seqR_n Ev.seqR_e Ev.seqR_r Ev.seqR_0 Ev.blkR_e Ev.blkR_n Ev.blkR_r Ev.blkR_0 Ev.normR_s Ev.normR_0 Ev.outR_r Ev.outR_n Ev.outR_0 Ev.retS_s Ev.retS_0 Ev.pureO_s Ev.pureO_0 Ev.topR_0 Ev.topR_t Ev.topR_t0 Ev.oneL_0 Ev.oneL_s Ev.topR_d Ev.topR_nils Ev.topR_agg Ev.topR_rs Ev.evOp_move Ev.evOp_assign Ev.evOp_pick Ev.evOp_alloc Ev.evOp_box Ev.evOp_build Ev.evOp_buildSlice Ev.evOp_load Ev.evOp_store Ev.evOp_makeMap Ev.evOp_lookup Ev.evOp_mapUpdate Ev.evOp_insert Ev.evOp_nilCheck Ev.evOp_binOp Ev.evOp_unOp Ev.evOp_convert Ev.evOp_makeFunc Ev.evOp_makeSlice Ev.evOp_slice Ev.evOp_fieldAddr Ev.evOp_field Ev.evOp_indexAddr Ev.evOp_index Ev.evOp_extract Ev.evOp_call Ev.evOp_append Ev.evOp_clear Ev.evOp_len Ev.evOp_min Ev.evOp_max Ev.condR_b Ev.condR_t Ev.evOps_nil Ev.evOps_plain Ev.evOps_guard Ev.runG_eq Ev.skipG_eq Ev.condL_tt Ev.condL_ff Ev.condL_tf Ev.condL_ft Ev.condL_u Ev.condC_t Ev.condC_f Ev.evC_skip Ev.evC_ret Ev.evC_exit Ev.evC_label Ev.evC_region Ev.evC_draw Ev.evC_seq Ev.evC_cond Ev.evC_block Ev.evC_loop Ev.fin_d Ev.fin_nils Ev.fin_agg_ Ev.fin_rs Ev.finS_s Ev.mapO_fin Ev.upd_upd Ev.argv_d Ev.argv_nils Ev.argv_agg Ev.argv_rs Ev.argv_p Ev.fk_low Ev.appendTo_nils Ev.appendTo_rs Ev.consV_d Ev.consV_agg Ev.consV_p Ev.consV_rs Ev.consV_nils Ev.consV_fn Ev.consV_und Ev.consV_jk Ev.consV_grown Ev.topR_grown Ev.len_grown Ev.consV_mp Ev.sameK_i Ev.sameK_s Ev.mget_0 Ev.mget_hit Ev.mget_miss Ev.mput_0 Ev.mput_hit Ev.mput_miss Ev.apartAll Ev.apartL Ev.apartV Ev.freeAll Ev.sel Ev.keyOfV Ev.evLookup Ev.evPut Ev.hintOk Ev.keyOk Ev.consP Ev.lookV Ev.guardV Ev.dstAt Ev.evPure Ev.evStore Ev.evBin Ev.evBinO Ev.evNil Ev.isNilC Ev.evUn Ev.evConv Ev.evSlice Ev.optI Ev.foldI Ev.capsOk Ev.noTup Ev.nth Ev.setN Ev.killAt Ev.pad Ev.V.get Ev.V.put Ev.putD Ev.newBlk Ev.upd Ev.keq Ev.empty Ev.evCall Ev.V.args Ev.argP Ev.callOf Ev.evNilP Ev.isNilP Ev.look Ev.V.view.views Ev.V.view Ev.V.toD Ev.V.toD.V.toDs Ev.V.pure.pures Ev.V.pure Ev.D.flat.flats Ev.D.flat Ev.mkAgg Ev.allD Ev.aggParts Ev.setParts Ev.setElems Ev.getPath Ev.setPath Ev.subL Ev.eqD Ev.eqD.eqDs Ev.and2 Ev.strCut Ev.evalT Ev.constT Ev.evArgs Ev.mask Ev.maskOf Ev.tableOf Ev.compT Ev.resV Ev.retV Ev.mapO Ev.allD_gl Ev.killAt_i Ev.tkOne_i Ev.hT_agg Ev.hT_vagg Ev.hT_int Ev.hT_bool Ev.hT_str Ev.hT_sl Ev.hT_ptr Ev.hT_np Ev.hT_p Ev.hT_rs Ev.hT_mp Ev.hT_nils Ev.hT_fn Ev.hT_jk Ev.hT_gl Ev.eO_sl Ev.eO_nils Ev.eO_rs Ev.eT_sl Ev.eT_rs Ev.pL_str Ev.pL_sl Ev.pL_rs Ev.pL_nils Ev.pL_min Ev.pL_max Ev.len_glB Ev.noTup_gl Ev.rowV_len Ev.rowV_nil Ev.rowV_cons Ev.rowV_append Ev.rowV_set Ev.rowV_replicate Ev.nth_row Ev.row_take Ev.row_drop Ev.toDs_row Ev.fin_row Ev.map_row Ev.map_take_ Ev.map_drop_ Ev.Bk_i Ev.GlB_0 Ev.GlB_mk Ev.gl_nil Ev.gl_cons Ev.gl_snoc Ev.gl_setN Ev.appendTo_gl Ev.consV_gl Ev.elems_gl Ev.fin_gl Ev.view_gl Ev.argv_gl Ev.topR_gl Ev.sp_z Ev.sp_0 Ev.sp_s Ev.km_z Ev.km_0 Ev.km_s Ev.beq_toList Ev.nc0 Ev.bq_t Ev.bq_f Ev.bodyN Ev.le_maxRow Int.cast_ofNat_Int IntWalk.i64_in IntWalk.u64_in IntWalk.u8_in beq_self_eq_true Bool.true_beq Bool.false_beq Bool.and_true Bool.true_and Bool.false_and Bool.and_false Bool.and_self Bool.not_true Bool.not_false Bool.not_eq_true cond_true cond_false if_true if_false and_true true_and and_self decide_true decide_false Bool.or_true Bool.true_or Bool.or_false Bool.false_or List.isEmpty List.isEmpty_nil List.size_toArray List.map List.length_map List.length_cons List.length_nil Option.map Option.bind Option.getD Option.isSome List.replicate Bool.false_eq_true implies_true false_implies forall_const Array.toList Array.isEmpty List.append List.nil_append List.cons_append List.drop_zero List.take_length List.take_succ_cons List.take_zero List.take_nil List.getElem?_map List.getElem?_cons_zero List.getElem?_cons_succ List.getElem?_nil List.append_nil eq_self Int.toNat_natCast List.length_append Nat.zero_add Nat.add_zero List.length_replicate Nat.sub_zero Option.map_some Option.map_none Int.le_refl Nat.le_refl
noncomputable def G_slices_Min_Quanta (L : Nat) : Specs := []
noncomputable def T_slices_Min_Quanta : Table := tableOf [(124, en124)]
theorem Go_slices_Min_Quanta (L : Nat) (hL : L ≤ 4611686018427387904) : ∀ g s, Ev.look (G_slices_Min_Quanta L) g = some s → SpecOk Try.prog g s := specs_nil
theorem To_slices_Min_Quanta (L : Nat) : TableOk Try.prog ((G_slices_Min_Quanta L).map (·.1)) T_slices_Min_Quanta := (table_cons Try.func124 (by kernel_rfl) (by kernel_rfl) table_nil)
attribute [local go_sem] Ty.tk3 Ty.ik3 Ty.ek3 Ty.zv3 Ty.by3 Ty.so3 Ty.tk4 Ty.ub4 Ty.ek4 Ty.zv4 Ty.by4 Ty.so4 Ty.tk20 Ty.by20 Ty.so20 Ty.tk27 Ty.ik27 Ty.ek27 Ty.zv27 Ty.by27 Ty.so27 Ty.tk73 Ty.zv73 Ty.by73 Ty.so73 Ty.k73_e E.mk124_0 E.mk124_1000001 E.mk124_1000002 E.mk124_1000000 E.lb124_0 loopN loops Try.f124
def Q0_p_slices_Min_Quanta_l0 (a0 : List Int) (u : Int) (z : Out) : Prop := ∃ env st, z = some (.exit 0, env, st) ∧ env = sp 25 0 [(3, .d (.int .i64 u))]
abbrev Q_p_slices_Min_Quanta_l0 (a0 : List Int) (o : Int) (z : Out) : Prop := Q0_p_slices_Min_Quanta_l0 a0 o z
theorem l_p_slices_Min_Quanta_l0 (L : Nat) (hL : L ≤ 4611686018427387904) (a0 : List Int) : ∀ (n : Nat) (s4 : Int) (s5 : Int) (env : List V) (st : Store) (o : Int), mask (maskOf en124.ms 0) env = sp 25 0 [(0, .d (.sl 27 (a0.map (D.int .i64)))), (3, .d (.int .i64 s4)), (4, .d (.int .i64 s5))] → p_slices_Min_Quanta_l0 L a0 n s4 s5 = some o →
    Q_p_slices_Min_Quanta_l0 a0 o (iter (evC Try.prog (G_slices_Min_Quanta L) (evF Try.prog (G_slices_Min_Quanta L) T_slices_Min_Quanta L 0) L en124.ms 0 0 lb124_0) (maskOf en124.ms 0) n env st) := by
  intro n
  induction n with
  | zero => intro s4 s5 env st o he  h; cases h
  | succ n ih =>
    intro s4 s5 env st o he  h
    replace ih : Hold _ := ih
    rw [iter, he]
    clear he
    generalize hK : iter _ _ n = K
    rw [p_slices_Min_Quanta_l0] at h
    revert h
    refine ite_i (fun c1 => ?_) (fun c1 => ?_)
    · refine idx_i fun x7 c2 c3 c4 => ?_
      intro h
      simp only [go_sem, Nat.reduceAdd, Nat.reduceSub, Nat.reduceMul, Nat.reduceEqDiff, Nat.reduceBEq, Nat.reduceLT, Nat.reduceLeDiff, Nat.reducePow, Int.reduceToNat, Int.reduceLT, Int.reduceLE, Int.reduceGT, Int.reduceGE, Int.reduceEq, Int.reduceNeg, Int.reduceAdd, Int.reduceSub, Int.reduceMul, ↓reduceIte, reduceCtorEq, *]
      subst hK
      refine ih  (minI s4 x7) (i64.wrap (s5 + 1)) _ _ _ ?_ h
      all_goals simp only [go_sem, Nat.reduceAdd, Nat.reduceSub, Nat.reduceMul, Nat.reduceEqDiff, Nat.reduceBEq, Nat.reduceLT, Nat.reduceLeDiff, Nat.reducePow, Int.reduceToNat, Int.reduceLT, Int.reduceLE, Int.reduceGT, Int.reduceGE, Int.reduceEq, Int.reduceNeg, Int.reduceAdd, Int.reduceSub, Int.reduceMul, ↓reduceIte, reduceCtorEq, *]
    · rintro ⟨⟩
      simp only [go_sem, Nat.reduceAdd, Nat.reduceSub, Nat.reduceMul, Nat.reduceEqDiff, Nat.reduceBEq, Nat.reduceLT, Nat.reduceLeDiff, Nat.reducePow, Int.reduceToNat, Int.reduceLT, Int.reduceLE, Int.reduceGT, Int.reduceGE, Int.reduceEq, Int.reduceNeg, Int.reduceAdd, Int.reduceSub, Int.reduceMul, ↓reduceIte, reduceCtorEq, *]
      refine (⟨_, _, rfl, ?_⟩ : Q0_p_slices_Min_Quanta_l0 a0 _ _)
      all_goals simp only [go_sem, Nat.reduceAdd, Nat.reduceSub, Nat.reduceMul, Nat.reduceEqDiff, Nat.reduceBEq, Nat.reduceLT, Nat.reduceLeDiff, Nat.reducePow, Int.reduceToNat, Int.reduceLT, Int.reduceLE, Int.reduceGT, Int.reduceGE, Int.reduceEq, Int.reduceNeg, Int.reduceAdd, Int.reduceSub, Int.reduceMul, ↓reduceIte, reduceCtorEq, *]
theorem e_slices_Min_Quanta (L : Nat) (hL : L ≤ 4611686018427387904) (a0 : List Int) (res : Int) (h : p_slices_Min_Quanta L a0 = some res) : evTop Try.prog (G_slices_Min_Quanta L) T_slices_Min_Quanta L 1 124 [.sl 27 (a0.map (D.int .i64))] = some [.int .i64 res] := by
  revert h
  unfold p_slices_Min_Quanta evTop
  simp only [List.map]
  rw [evF_s (fn := Try.f124) (msk := en124.ms) (hT := by rfl) (hb := by rfl)]
  refine ite_i (fun c1 => ?_) (fun c1 => ?_)
  · intro h; cases h
  · refine idx_i fun x1 c2 c3 c4 => ?_
    have c4 : a0[0]? = some x1 := c4
    refine bnd_i fun o8 ho5 => ?_
    intro h
    simp only [go_sem, Nat.reduceAdd, Nat.reduceSub, Nat.reduceMul, Nat.reduceEqDiff, Nat.reduceBEq, Nat.reduceLT, Nat.reduceLeDiff, Nat.reducePow, Int.reduceToNat, Int.reduceLT, Int.reduceLE, Int.reduceGT, Int.reduceGE, Int.reduceEq, Int.reduceNeg, Int.reduceAdd, Int.reduceSub, Int.reduceMul, ↓reduceIte, reduceCtorEq, *]
    generalize hz7 : iter _ _ _ _ _ = z6
    have hq8 : Q_p_slices_Min_Quanta_l0 a0 o8 z6 := by
      rw [← hz7]
      refine l_p_slices_Min_Quanta_l0 L hL a0 L x1 1 _ _ _  ?_ ho5
      all_goals simp only [go_sem, Nat.reduceAdd, Nat.reduceSub, Nat.reduceMul, Nat.reduceEqDiff, Nat.reduceBEq, Nat.reduceLT, Nat.reduceLeDiff, Nat.reducePow, Int.reduceToNat, Int.reduceLT, Int.reduceLE, Int.reduceGT, Int.reduceGE, Int.reduceEq, Int.reduceNeg, Int.reduceAdd, Int.reduceSub, Int.reduceMul, ↓reduceIte, reduceCtorEq, *]
    clear hz7 ho5
    obtain ⟨_, st9, rfl, rfl⟩ := hq8
    revert h
    rintro ⟨⟩
    simp only [go_sem, Nat.reduceAdd, Nat.reduceSub, Nat.reduceMul, Nat.reduceEqDiff, Nat.reduceBEq, Nat.reduceLT, Nat.reduceLeDiff, Nat.reducePow, Int.reduceToNat, Int.reduceLT, Int.reduceLE, Int.reduceGT, Int.reduceGE, Int.reduceEq, Int.reduceNeg, Int.reduceAdd, Int.reduceSub, Int.reduceMul, ↓reduceIte, reduceCtorEq, *]
noncomputable def s_slices_Min_Quanta (L : Nat) : Ev.Spec := specP (cCons k73 cNil) (fun x => p_slices_Min_Quanta L x.1) (fun r => [.int .i64 r])
theorem s_slices_Min_Quanta_run (L : Nat) (a0 : List Int) : (s_slices_Min_Quanta L).run [.sl 27 (a0.map (D.int .i64))] = (p_slices_Min_Quanta L a0).map fun r => [.int .i64 r] := specP_run (cCons k73 cNil) (fun x => p_slices_Min_Quanta L x.1) (fun r => [.int .i64 r]) (a0, ())
theorem ok_slices_Min_Quanta (L : Nat) (hL : L ≤ 4611686018427387904) : SpecOk Try.prog 124 (s_slices_Min_Quanta L) := specP_ok mixed (Go_slices_Min_Quanta L hL) (To_slices_Min_Quanta L) fun x r h => ⟨L, 1, e_slices_Min_Quanta L hL x.1 r h⟩
end Go.Proofs.Ytjplkbeolakbjaa.P
end
section
set_option linter.unusedVariables false
set_option linter.unusedSimpArgs false
set_option maxRecDepth 100000
namespace Go.Proofs.Ytjplkbeolakbjaa.E
open Go.Ev
noncomputable def en125 : Entry := ⟨Try.f125, [(0, mb 25 0 [0, 3, 4]), (1000001, mb 25 0 [3]), (1000002, mb 25 0 [0, 3, 4]), (1000000, mb 25 0 [2])]⟩
theorem mk125_0 (vs : List V) : mask (maskOf en125.ms 0) vs = km 25 0 [0, 3, 4] vs := mask_mb _ _ _ _
theorem mk125_1000001 (vs : List V) : mask (maskOf en125.ms 1000001) vs = km 25 0 [3] vs := mask_mb _ _ _ _
theorem mk125_1000002 (vs : List V) : mask (maskOf en125.ms 1000002) vs = km 25 0 [0, 3, 4] vs := mask_mb _ _ _ _
theorem mk125_1000000 (vs : List V) : mask (maskOf en125.ms 1000000) vs = km 25 0 [2] vs := mask_mb _ _ _ _
noncomputable def lb125_0 : Code := loopN Try.f125 0
end Go.Proofs.Ytjplkbeolakbjaa.E
end
section
set_option linter.unusedVariables false
set_option linter.unusedSimpArgs false
set_option maxRecDepth 100000
namespace Go.Proofs.Ytjplkbeolakbjaa.P
open Go.Ev Go.IntKind Go.Proofs.Ytjplkbeolakbjaa Go.Proofs.Ytjplkbeolakbjaa.Ty Go.Proofs.Ytjplkbeolakbjaa.E
def p_slices_Max_Quanta_l0 (L : Nat) (a0 : List Int) : Nat → Int → Int → Option Int
  | 0, _, _ => none
  | tl + 1, s4, s5 => if s5 < (a0.length : Int) then (bnd (idx a0 s5) fun x7 => p_slices_Max_Quanta_l0 L a0 tl (maxI s4 x7) (i64.wrap (s5 + 1))) else (some s4)
def p_slices_Max_Quanta (L : Nat) (a0 : List Int) : Option Int := if (a0.length : Int) < 1 then (none) else (bnd (idx a0 0) fun x1 => bnd (p_slices_Max_Quanta_l0 L a0 L x1 1) fun o8 => some o8)
attribute [local go_sem] Ev.putR_s Ev.putR_0 Ev.thenO_s Ev.thenO_0 Ev.seqR_n Ev.seqR_e Ev.seqR_r Ev.seqR_0 Ev.blkR_e Ev.blkR_n Ev.blkR_r Ev.blkR_0 Ev.normR_s Ev.normR_0 Ev.outR_r Ev.outR_n Ev.outR_0 Ev.retS_s Ev.retS_0 Ev.pureO_s Ev.pureO_0 Ev.topR_0 Ev.topR_t Ev.topR_t0 Ev.oneL_0 Ev.oneL_s Ev.topR_d Ev.topR_nils Ev.topR_agg Ev.topR_rs Ev.evOp_move Ev.evOp_assign Ev.evOp_pick Ev.evOp_alloc Ev.evOp_box Ev.evOp_build Ev.evOp_buildSlice Ev.evOp_load Ev.evOp_store Ev.evOp_makeMap Ev.evOp_lookup Ev.evOp_mapUpdate Ev.evOp_insert Ev.evOp_nilCheck Ev.evOp_binOp Ev.evOp_unOp Ev.evOp_convert Ev.evOp_makeFunc Ev.evOp_makeSlice Ev.evOp_slice Ev.evOp_fieldAddr Ev.evOp_field Ev.evOp_indexAddr Ev.evOp_index Ev.evOp_extract Ev.evOp_call Ev.evOp_append Ev.evOp_clear Ev.evOp_len Ev.evOp_min Ev.evOp_max Ev.condR_b Ev.condR_t Ev.evOps_nil Ev.evOps_plain Ev.evOps_guard Ev.runG_eq Ev.skipG_eq Ev.condL_tt Ev.condL_ff Ev.condL_tf Ev.condL_ft Ev.condL_u Ev.condC_t Ev.condC_f Ev.evC_skip Ev.evC_ret Ev.evC_exit Ev.evC_label Ev.evC_region Ev.evC_draw Ev.evC_seq Ev.evC_cond Ev.evC_block Ev.evC_loop Ev.fin_d Ev.fin_nils Ev.fin_agg_ Ev.fin_rs Ev.finS_s Ev.mapO_fin Ev.upd_upd Ev.argv_d Ev.argv_nils Ev.argv_agg Ev.argv_rs Ev.argv_p Ev.fk_low Ev.appendTo_nils Ev.appendTo_rs Ev.consV_d Ev.consV_agg Ev.consV_p Ev.consV_rs Ev.consV_nils Ev.consV_fn Ev.consV_und Ev.consV_jk Ev.consV_grown Ev.topR_grown Ev.len_grown Ev.consV_mp Ev.sameK_i Ev.sameK_s Ev.mget_0 Ev.mget_hit Ev.mget_miss Ev.mput_0 Ev.mput_hit Ev.mput_miss Ev.apartAll Ev.apartL Ev.apartV Ev.freeAll Ev.sel Ev.keyOfV Ev.evLookup Ev.evPut Ev.hintOk Ev.keyOk Ev.consP Ev.lookV Ev.guardV Ev.dstAt Ev.evPure Ev.evStore Ev.evBin Ev.evBinO Ev.evNil Ev.isNilC Ev.evUn Ev.evConv Ev.evSlice Ev.optI Ev.foldI Ev.capsOk Ev.noTup Ev.nth Ev.setN Ev.killAt Ev.pad Ev.V.get Ev.V.put Ev.putD Ev.newBlk Ev.upd Ev.keq Ev.empty Ev.evCall Ev.V.args Ev.argP Ev.callOf Ev.evNilP Ev.isNilP Ev.look Ev.V.view.views Ev.V.view Ev.V.toD Ev.V.toD.V.toDs Ev.V.pure.pures Ev.V.pure Ev.D.flat.flats Ev.D.flat Ev.mkAgg Ev.allD Ev.aggParts Ev.setParts Ev.setElems Ev.getPath Ev.setPath Ev.subL Ev.eqD Ev.eqD.eqDs Ev.and2 Ev.strCut Ev.evalT Ev.constT Ev.evArgs Ev.mask Ev.maskOf Ev.tableOf Ev.compT Ev.resV Ev.retV Ev.mapO Ev.allD_gl Ev.killAt_i Ev.tkOne_i Ev.hT_agg Ev.hT_vagg Ev.hT_int Ev.hT_bool Ev.hT_str Ev.hT_sl Ev.hT_ptr Ev.hT_np Ev.hT_p Ev.hT_rs Ev.hT_mp Ev.hT_nils Ev.hT_fn Ev.hT_jk Ev.hT_gl Ev.eO_sl Ev.eO_nils Ev.eO_rs Ev.eT_sl Ev.eT_rs Ev.pL_str Ev.pL_sl Ev.pL_rs Ev.pL_nils Ev.pL_min Ev.pL_max Ev.len_glB Ev.noTup_gl Ev.rowV_len Ev.rowV_nil Ev.rowV_cons Ev.rowV_append Ev.rowV_set Ev.rowV_replicate Ev.nth_row Ev.row_take Ev.row_drop Ev.toDs_row Ev.fin_row Ev.map_row Ev.map_take_ Ev.map_drop_ Ev.Bk_i Ev.GlB_0 Ev.GlB_mk Ev.gl_nil Ev.gl_cons Ev.gl_snoc Ev.gl_setN Ev.appendTo_gl Ev.consV_gl Ev.elems_gl Ev.fin_gl Ev.view_gl Ev.argv_gl Ev.topR_gl Ev.sp_z Ev.sp_0 Ev.sp_s Ev.km_z Ev.km_0 Ev.km_s Ev.beq_toList Ev.nc0 Ev.bq_t Ev.bq_f Ev.bodyN Ev.le_maxRow Int.cast_ofNat_Int IntWalk.i64_in IntWalk.u64_in IntWalk.u8_in beq_self_eq_true Bool.true_beq Bool.false_beq Bool.and_true Bool.true_and Bool.false_and Bool.and_false Bool.and_self Bool.not_true Bool.not_false Bool.not_eq_true cond_true cond_false if_true if_false and_true true_and and_self decide_true decide_false Bool.or_true Bool.true_or Bool.or_false Bool.false_or List.isEmpty List.isEmpty_nil List.size_toArray List.map List.length_map List.length_cons List.length_nil Option.map Option.bind Option.getD Option.isSome List.replicate Bool.false_eq_true implies_true false_implies forall_const Array.toList Array.isEmpty List.append List.nil_append List.cons_append List.drop_zero List.take_length List.take_succ_cons List.take_zero List.take_nil List.getElem?_map List.getElem?_cons_zero List.getElem?_cons_succ List.getElem?_nil List.append_nil eq_self Int.toNat_natCast List.length_append Nat.zero_add Nat.add_zero List.length_replicate Nat.sub_zero Option.map_some Option.map_none Int.le_refl Nat.le_refl
noncomputable def G_slices_Max_Quanta (L : Nat) : Specs := []
noncomputable def T_slices_Max_Quanta : Table := tableOf [(125, en125)]
theorem Go_slices_Max_Quanta (L : Nat) (hL : L ≤ 4611686018427387904) : ∀ g s, Ev.look (G_slices_Max_Quanta L) g = some s → SpecOk Try.prog g s := specs_nil
theorem To_slices_Max_Quanta (L : Nat) : TableOk Try.prog ((G_slices_Max_Quanta L).map (·.1)) T_slices_Max_Quanta := (table_cons Try.func125 (by kernel_rfl) (by kernel_rfl) table_nil)
attribute [local go_sem] Ty.tk3 Ty.ik3 Ty.ek3 Ty.zv3 Ty.by3 Ty.so3 Ty.tk4 Ty.ub4 Ty.ek4 Ty.zv4 Ty.by4 Ty.so4 Ty.tk20 Ty.by20 Ty.so20 Ty.tk27 Ty.ik27 Ty.ek27 Ty.zv27 Ty.by27 Ty.so27 Ty.tk73 Ty.zv73 Ty.by73 Ty.so73 Ty.k73_e E.mk125_0 E.mk125_1000001 E.mk125_1000002 E.mk125_1000000 E.lb125_0 loopN loops Try.f125
def Q0_p_slices_Max_Quanta_l0 (a0 : List Int) (u : Int) (z : Out) : Prop := ∃ env st, z = some (.exit 0, env, st) ∧ env = sp 25 0 [(3, .d (.int .i64 u))]
abbrev Q_p_slices_Max_Quanta_l0 (a0 : List Int) (o : Int) (z : Out) : Prop := Q0_p_slices_Max_Quanta_l0 a0 o z
theorem l_p_slices_Max_Quanta_l0 (L : Nat) (hL : L ≤ 4611686018427387904) (a0 : List Int) : ∀ (n : Nat) (s4 : Int) (s5 : Int) (env : List V) (st : Store) (o : Int), mask (maskOf en125.ms 0) env = sp 25 0 [(0, .d (.sl 27 (a0.map (D.int .i64)))), (3, .d (.int .i64 s4)), (4, .d (.int .i64 s5))] → p_slices_Max_Quanta_l0 L a0 n s4 s5 = some o →
    Q_p_slices_Max_Quanta_l0 a0 o (iter (evC Try.prog (G_slices_Max_Quanta L) (evF Try.prog (G_slices_Max_Quanta L) T_slices_Max_Quanta L 0) L en125.ms 0 0 lb125_0) (maskOf en125.ms 0) n env st) := by
  intro n
  induction n with
  | zero => intro s4 s5 env st o he  h; cases h
  | succ n ih =>
    intro s4 s5 env st o he  h
    replace ih : Hold _ := ih
    rw [iter, he]
    clear he
    generalize hK : iter _ _ n = K
    rw [p_slices_Max_Quanta_l0] at h
    revert h
    refine ite_i (fun c1 => ?_) (fun c1 => ?_)
    · refine idx_i fun x7 c2 c3 c4 => ?_
      intro h
      simp only [go_sem, Nat.reduceAdd, Nat.reduceSub, Nat.reduceMul, Nat.reduceEqDiff, Nat.reduceBEq, Nat.reduceLT, Nat.reduceLeDiff, Nat.reducePow, Int.reduceToNat, Int.reduceLT, Int.reduceLE, Int.reduceGT, Int.reduceGE, Int.reduceEq, Int.reduceNeg, Int.reduceAdd, Int.reduceSub, Int.reduceMul, ↓reduceIte, reduceCtorEq, *]
      subst hK
      refine ih  (maxI s4 x7) (i64.wrap (s5 + 1)) _ _ _ ?_ h
      all_goals simp only [go_sem, Nat.reduceAdd, Nat.reduceSub, Nat.reduceMul, Nat.reduceEqDiff, Nat.reduceBEq, Nat.reduceLT, Nat.reduceLeDiff, Nat.reducePow, Int.reduceToNat, Int.reduceLT, Int.reduceLE, Int.reduceGT, Int.reduceGE, Int.reduceEq, Int.reduceNeg, Int.reduceAdd, Int.reduceSub, Int.reduceMul, ↓reduceIte, reduceCtorEq, *]
    · rintro ⟨⟩
      simp only [go_sem, Nat.reduceAdd, Nat.reduceSub, Nat.reduceMul, Nat.reduceEqDiff, Nat.reduceBEq, Nat.reduceLT, Nat.reduceLeDiff, Nat.reducePow, Int.reduceToNat, Int.reduceLT, Int.reduceLE, Int.reduceGT, Int.reduceGE, Int.reduceEq, Int.reduceNeg, Int.reduceAdd, Int.reduceSub, Int.reduceMul, ↓reduceIte, reduceCtorEq, *]
      refine (⟨_, _, rfl, ?_⟩ : Q0_p_slices_Max_Quanta_l0 a0 _ _)
      all_goals simp only [go_sem, Nat.reduceAdd, Nat.reduceSub, Nat.reduceMul, Nat.reduceEqDiff, Nat.reduceBEq, Nat.reduceLT, Nat.reduceLeDiff, Nat.reducePow, Int.reduceToNat, Int.reduceLT, Int.reduceLE, Int.reduceGT, Int.reduceGE, Int.reduceEq, Int.reduceNeg, Int.reduceAdd, Int.reduceSub, Int.reduceMul, ↓reduceIte, reduceCtorEq, *]
theorem e_slices_Max_Quanta (L : Nat) (hL : L ≤ 4611686018427387904) (a0 : List Int) (res : Int) (h : p_slices_Max_Quanta L a0 = some res) : evTop Try.prog (G_slices_Max_Quanta L) T_slices_Max_Quanta L 1 125 [.sl 27 (a0.map (D.int .i64))] = some [.int .i64 res] := by
  revert h
  unfold p_slices_Max_Quanta evTop
  simp only [List.map]
  rw [evF_s (fn := Try.f125) (msk := en125.ms) (hT := by rfl) (hb := by rfl)]
  refine ite_i (fun c1 => ?_) (fun c1 => ?_)
  · intro h; cases h
  · refine idx_i fun x1 c2 c3 c4 => ?_
    have c4 : a0[0]? = some x1 := c4
    refine bnd_i fun o8 ho5 => ?_
    intro h
    simp only [go_sem, Nat.reduceAdd, Nat.reduceSub, Nat.reduceMul, Nat.reduceEqDiff, Nat.reduceBEq, Nat.reduceLT, Nat.reduceLeDiff, Nat.reducePow, Int.reduceToNat, Int.reduceLT, Int.reduceLE, Int.reduceGT, Int.reduceGE, Int.reduceEq, Int.reduceNeg, Int.reduceAdd, Int.reduceSub, Int.reduceMul, ↓reduceIte, reduceCtorEq, *]
    generalize hz7 : iter _ _ _ _ _ = z6
    have hq8 : Q_p_slices_Max_Quanta_l0 a0 o8 z6 := by
      rw [← hz7]
      refine l_p_slices_Max_Quanta_l0 L hL a0 L x1 1 _ _ _  ?_ ho5
      all_goals simp only [go_sem, Nat.reduceAdd, Nat.reduceSub, Nat.reduceMul, Nat.reduceEqDiff, Nat.reduceBEq, Nat.reduceLT, Nat.reduceLeDiff, Nat.reducePow, Int.reduceToNat, Int.reduceLT, Int.reduceLE, Int.reduceGT, Int.reduceGE, Int.reduceEq, Int.reduceNeg, Int.reduceAdd, Int.reduceSub, Int.reduceMul, ↓reduceIte, reduceCtorEq, *]
    clear hz7 ho5
    obtain ⟨_, st9, rfl, rfl⟩ := hq8
    revert h
    rintro ⟨⟩
    simp only [go_sem, Nat.reduceAdd, Nat.reduceSub, Nat.reduceMul, Nat.reduceEqDiff, Nat.reduceBEq, Nat.reduceLT, Nat.reduceLeDiff, Nat.reducePow, Int.reduceToNat, Int.reduceLT, Int.reduceLE, Int.reduceGT, Int.reduceGE, Int.reduceEq, Int.reduceNeg, Int.reduceAdd, Int.reduceSub, Int.reduceMul, ↓reduceIte, reduceCtorEq, *]
noncomputable def s_slices_Max_Quanta (L : Nat) : Ev.Spec := specP (cCons k73 cNil) (fun x => p_slices_Max_Quanta L x.1) (fun r => [.int .i64 r])
theorem s_slices_Max_Quanta_run (L : Nat) (a0 : List Int) : (s_slices_Max_Quanta L).run [.sl 27 (a0.map (D.int .i64))] = (p_slices_Max_Quanta L a0).map fun r => [.int .i64 r] := specP_run (cCons k73 cNil) (fun x => p_slices_Max_Quanta L x.1) (fun r => [.int .i64 r]) (a0, ())
theorem ok_slices_Max_Quanta (L : Nat) (hL : L ≤ 4611686018427387904) : SpecOk Try.prog 125 (s_slices_Max_Quanta L) := specP_ok mixed (Go_slices_Max_Quanta L hL) (To_slices_Max_Quanta L) fun x r h => ⟨L, 1, e_slices_Max_Quanta L hL x.1 r h⟩
end Go.Proofs.Ytjplkbeolakbjaa.P
end
