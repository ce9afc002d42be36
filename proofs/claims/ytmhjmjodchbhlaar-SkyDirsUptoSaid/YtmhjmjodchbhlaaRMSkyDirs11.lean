/- Parts of one proof, joined: OwnRate, FxDir, FitDir, Idx131Rate. -/
import Derived.Test.YtmhjmjodchbhlaaRMSkyDirs10
import Derived.Test.YtmhjmjodchbhlaaRProg
section
set_option linter.unusedVariables false
set_option linter.unusedSimpArgs false
set_option maxRecDepth 100000
namespace Go.Proofs.YtmhjmjodchbhlaaR.OwnRate
open Go.Ev Go.Ari Go.Proofs.YtmhjmjodchbhlaaR.FxRate Go.Proofs.YtmhjmjodchbhlaaR.PullPull Go.Proofs.YtmhjmjodchbhlaaR.TypesRate Go.Proofs.YtmhjmjodchbhlaaR.FaultRate
attribute [local go_sem] Ev.putR_s Ev.putR_0 Ev.thenO_s Ev.thenO_0 Ev.seqR_n Ev.seqR_e Ev.seqR_r Ev.seqR_0 Ev.blkR_e Ev.blkR_n Ev.blkR_r Ev.blkR_0 Ev.normR_s Ev.normR_0 Ev.outR_r Ev.outR_n Ev.outR_0 Ev.retS_s Ev.retS_0 Ev.pureO_s Ev.pureO_0 Ev.topR_0 Ev.topR_t Ev.topR_t0 Ev.oneL_0 Ev.oneL_s Ev.topR_d Ev.topR_nils Ev.topR_agg Ev.topR_rs Ev.evOp_move Ev.evOp_assign Ev.evOp_pick Ev.evOp_alloc Ev.evOp_box Ev.evOp_build Ev.evOp_buildSlice Ev.evOp_load Ev.evOp_store Ev.evOp_makeMap Ev.evOp_lookup Ev.evOp_mapUpdate Ev.evOp_insert Ev.evOp_nilCheck Ev.evOp_binOp Ev.evOp_unOp Ev.evOp_convert Ev.evOp_makeFunc Ev.evOp_makeSlice Ev.evOp_slice Ev.evOp_fieldAddr Ev.evOp_field Ev.evOp_indexAddr Ev.evOp_index Ev.evOp_extract Ev.evOp_call Ev.evOp_append Ev.evOp_len Ev.evOp_min Ev.evOp_max Ev.condR_b Ev.condR_t Ev.evOps_nil Ev.evOps_plain Ev.evOps_guard Ev.runG_eq Ev.skipG_eq Ev.condL_tt Ev.condL_ff Ev.condL_tf Ev.condL_ft Ev.condL_u Ev.condC_t Ev.condC_f Ev.evC_skip Ev.evC_ret Ev.evC_exit Ev.evC_label Ev.evC_region Ev.evC_draw Ev.evC_seq Ev.evC_cond Ev.evC_block Ev.evC_loop Ev.fin_d Ev.fin_nils Ev.fin_agg_ Ev.fin_rs Ev.finS_s Ev.mapO_fin Ev.upd_upd Ev.argv_d Ev.argv_nils Ev.argv_agg Ev.argv_rs Ev.argv_p Ev.appendTo_nils Ev.appendTo_rs Ev.consV_d Ev.consV_agg Ev.consV_p Ev.consV_rs Ev.consV_nils Ev.consV_fn Ev.consV_und Ev.consV_jk Ev.consV_grown Ev.topR_grown Ev.len_grown Ev.consV_mp Ev.sameK_i Ev.sameK_s Ev.mget_0 Ev.mget_hit Ev.mget_miss Ev.mput_0 Ev.mput_hit Ev.mput_miss Ev.apartAll Ev.apartL Ev.apartV Ev.freeAll Ev.sel Ev.keyOfV Ev.evLookup Ev.evPut Ev.hintOk Ev.keyOk Ev.consP Ev.lookV Ev.guardV Ev.dstAt Ev.evPure Ev.evStore Ev.evPureB Ev.evBin Ev.evBinO Ev.evNil Ev.isNilC Ev.evUn Ev.evConv Ev.evSlice Ev.optI Ev.lenV Ev.elemT Ev.foldI Ev.capsOk Ev.noTup Ev.nth Ev.setN Ev.pad Ev.V.get Ev.V.put Ev.putD Ev.hasT Ev.newBlk Ev.upd Ev.keq Ev.empty Ev.evCall Ev.V.args Ev.argP Ev.callOf Ev.evNilP Ev.isNilP Ev.look Ev.V.view.views Ev.V.view Ev.V.toD Ev.V.toD.V.toDs Ev.V.pure.pures Ev.V.pure Ev.D.flat.flats Ev.D.flat Ev.mkAgg Ev.allD Ev.aggParts Ev.setParts Ev.setElems Ev.getPath Ev.setPath Ev.subL Ev.eqD Ev.eqD.eqDs Ev.and2 Ev.strCut Ev.evalT Ev.constT Ev.evArgs Ev.mask Ev.maskOf Ev.tableOf Ev.compT Ev.resV Ev.retV Ev.mapO Ev.elemsOf Int.cast_ofNat_Int IntWalk.i64_in IntWalk.u64_in IntWalk.u8_in beq_self_eq_true Bool.true_beq Bool.false_beq Bool.and_true Bool.true_and Bool.false_and Bool.and_false Bool.and_self Bool.not_true Bool.not_false Bool.not_eq_true cond_true cond_false if_true if_false and_true true_and and_self decide_true decide_false Bool.or_true Bool.true_or Bool.or_false Bool.false_or List.isEmpty List.isEmpty_nil List.size_toArray List.map List.length_map List.length_cons List.length_nil Option.map Option.bind Option.getD Option.isSome List.replicate Bool.false_eq_true implies_true forall_const Array.toList Array.isEmpty List.append List.nil_append List.cons_append List.drop_zero List.take_length List.take_succ_cons List.take_zero List.take_nil List.getElem?_map List.getElem?_cons_zero List.getElem?_cons_succ List.getElem?_nil List.append_nil
attribute [local go_sem] FxRate.tk2 FxRate.ik2 FxRate.ek2 FxRate.zv2 FxRate.tk3 FxRate.ik3 FxRate.ek3 FxRate.zv3 FxRate.by3 FxRate.so3 FxRate.tk4 FxRate.ub4 FxRate.zv4 FxRate.tk23 FxRate.ct23 FxRate.ek23 FxRate.zv23 FxRate.tk27 FxRate.ik27 FxRate.zv27 FxRate.tk37 FxRate.ik37 FxRate.zv37 FxRate.by37 FxRate.so37 FxRate.tk39 FxRate.ct39 FxRate.zv39 FxRate.by39 FxRate.so39 FxRate.tk43 FxRate.zv43 FxRate.tk44 FxRate.zv44 FxRate.tk45 FxRate.zv45 FxRate.tk47 FxRate.ct47 FxRate.zv47 FxRate.tk48 FxRate.ik48 FxRate.zv48 FxRate.by48 FxRate.so48 FxRate.tk74 FxRate.zv74 FxRate.tk76 FxRate.ct76 FxRate.zv76 FxRate.by76 FxRate.so76 FxRate.tk77 FxRate.zv77 FxRate.tk79 FxRate.ct79 FxRate.zv79 FxRate.by79 FxRate.so79 FxRate.tk108 FxRate.zv108 FxRate.tk110 FxRate.ek110 FxRate.zv110 FxRate.tk111 FxRate.ek111 FxRate.zv111 FxRate.tk112 FxRate.zv112 FxRate.tk114 FxRate.ct114 FxRate.zv114 FxRate.by114 FxRate.so114 FxRate.tk136 FxRate.mt136 FxRate.sm136 FxRate.zw4 FxRate.zv136 FxRate.tk141 FxRate.zv141 FxRate.tk145 FxRate.zv145 FxRate.tk161 FxRate.ct161 FxRate.zv161 FxRate.tk182 FxRate.zv182 FxRate.mk7_1000000 FxRate.mk24_0 FxRate.mk24_2 FxRate.mk24_4 FxRate.mk24_1000001 FxRate.mk24_1000002 FxRate.mk24_1000003 FxRate.mk24_1000004 FxRate.mk24_1000005 FxRate.mk24_1000006 FxRate.mk24_1000000 FxRate.dw25_19 FxRate.nc25_19 FxRate.mk25_0 FxRate.mk25_2 FxRate.mk25_1000001 FxRate.mk25_1000002 FxRate.mk25_1000003 FxRate.mk25_1000004 FxRate.mk25_1000000 FxRate.mk40_0 FxRate.mk40_2 FxRate.mk40_4 FxRate.mk40_1000001 FxRate.mk40_1000002 FxRate.mk40_1000003 FxRate.mk40_1000004 FxRate.mk40_1000005 FxRate.mk40_1000006 FxRate.mk40_1000007 FxRate.mk40_1000000 FxRate.mk41_0 FxRate.mk41_1000001 FxRate.mk41_1000002 FxRate.mk41_1000003 FxRate.mk41_1000004 FxRate.mk41_1000000 FxRate.mk66_1000000 FxRate.dw67_9 FxRate.nc67_9 FxRate.mk67_1000000 FxRate.dw68_5 FxRate.nc68_5 FxRate.dw68_10 FxRate.nc68_10 FxRate.dw68_15 FxRate.nc68_15 FxRate.mk68_0 FxRate.mk68_2 FxRate.mk68_4 FxRate.mk68_1000001 FxRate.mk68_1000002 FxRate.mk68_1000003 FxRate.mk68_1000004 FxRate.mk68_1000005 FxRate.mk68_1000006 FxRate.mk68_1000000 FxRate.mk87_1000001 FxRate.mk87_1000000 FxRate.mk88_1000001 FxRate.mk88_1000000 FxRate.mk89_0 FxRate.mk89_1000001 FxRate.mk89_1000002 FxRate.mk89_1000000 FxRate.mk90_1000000 FxRate.mk91_1000000 FxRate.dw92_10 FxRate.nc92_10 FxRate.mk92_0 FxRate.mk92_2 FxRate.mk92_1000001 FxRate.mk92_1000002 FxRate.mk92_1000003 FxRate.mk92_1000004 FxRate.mk92_1000000 FxRate.mk93_1000001 FxRate.mk93_1000000 FxRate.mk94_1000000 FxRate.mk95_1000000 FxRate.mk128_1000000 FxRate.mk129_0 FxRate.mk129_1000001 FxRate.mk129_1000002 FxRate.mk129_1000000 FxRate.mk130_1000000 FxRate.mk131_0 FxRate.mk131_1000001 FxRate.mk131_1000002 FxRate.mk131_1000000 FxRate.mk150_0 FxRate.mk150_1000001 FxRate.mk150_1000002 FxRate.mk150_1000000
/-! ### sphere.Check -/
noncomputable def T1 : Table := tableOf [(93, en93)]
theorem T1_ok : TableOk Try.prog (([] : Specs).map (·.1)) T1 := (table_cons Try.func93 (by kernel_rfl) (by kernel_rfl) table_nil)
noncomputable def sChk : Ev.Spec := specC (cOne cV) (fun _ => True) fun v => [.int .i64 (chkV v)]
theorem sChk_run (x y z : Int) : sChk.run [.agg 23 [.int .i64 x, .int .i64 y, .int .i64 z]] = some [.int .i64 (chkV (x, y, z))] := specC_run (cOne cV) _ _ (x, y, z) trivial
theorem okV_of {m x y z : Int} (h1 : ¬ maxI (maxI x y) z > m) (h2 : ¬ minI (minI x y) z < -m) : okV m (x, y, z) = true := by
  unfold maxI at h1
  unfold minI at h2
  simp only [okV, inn, Bool.and_eq_true, decide_eq_true_eq]
  split at h1 <;> split at h1 <;> split at h2 <;> split at h2 <;> omega
theorem okV_f1 {m x y z : Int} (h1 : maxI (maxI x y) z > m) : okV m (x, y, z) = false := by
  cases h : okV m (x, y, z) with
  | false => rfl
  | true =>
    simp only [okV, inn, Bool.and_eq_true, decide_eq_true_eq] at h
    unfold maxI at h1
    split at h1 <;> split at h1 <;> omega
theorem okV_f2 {m x y z : Int} (h1 : minI (minI x y) z < -m) : okV m (x, y, z) = false := by
  cases h : okV m (x, y, z) with
  | false => rfl
  | true =>
    simp only [okV, inn, Bool.and_eq_true, decide_eq_true_eq] at h
    unfold minI at h1
    split at h1 <;> split at h1 <;> omega
theorem eChk (x y z : Int) : evTop Try.prog [] T1 0 1 93 [.agg 23 [.int .i64 x, .int .i64 y, .int .i64 z]] = some [.int .i64 (chkV (x, y, z))] := by
  unfold evTop
  simp only [List.map]
  rw [evF_s (fn := Try.f93) (msk := en93.ms) (hT := by rfl) (hb := by rfl)]
  unfold chkV
  by_cases a1 : maxI (maxI x y) z > 1048576
  · rw [if_neg (by simp [okV_f1 a1])]
    simp only [Try.f93, go_sem, Nat.reduceAdd, Nat.reduceSub, Nat.reduceMul, Nat.reduceEqDiff, Nat.reduceBEq, Nat.reduceLT, Nat.reduceLeDiff, Nat.reducePow, Int.reduceToNat, Int.reduceLT, Int.reduceLE, Int.reduceGT, Int.reduceGE, Int.reduceEq, Int.reduceNeg, Int.reduceAdd, Int.reduceSub, ↓reduceIte, reduceCtorEq, a1]
  by_cases a2 : minI (minI x y) z < -1048576
  · rw [if_neg (by simp [okV_f2 a2])]
    simp only [Try.f93, go_sem, Nat.reduceAdd, Nat.reduceSub, Nat.reduceMul, Nat.reduceEqDiff, Nat.reduceBEq, Nat.reduceLT, Nat.reduceLeDiff, Nat.reducePow, Int.reduceToNat, Int.reduceLT, Int.reduceLE, Int.reduceGT, Int.reduceGE, Int.reduceEq, Int.reduceNeg, Int.reduceAdd, Int.reduceSub, ↓reduceIte, reduceCtorEq, a1, a2]
  rw [if_pos (okV_of a1 a2)]
  by_cases c1 : x = 0
  case neg =>
    have d1 : decide (x = 0) = false := decide_eq_false c1
    rw [if_neg (by simp [c1])]
    by_cases c2 : y = 0
    · by_cases c3 : z = 0
      · simp only [Try.f93, go_sem, Nat.reduceAdd, Nat.reduceSub, Nat.reduceMul, Nat.reduceEqDiff, Nat.reduceBEq, Nat.reduceLT, Nat.reduceLeDiff, Nat.reducePow, Int.reduceToNat, Int.reduceLT, Int.reduceLE, Int.reduceGT, Int.reduceGE, Int.reduceEq, Int.reduceNeg, Int.reduceAdd, Int.reduceSub, ↓reduceIte, reduceCtorEq, a1, a2, d1, decide_eq_true c2, decide_eq_true c3]
      · simp only [Try.f93, go_sem, Nat.reduceAdd, Nat.reduceSub, Nat.reduceMul, Nat.reduceEqDiff, Nat.reduceBEq, Nat.reduceLT, Nat.reduceLeDiff, Nat.reducePow, Int.reduceToNat, Int.reduceLT, Int.reduceLE, Int.reduceGT, Int.reduceGE, Int.reduceEq, Int.reduceNeg, Int.reduceAdd, Int.reduceSub, ↓reduceIte, reduceCtorEq, a1, a2, d1, decide_eq_true c2, decide_eq_false c3]
    · by_cases c3 : z = 0
      · simp only [Try.f93, go_sem, Nat.reduceAdd, Nat.reduceSub, Nat.reduceMul, Nat.reduceEqDiff, Nat.reduceBEq, Nat.reduceLT, Nat.reduceLeDiff, Nat.reducePow, Int.reduceToNat, Int.reduceLT, Int.reduceLE, Int.reduceGT, Int.reduceGE, Int.reduceEq, Int.reduceNeg, Int.reduceAdd, Int.reduceSub, ↓reduceIte, reduceCtorEq, a1, a2, d1, decide_eq_false c2, decide_eq_true c3]
      · simp only [Try.f93, go_sem, Nat.reduceAdd, Nat.reduceSub, Nat.reduceMul, Nat.reduceEqDiff, Nat.reduceBEq, Nat.reduceLT, Nat.reduceLeDiff, Nat.reducePow, Int.reduceToNat, Int.reduceLT, Int.reduceLE, Int.reduceGT, Int.reduceGE, Int.reduceEq, Int.reduceNeg, Int.reduceAdd, Int.reduceSub, ↓reduceIte, reduceCtorEq, a1, a2, d1, decide_eq_false c2, decide_eq_false c3]
  have d1 : decide (x = 0) = true := decide_eq_true c1
  by_cases c2 : y = 0
  case neg =>
    have d2 : decide (y = 0) = false := decide_eq_false c2
    rw [if_neg (by simp [c2])]
    by_cases c3 : z = 0
    · simp only [Try.f93, go_sem, Nat.reduceAdd, Nat.reduceSub, Nat.reduceMul, Nat.reduceEqDiff, Nat.reduceBEq, Nat.reduceLT, Nat.reduceLeDiff, Nat.reducePow, Int.reduceToNat, Int.reduceLT, Int.reduceLE, Int.reduceGT, Int.reduceGE, Int.reduceEq, Int.reduceNeg, Int.reduceAdd, Int.reduceSub, ↓reduceIte, reduceCtorEq, a1, a2, d1, d2, decide_eq_true c3]
    · simp only [Try.f93, go_sem, Nat.reduceAdd, Nat.reduceSub, Nat.reduceMul, Nat.reduceEqDiff, Nat.reduceBEq, Nat.reduceLT, Nat.reduceLeDiff, Nat.reducePow, Int.reduceToNat, Int.reduceLT, Int.reduceLE, Int.reduceGT, Int.reduceGE, Int.reduceEq, Int.reduceNeg, Int.reduceAdd, Int.reduceSub, ↓reduceIte, reduceCtorEq, a1, a2, d1, d2, decide_eq_false c3]
  have d2 : decide (y = 0) = true := decide_eq_true c2
  by_cases c3 : z = 0
  · rw [if_pos (by rw [c1, c2, c3])]
    simp only [Try.f93, go_sem, Nat.reduceAdd, Nat.reduceSub, Nat.reduceMul, Nat.reduceEqDiff, Nat.reduceBEq, Nat.reduceLT, Nat.reduceLeDiff, Nat.reducePow, Int.reduceToNat, Int.reduceLT, Int.reduceLE, Int.reduceGT, Int.reduceGE, Int.reduceEq, Int.reduceNeg, Int.reduceAdd, Int.reduceSub, ↓reduceIte, reduceCtorEq, a1, a2, d1, d2, decide_eq_true c3]
  · rw [if_neg (by simp [c3])]
    simp only [Try.f93, go_sem, Nat.reduceAdd, Nat.reduceSub, Nat.reduceMul, Nat.reduceEqDiff, Nat.reduceBEq, Nat.reduceLT, Nat.reduceLeDiff, Nat.reducePow, Int.reduceToNat, Int.reduceLT, Int.reduceLE, Int.reduceGT, Int.reduceGE, Int.reduceEq, Int.reduceNeg, Int.reduceAdd, Int.reduceSub, ↓reduceIte, reduceCtorEq, a1, a2, d1, d2, decide_eq_false c3]
theorem chk_ok : SpecOk Try.prog 93 sChk := specC_ok mixed specs_nil T1_ok fun x _ => ⟨0, 1, eChk x.1 x.2.1 x.2.2⟩
#print axioms chk_ok
/-! ### half -/
def idx3 (k : Int) : Int := if k = 1 then 0 else if k = 2 then 1 else if k = 4 then 2 else -1
noncomputable def sIdx3 : Ev.Spec := specC (cOne (cI .i64)) (fun _ => True) fun k => [.int .i64 (idx3 k)]
def l3 : D := .sl 3 [.int .i64 1, .int .i64 2, .int .i64 4]
noncomputable def c3 : CodL Int := ⟨fun k => [.sl 3 [.int .i64 1, .int .i64 2, .int .i64 4], .int .i64 k], fun x y h => by cases h; rfl⟩
noncomputable def sI3 : Ev.Spec := specC c3 (fun _ => True) fun k => [.int .i64 (idx3 k)]
noncomputable def sC3 : Ev.Spec := specC c3 (fun _ => True) fun k => [.bool (sizeOk k)]
theorem sI3_run (k : Int) : sI3.run [.sl 3 [.int .i64 1, .int .i64 2, .int .i64 4], .int .i64 k] = some [.int .i64 (idx3 k)] := specC_run c3 _ _ k trivial
theorem sC3_run (k : Int) : sC3.run [.sl 3 [.int .i64 1, .int .i64 2, .int .i64 4], .int .i64 k] = some [.bool (sizeOk k)] := specC_run c3 _ _ k trivial
noncomputable def T2 : Table := tableOf [(150, en150)]
theorem T2_ok : TableOk Try.prog (([] : Specs).map (·.1)) T2 := (table_cons Try.func150 (by kernel_rfl) (by kernel_rfl) table_nil)
theorem eI3 (k : Int) : evTop Try.prog [] T2 4 1 150 [.sl 3 [.int .i64 1, .int .i64 2, .int .i64 4], .int .i64 k] = some [.int .i64 (idx3 k)] := by
  unfold evTop
  simp only [List.map]
  rw [evF_s (fn := Try.f150) (msk := en150.ms) (hT := by rfl) (hb := by rfl)]
  have wa : IntKind.i64.wrap (0 + 1) = 1 := by decide
  have wb : IntKind.i64.wrap (1 + 1) = 2 := by decide
  have wc : IntKind.i64.wrap (2 + 1) = 3 := by decide
  unfold idx3
  by_cases c1 : k = 1
  · rw [if_pos c1]
    simp only [Try.f150, go_sem, Nat.reduceAdd, Nat.reduceSub, Nat.reduceMul, Nat.reduceEqDiff, Nat.reduceBEq, Nat.reduceLT, Nat.reduceLeDiff, Nat.reducePow, Int.reduceToNat, Int.reduceLT, Int.reduceLE, Int.reduceGT, Int.reduceGE, Int.reduceEq, Int.reduceNeg, Int.reduceAdd, Int.reduceSub, ↓reduceIte, reduceCtorEq, iter_s, decide_eq_true c1]
  rw [if_neg c1]
  by_cases c2 : k = 2
  · rw [if_pos c2]
    simp only [Try.f150, go_sem, Nat.reduceAdd, Nat.reduceSub, Nat.reduceMul, Nat.reduceEqDiff, Nat.reduceBEq, Nat.reduceLT, Nat.reduceLeDiff, Nat.reducePow, Int.reduceToNat, Int.reduceLT, Int.reduceLE, Int.reduceGT, Int.reduceGE, Int.reduceEq, Int.reduceNeg, Int.reduceAdd, Int.reduceSub, ↓reduceIte, reduceCtorEq, iter_s, decide_eq_false c1, decide_eq_true c2]
  rw [if_neg c2]
  by_cases c4 : k = 4
  · rw [if_pos c4]
    simp only [Try.f150, go_sem, Nat.reduceAdd, Nat.reduceSub, Nat.reduceMul, Nat.reduceEqDiff, Nat.reduceBEq, Nat.reduceLT, Nat.reduceLeDiff, Nat.reducePow, Int.reduceToNat, Int.reduceLT, Int.reduceLE, Int.reduceGT, Int.reduceGE, Int.reduceEq, Int.reduceNeg, Int.reduceAdd, Int.reduceSub, ↓reduceIte, reduceCtorEq, iter_s, decide_eq_false c1, decide_eq_false c2, decide_eq_true c4]
  rw [if_neg c4]
  simp only [Try.f150, go_sem, Nat.reduceAdd, Nat.reduceSub, Nat.reduceMul, Nat.reduceEqDiff, Nat.reduceBEq, Nat.reduceLT, Nat.reduceLeDiff, Nat.reducePow, Int.reduceToNat, Int.reduceLT, Int.reduceLE, Int.reduceGT, Int.reduceGE, Int.reduceEq, Int.reduceNeg, Int.reduceAdd, Int.reduceSub, ↓reduceIte, reduceCtorEq, iter_s, decide_eq_false c1, decide_eq_false c2, decide_eq_false c4]
theorem i3_ok : SpecOk Try.prog 150 sI3 := specC_ok mixed specs_nil T2_ok fun k _ => ⟨4, 1, eI3 k⟩
noncomputable def G3 : Specs := [(150, sI3)]
noncomputable def T3 : Table := tableOf [(130, en130)]
theorem G3_ok : ∀ g s, Ev.look G3 g = some s → SpecOk Try.prog g s := specs_cons i3_ok specs_nil
theorem T3_ok : TableOk Try.prog (G3.map (·.1)) T3 := (table_cons Try.func130 (by kernel_rfl) (by kernel_rfl) table_nil)
theorem idx3_ge (k : Int) : decide (idx3 k ≥ 0) = sizeOk k := by
  unfold idx3 sizeOk
  by_cases c1 : k = 1
  · simp [c1]
  by_cases c2 : k = 2
  · simp [c2]
  by_cases c4 : k = 4
  · simp [c4]
  simp [c1, c2, c4]
theorem eC3 (k : Int) : evTop Try.prog G3 T3 0 1 130 [.sl 3 [.int .i64 1, .int .i64 2, .int .i64 4], .int .i64 k] = some [.bool (sizeOk k)] := by
  unfold evTop
  simp only [List.map]
  rw [evF_s (fn := Try.f130) (msk := en130.ms) (hT := by rfl) (hb := by rfl)]
  simp only [Try.f130, G3, go_sem, Nat.reduceAdd, Nat.reduceSub, Nat.reduceMul, Nat.reduceEqDiff, Nat.reduceBEq, Nat.reduceLT, Nat.reduceLeDiff, Nat.reducePow, Int.reduceToNat, Int.reduceLT, Int.reduceLE, Int.reduceGT, Int.reduceGE, Int.reduceEq, Int.reduceNeg, Int.reduceAdd, Int.reduceSub, ↓reduceIte, reduceCtorEq, sI3_run k, idx3_ge k]
theorem con3_ok : SpecOk Try.prog 130 sC3 := specC_ok mixed G3_ok T3_ok fun k _ => ⟨0, 1, eC3 k⟩
noncomputable def G4 : Specs := [(130, sC3)]
noncomputable def T4 : Table := tableOf [(94, en94)]
theorem G4_ok : ∀ g s, Ev.look G4 g = some s → SpecOk Try.prog g s := specs_cons con3_ok specs_nil
theorem T4_ok : TableOk Try.prog (G4.map (·.1)) T4 := (table_cons Try.func94 (by kernel_rfl) (by kernel_rfl) table_nil)
noncomputable def sHalf : Ev.Spec := specC (cOne (cI .i64)) (fun _ => True) fun k => [.bool (sizeOk k)]
theorem sHalf_run (k : Int) : sHalf.run [.int .i64 k] = some [.bool (sizeOk k)] := specC_run (cOne (cI .i64)) _ _ k trivial
theorem eHalf (k : Int) : evTop Try.prog G4 T4 0 1 94 [.int .i64 k] = some [.bool (sizeOk k)] := by
  unfold evTop
  simp only [List.map]
  rw [evF_s (fn := Try.f94) (msk := en94.ms) (hT := by rfl) (hb := by rfl)]
  simp only [Try.f94, G4, go_sem, Nat.reduceAdd, Nat.reduceSub, Nat.reduceMul, Nat.reduceEqDiff, Nat.reduceBEq, Nat.reduceLT, Nat.reduceLeDiff, Nat.reducePow, Int.reduceToNat, Int.reduceLT, Int.reduceLE, Int.reduceGT, Int.reduceGE, Int.reduceEq, Int.reduceNeg, Int.reduceAdd, Int.reduceSub, ↓reduceIte, reduceCtorEq, sC3_run k]
theorem half_ok : SpecOk Try.prog 94 sHalf := specC_ok mixed G4_ok T4_ok fun k _ => ⟨0, 1, eHalf k⟩
#print axioms half_ok
/-! ### galaxy -/
noncomputable def sGal : Ev.Spec := specC (cOne cGal) (fun _ => True) fun g => [.int .i64 (galF g)]
theorem sGal_run (i x y z r w h : Int) : sGal.run [.agg 76 [.int .i64 i, .agg 23 [.int .i64 x, .int .i64 y, .int .i64 z], .int .i64 r, .int .i64 w, .int .i64 h]] = some [.int .i64 (galF ⟨i, (x, y, z), r, w, h⟩)] := specC_run (cOne cGal) _ _ (⟨i, (x, y, z), r, w, h⟩ : Gal) trivial
noncomputable def G5 : Specs := [(93, sChk)]
noncomputable def T5 : Table := tableOf [(89, en89)]
theorem G5_ok : ∀ g s, Ev.look G5 g = some s → SpecOk Try.prog g s := specs_cons chk_ok specs_nil
theorem T5_ok : TableOk Try.prog (G5.map (·.1)) T5 := (table_cons Try.func89 (by kernel_rfl) (by kernel_rfl) table_nil)
theorem sizeOk_t {k : Int} (h : sizeOk k = true) : decide (k = 1) = true ∨ (decide (k = 1) = false ∧ decide (k = 2) = true) ∨ (decide (k = 1) = false ∧ decide (k = 2) = false ∧ decide (k = 4) = true) := by
  unfold sizeOk at h
  cases h1 : decide (k = 1) <;> cases h2 : decide (k = 2) <;> cases h4 : decide (k = 4) <;> simp_all
theorem sizeOk_f {k : Int} (h : ¬ sizeOk k = true) : decide (k = 1) = false ∧ decide (k = 2) = false ∧ decide (k = 4) = false := by
  unfold sizeOk at h
  cases h1 : decide (k = 1) <;> cases h2 : decide (k = 2) <;> cases h4 : decide (k = 4) <;> simp_all
theorem eGal (i x y z r w h : Int) : evTop Try.prog G5 T5 3 1 89 [.agg 76 [.int .i64 i, .agg 23 [.int .i64 x, .int .i64 y, .int .i64 z], .int .i64 r, .int .i64 w, .int .i64 h]] = some [.int .i64 (galF ⟨i, (x, y, z), r, w, h⟩)] := by
  unfold evTop
  simp only [List.map]
  rw [evF_s (fn := Try.f89) (msk := en89.ms) (hT := by rfl) (hb := by rfl)]
  have rc := sChk_run x y z
  have wa : IntKind.i64.wrap (0 + 1) = 1 := by decide
  have wb : IntKind.i64.wrap (1 + 1) = 2 := by decide
  unfold galF
  by_cases c0 : chkV (x, y, z) = 0
  case neg =>
    rw [if_neg (by simpa using c0)]
    simp only [Try.f89, G5, go_sem, Nat.reduceAdd, Nat.reduceSub, Nat.reduceMul, Nat.reduceEqDiff, Nat.reduceBEq, Nat.reduceLT, Nat.reduceLeDiff, Nat.reducePow, Int.reduceToNat, Int.reduceLT, Int.reduceLE, Int.reduceGT, Int.reduceGE, Int.reduceEq, Int.reduceNeg, Int.reduceAdd, Int.reduceSub, ↓reduceIte, reduceCtorEq, rc, c0]
  rw [if_pos (by simpa using c0)]
  by_cases cw : sizeOk w = true
  case neg =>
    rw [if_neg (by simp [cw])]
    obtain ⟨w1, w2, w4⟩ := sizeOk_f cw
    simp only [Try.f89, G5, go_sem, Nat.reduceAdd, Nat.reduceSub, Nat.reduceMul, Nat.reduceEqDiff, Nat.reduceBEq, Nat.reduceLT, Nat.reduceLeDiff, Nat.reducePow, Int.reduceToNat, Int.reduceLT, Int.reduceLE, Int.reduceGT, Int.reduceGE, Int.reduceEq, Int.reduceNeg, Int.reduceAdd, Int.reduceSub, ↓reduceIte, reduceCtorEq, rc, c0, iter_s, w1, w2, w4]
  by_cases ch : sizeOk h = true
  case neg =>
    rw [if_neg (by simp [ch])]
    obtain ⟨h1, h2, h4⟩ := sizeOk_f ch
    rcases sizeOk_t cw with w1 | ⟨w1, w2⟩ | ⟨w1, w2, w4⟩
    · simp only [Try.f89, G5, go_sem, Nat.reduceAdd, Nat.reduceSub, Nat.reduceMul, Nat.reduceEqDiff, Nat.reduceBEq, Nat.reduceLT, Nat.reduceLeDiff, Nat.reducePow, Int.reduceToNat, Int.reduceLT, Int.reduceLE, Int.reduceGT, Int.reduceGE, Int.reduceEq, Int.reduceNeg, Int.reduceAdd, Int.reduceSub, ↓reduceIte, reduceCtorEq, rc, c0, iter_s, w1, h1, h2, h4]
    · simp only [Try.f89, G5, go_sem, Nat.reduceAdd, Nat.reduceSub, Nat.reduceMul, Nat.reduceEqDiff, Nat.reduceBEq, Nat.reduceLT, Nat.reduceLeDiff, Nat.reducePow, Int.reduceToNat, Int.reduceLT, Int.reduceLE, Int.reduceGT, Int.reduceGE, Int.reduceEq, Int.reduceNeg, Int.reduceAdd, Int.reduceSub, ↓reduceIte, reduceCtorEq, rc, c0, iter_s, w1, w2, h1, h2, h4]
    · simp only [Try.f89, G5, go_sem, Nat.reduceAdd, Nat.reduceSub, Nat.reduceMul, Nat.reduceEqDiff, Nat.reduceBEq, Nat.reduceLT, Nat.reduceLeDiff, Nat.reducePow, Int.reduceToNat, Int.reduceLT, Int.reduceLE, Int.reduceGT, Int.reduceGE, Int.reduceEq, Int.reduceNeg, Int.reduceAdd, Int.reduceSub, ↓reduceIte, reduceCtorEq, rc, c0, iter_s, w1, w2, w4, h1, h2, h4]
  rw [if_pos ⟨cw, ch⟩]
  rcases sizeOk_t cw with w1 | ⟨w1, w2⟩ | ⟨w1, w2, w4⟩
  · rcases sizeOk_t ch with h1 | ⟨h1, h2⟩ | ⟨h1, h2, h4⟩
    · simp only [Try.f89, G5, go_sem, Nat.reduceAdd, Nat.reduceSub, Nat.reduceMul, Nat.reduceEqDiff, Nat.reduceBEq, Nat.reduceLT, Nat.reduceLeDiff, Nat.reducePow, Int.reduceToNat, Int.reduceLT, Int.reduceLE, Int.reduceGT, Int.reduceGE, Int.reduceEq, Int.reduceNeg, Int.reduceAdd, Int.reduceSub, ↓reduceIte, reduceCtorEq, rc, c0, iter_s, w1, h1]
    · simp only [Try.f89, G5, go_sem, Nat.reduceAdd, Nat.reduceSub, Nat.reduceMul, Nat.reduceEqDiff, Nat.reduceBEq, Nat.reduceLT, Nat.reduceLeDiff, Nat.reducePow, Int.reduceToNat, Int.reduceLT, Int.reduceLE, Int.reduceGT, Int.reduceGE, Int.reduceEq, Int.reduceNeg, Int.reduceAdd, Int.reduceSub, ↓reduceIte, reduceCtorEq, rc, c0, iter_s, w1, h1, h2]
    · simp only [Try.f89, G5, go_sem, Nat.reduceAdd, Nat.reduceSub, Nat.reduceMul, Nat.reduceEqDiff, Nat.reduceBEq, Nat.reduceLT, Nat.reduceLeDiff, Nat.reducePow, Int.reduceToNat, Int.reduceLT, Int.reduceLE, Int.reduceGT, Int.reduceGE, Int.reduceEq, Int.reduceNeg, Int.reduceAdd, Int.reduceSub, ↓reduceIte, reduceCtorEq, rc, c0, iter_s, w1, h1, h2, h4]
  · rcases sizeOk_t ch with h1 | ⟨h1, h2⟩ | ⟨h1, h2, h4⟩
    · simp only [Try.f89, G5, go_sem, Nat.reduceAdd, Nat.reduceSub, Nat.reduceMul, Nat.reduceEqDiff, Nat.reduceBEq, Nat.reduceLT, Nat.reduceLeDiff, Nat.reducePow, Int.reduceToNat, Int.reduceLT, Int.reduceLE, Int.reduceGT, Int.reduceGE, Int.reduceEq, Int.reduceNeg, Int.reduceAdd, Int.reduceSub, ↓reduceIte, reduceCtorEq, rc, c0, iter_s, w1, w2, h1]
    · simp only [Try.f89, G5, go_sem, Nat.reduceAdd, Nat.reduceSub, Nat.reduceMul, Nat.reduceEqDiff, Nat.reduceBEq, Nat.reduceLT, Nat.reduceLeDiff, Nat.reducePow, Int.reduceToNat, Int.reduceLT, Int.reduceLE, Int.reduceGT, Int.reduceGE, Int.reduceEq, Int.reduceNeg, Int.reduceAdd, Int.reduceSub, ↓reduceIte, reduceCtorEq, rc, c0, iter_s, w1, w2, h1, h2]
    · simp only [Try.f89, G5, go_sem, Nat.reduceAdd, Nat.reduceSub, Nat.reduceMul, Nat.reduceEqDiff, Nat.reduceBEq, Nat.reduceLT, Nat.reduceLeDiff, Nat.reducePow, Int.reduceToNat, Int.reduceLT, Int.reduceLE, Int.reduceGT, Int.reduceGE, Int.reduceEq, Int.reduceNeg, Int.reduceAdd, Int.reduceSub, ↓reduceIte, reduceCtorEq, rc, c0, iter_s, w1, w2, h1, h2, h4]
  · rcases sizeOk_t ch with h1 | ⟨h1, h2⟩ | ⟨h1, h2, h4⟩
    · simp only [Try.f89, G5, go_sem, Nat.reduceAdd, Nat.reduceSub, Nat.reduceMul, Nat.reduceEqDiff, Nat.reduceBEq, Nat.reduceLT, Nat.reduceLeDiff, Nat.reducePow, Int.reduceToNat, Int.reduceLT, Int.reduceLE, Int.reduceGT, Int.reduceGE, Int.reduceEq, Int.reduceNeg, Int.reduceAdd, Int.reduceSub, ↓reduceIte, reduceCtorEq, rc, c0, iter_s, w1, w2, w4, h1]
    · simp only [Try.f89, G5, go_sem, Nat.reduceAdd, Nat.reduceSub, Nat.reduceMul, Nat.reduceEqDiff, Nat.reduceBEq, Nat.reduceLT, Nat.reduceLeDiff, Nat.reducePow, Int.reduceToNat, Int.reduceLT, Int.reduceLE, Int.reduceGT, Int.reduceGE, Int.reduceEq, Int.reduceNeg, Int.reduceAdd, Int.reduceSub, ↓reduceIte, reduceCtorEq, rc, c0, iter_s, w1, w2, w4, h1, h2]
    · simp only [Try.f89, G5, go_sem, Nat.reduceAdd, Nat.reduceSub, Nat.reduceMul, Nat.reduceEqDiff, Nat.reduceBEq, Nat.reduceLT, Nat.reduceLeDiff, Nat.reducePow, Int.reduceToNat, Int.reduceLT, Int.reduceLE, Int.reduceGT, Int.reduceGE, Int.reduceEq, Int.reduceNeg, Int.reduceAdd, Int.reduceSub, ↓reduceIte, reduceCtorEq, rc, c0, iter_s, w1, w2, w4, h1, h2, h4]
theorem gal_ok : SpecOk Try.prog 89 sGal := specC_ok mixed G5_ok T5_ok fun g _ => ⟨3, 1, eGal g.id g.p.1 g.p.2.1 g.p.2.2 g.rate g.wide g.high⟩
#print axioms gal_ok
end Go.Proofs.YtmhjmjodchbhlaaR.OwnRate
end
section
set_option maxRecDepth 100000
namespace Go.Proofs.YtmhjmjodchbhlaaR.FxDir
open Go.Ev
theorem tk2 : tk Try.prog 2 = .one := by kernel_rfl
theorem ik2 : intK Try.prog 2 = some .i64 := by kernel_rfl
theorem ek2 : ek Try.prog 2 = .int := by kernel_rfl
theorem zv2 : zeroV Try.prog 2 = some (.d (.int .i64 0)) := by kernel_rfl
theorem tk3 : tk Try.prog 3 = .one := by kernel_rfl
theorem ik3 : intK Try.prog 3 = some .i64 := by kernel_rfl
theorem zv3 : zeroV Try.prog 3 = some (.d (.int .i64 0)) := by kernel_rfl
theorem tk4 : tk Try.prog 4 = .one := by kernel_rfl
theorem ub4 : Try.prog.underlying 4 = some .bool := by kernel_rfl
theorem zv4 : zeroV Try.prog 4 = some (.d (.bool false)) := by kernel_rfl
theorem tk23 : tk Try.prog 23 = .agg 3 false := by kernel_rfl
theorem ct23 : compTs Try.prog 23 = [2, 2, 2] := by kernel_rfl
theorem ek23 : ek Try.prog 23 = .agg := by kernel_rfl
theorem zv23 : zeroV Try.prog 23 = some (.d (.agg 23 [.int .i64 0, .int .i64 0, .int .i64 0])) := by kernel_rfl
theorem tk27 : tk Try.prog 27 = .one := by kernel_rfl
theorem ik27 : intK Try.prog 27 = some .i64 := by kernel_rfl
theorem zv27 : zeroV Try.prog 27 = some (.d (.int .i64 0)) := by kernel_rfl
theorem tk37 : tk Try.prog 37 = .one := by kernel_rfl
theorem ik37 : intK Try.prog 37 = some .i64 := by kernel_rfl
theorem zv37 : zeroV Try.prog 37 = some (.d (.int .i64 0)) := by kernel_rfl
theorem by37 : Try.prog.bytesOf 37 = 8 := by kernel_rfl
theorem so37 : szOf Try.prog 37 = 1 := by kernel_rfl
theorem tk39 : tk Try.prog 39 = .agg 4 false := by kernel_rfl
theorem ct39 : compTs Try.prog 39 = [3, 23, 23, 37] := by kernel_rfl
theorem zv39 : zeroV Try.prog 39 = some (.d (.agg 39 [.int .i64 0, .agg 23 [.int .i64 0, .int .i64 0, .int .i64 0], .agg 23 [.int .i64 0, .int .i64 0, .int .i64 0], .int .i64 0])) := by kernel_rfl
theorem by39 : Try.prog.bytesOf 39 = 64 := by kernel_rfl
theorem so39 : szOf Try.prog 39 = 8 := by kernel_rfl
theorem tk43 : tk Try.prog 43 = .sl 79 := by kernel_rfl
theorem zv43 : zeroV Try.prog 43 = some (.nils 79) := by kernel_rfl
theorem tk44 : tk Try.prog 44 = .sl 76 := by kernel_rfl
theorem zv44 : zeroV Try.prog 44 = some (.nils 76) := by kernel_rfl
theorem tk45 : tk Try.prog 45 = .sl 39 := by kernel_rfl
theorem zv45 : zeroV Try.prog 45 = some (.nils 39) := by kernel_rfl
theorem tk47 : tk Try.prog 47 = .agg 5 false := by kernel_rfl
theorem ct47 : compTs Try.prog 47 = [37, 43, 44, 45, 39] := by kernel_rfl
theorem zv47 : zeroV Try.prog 47 = some (.agg 47 [.d (.int .i64 0), .nils 79, .nils 76, .nils 39, .d (.agg 39 [.int .i64 0, .agg 23 [.int .i64 0, .int .i64 0, .int .i64 0], .agg 23 [.int .i64 0, .int .i64 0, .int .i64 0], .int .i64 0])]) := by kernel_rfl
theorem tk48 : tk Try.prog 48 = .one := by kernel_rfl
theorem ik48 : intK Try.prog 48 = some .i64 := by kernel_rfl
theorem zv48 : zeroV Try.prog 48 = some (.d (.int .i64 0)) := by kernel_rfl
theorem tk76 : tk Try.prog 76 = .agg 5 false := by kernel_rfl
theorem ct76 : compTs Try.prog 76 = [3, 23, 37, 3, 3] := by kernel_rfl
theorem zv76 : zeroV Try.prog 76 = some (.d (.agg 76 [.int .i64 0, .agg 23 [.int .i64 0, .int .i64 0, .int .i64 0], .int .i64 0, .int .i64 0, .int .i64 0])) := by kernel_rfl
theorem by76 : Try.prog.bytesOf 76 = 56 := by kernel_rfl
theorem so76 : szOf Try.prog 76 = 7 := by kernel_rfl
theorem tk77 : tk Try.prog 77 = .sl 37 := by kernel_rfl
theorem zv77 : zeroV Try.prog 77 = some (.nils 37) := by kernel_rfl
theorem tk79 : tk Try.prog 79 = .agg 7 false := by kernel_rfl
theorem ct79 : compTs Try.prog 79 = [3, 23, 37, 77, 48, 48, 48] := by kernel_rfl
theorem zv79 : zeroV Try.prog 79 = some (.agg 79 [.d (.int .i64 0), .d (.agg 23 [.int .i64 0, .int .i64 0, .int .i64 0]), .d (.int .i64 0), .nils 37, .d (.int .i64 0), .d (.int .i64 0), .d (.int .i64 0)]) := by kernel_rfl
theorem by79 : Try.prog.bytesOf 79 = 88 := by kernel_rfl
theorem so79 : szOf Try.prog 79 = 9 := by kernel_rfl
theorem tk102 : tk Try.prog 102 = .one := by kernel_rfl
theorem zv102 : zeroV Try.prog 102 = some (.jk) := by kernel_rfl
theorem tk108 : tk Try.prog 108 = .sl 114 := by kernel_rfl
theorem zv108 : zeroV Try.prog 108 = some (.nils 114) := by kernel_rfl
theorem tk110 : tk Try.prog 110 = .one := by kernel_rfl
theorem ek110 : ek Try.prog 110 = .ptr := by kernel_rfl
theorem zv110 : zeroV Try.prog 110 = some (.d (.np)) := by kernel_rfl
theorem tk111 : tk Try.prog 111 = .one := by kernel_rfl
theorem ek111 : ek Try.prog 111 = .ptr := by kernel_rfl
theorem zv111 : zeroV Try.prog 111 = some (.d (.np)) := by kernel_rfl
theorem tk112 : tk Try.prog 112 = .one := by kernel_rfl
theorem zv112 : zeroV Try.prog 112 = some (.d (.np)) := by kernel_rfl
theorem tk114 : tk Try.prog 114 = .agg 5 false := by kernel_rfl
theorem ct114 : compTs Try.prog 114 = [3, 37, 110, 111, 112] := by kernel_rfl
theorem zv114 : zeroV Try.prog 114 = some (.d (.agg 114 [.int .i64 0, .int .i64 0, .np, .np, .np])) := by kernel_rfl
theorem by114 : Try.prog.bytesOf 114 = 40 := by kernel_rfl
theorem so114 : szOf Try.prog 114 = 5 := by kernel_rfl
theorem tk116 : tk Try.prog 116 = .one := by kernel_rfl
theorem zv116 : zeroV Try.prog 116 = some (.jk) := by kernel_rfl
theorem tk118 : tk Try.prog 118 = .one := by kernel_rfl
theorem zv118 : zeroV Try.prog 118 = some (.jk) := by kernel_rfl
noncomputable def en9 : Entry := ⟨Try.f9, [(1000000, [false, false, false, false, false, false, false, false, false, false, true, false, false, false, false, false, false, false, false, false, false, false, false, false, false, false, false, false, false, false, false, false, false, false, false, false, false, false, false, false, false, false, false, false, false, false, false, false, false, false, false, false, false, false, false, false, false, false, false, false, false, false, false, false, false, false])]⟩
theorem mk9_1000000 (vs : List V) : mask (maskOf en9.ms 1000000) vs = mask [false, false, false, false, false, false, false, false, false, false, true, false, false, false, false, false, false, false, false, false, false, false, false, false, false, false, false, false, false, false, false, false, false, false, false, false, false, false, false, false, false, false, false, false, false, false, false, false, false, false, false, false, false, false, false, false, false, false, false, false, false, false, false, false, false, false] vs := nr rfl
def hr9 (t10 : V) : List V := [.und, .und, .und, .und, .und, .und, .und, .und, .und, .und, t10, .und, .und, .und, .und, .und, .und, .und, .und, .und, .und, .und, .und, .und, .und, .und, .und, .und, .und, .und, .und, .und, .und, .und, .und, .und, .und, .und, .und, .und, .und, .und, .und, .und, .und, .und, .und, .und, .und, .und, .und, .und, .und, .und, .und, .und, .und, .und, .und, .und, .und, .und, .und, .und, .und, .und]
noncomputable def en28 : Entry := ⟨Try.f28, [(1000000, [false, false, false, false, false, false, true, true, false, false, false, false, false, false, false, false, false, false, false, false, false, false, false, false, false, false, false, false, false, false, false, false, false, false, false, false, false, false, false, false, false, false, false, false, false, false, false, false, false, false, false, false, false, false, false, false, false, false, false, false, false, false, false, false, false, false, false, false, false, false, false, false, false, false, false, false, false, false, false, false, false, false, false])]⟩
theorem mk28_1000000 (vs : List V) : mask (maskOf en28.ms 1000000) vs = mask [false, false, false, false, false, false, true, true, false, false, false, false, false, false, false, false, false, false, false, false, false, false, false, false, false, false, false, false, false, false, false, false, false, false, false, false, false, false, false, false, false, false, false, false, false, false, false, false, false, false, false, false, false, false, false, false, false, false, false, false, false, false, false, false, false, false, false, false, false, false, false, false, false, false, false, false, false, false, false, false, false, false, false] vs := nr rfl
def hr28 (t6 t7 : V) : List V := [.und, .und, .und, .und, .und, .und, t6, t7, .und, .und, .und, .und, .und, .und, .und, .und, .und, .und, .und, .und, .und, .und, .und, .und, .und, .und, .und, .und, .und, .und, .und, .und, .und, .und, .und, .und, .und, .und, .und, .und, .und, .und, .und, .und, .und, .und, .und, .und, .und, .und, .und, .und, .und, .und, .und, .und, .und, .und, .und, .und, .und, .und, .und, .und, .und, .und, .und, .und, .und, .und, .und, .und, .und, .und, .und, .und, .und, .und, .und, .und, .und, .und, .und]
noncomputable def en29 : Entry := ⟨Try.f29, [(0, [false, true, true, true, false, false, true, false, false, false, false, false, false, false, false, false, false, false, false, false, false, false, false, false, false, false, false, false, true, true, true, false, false, false, false, false, false, false, false, false, false, false, false, false, false, false, false, false, false, false, false, false, false, false, false, false, false, false, false, false, false, false, false, false, false, false, false, false, false, false, false, false, false, false, false, false, false, false, false, false, false, false, false, false, false, false, false, false]), (1000001, [false, false, false, false, false, false, true, false, false, false, false, false, false, false, false, false, false, false, false, false, false, false, false, false, false, false, false, false, false, false, false, false, false, false, false, false, false, false, false, false, false, false, false, false, false, false, false, false, false, false, false, false, false, false, false, false, false, false, false, false, false, false, false, false, false, false, false, false, false, false, false, false, false, false, false, false, false, false, false, false, false, false, false, false, false, false, false, false]), (1000002, [false, true, true, true, false, false, true, false, false, false, false, false, false, false, false, false, false, false, false, false, false, false, false, false, false, false, false, false, true, true, true, false, false, false, false, false, false, false, false, false, false, false, false, false, false, false, false, false, false, false, false, false, false, false, false, false, false, false, false, false, false, false, false, false, false, false, false, false, false, false, false, false, false, false, false, false, false, false, false, false, false, false, false, false, false, false, false, false]), (1000003, [false, true, true, true, false, false, true, false, false, false, false, false, false, false, false, false, false, false, false, false, false, false, false, false, false, false, false, false, true, true, true, false, false, false, false, false, false, false, false, false, false, false, false, false, false, false, false, false, false, false, false, false, false, false, false, false, false, false, false, false, false, false, false, false, false, false, false, false, false, false, false, false, false, false, false, false, false, false, false, false, false, false, false, false, false, false, false, false]), (1000000, [false, false, false, false, false, false, true, true, false, false, false, false, false, false, false, false, false, false, false, false, false, false, false, false, false, false, false, false, false, false, false, false, false, false, false, false, false, false, false, false, false, false, false, false, false, false, false, false, false, false, false, false, false, false, false, false, false, false, false, false, false, false, false, false, false, false, false, false, false, false, false, false, false, false, false, false, false, false, false, false, false, false, false, false, false, false, false, false])]⟩
theorem mk29_0 (vs : List V) : mask (maskOf en29.ms 0) vs = mask [false, true, true, true, false, false, true, false, false, false, false, false, false, false, false, false, false, false, false, false, false, false, false, false, false, false, false, false, true, true, true, false, false, false, false, false, false, false, false, false, false, false, false, false, false, false, false, false, false, false, false, false, false, false, false, false, false, false, false, false, false, false, false, false, false, false, false, false, false, false, false, false, false, false, false, false, false, false, false, false, false, false, false, false, false, false, false, false] vs := nr rfl
theorem mk29_1000001 (vs : List V) : mask (maskOf en29.ms 1000001) vs = mask [false, false, false, false, false, false, true, false, false, false, false, false, false, false, false, false, false, false, false, false, false, false, false, false, false, false, false, false, false, false, false, false, false, false, false, false, false, false, false, false, false, false, false, false, false, false, false, false, false, false, false, false, false, false, false, false, false, false, false, false, false, false, false, false, false, false, false, false, false, false, false, false, false, false, false, false, false, false, false, false, false, false, false, false, false, false, false, false] vs := nr rfl
theorem mk29_1000002 (vs : List V) : mask (maskOf en29.ms 1000002) vs = mask [false, true, true, true, false, false, true, false, false, false, false, false, false, false, false, false, false, false, false, false, false, false, false, false, false, false, false, false, true, true, true, false, false, false, false, false, false, false, false, false, false, false, false, false, false, false, false, false, false, false, false, false, false, false, false, false, false, false, false, false, false, false, false, false, false, false, false, false, false, false, false, false, false, false, false, false, false, false, false, false, false, false, false, false, false, false, false, false] vs := nr rfl
theorem mk29_1000003 (vs : List V) : mask (maskOf en29.ms 1000003) vs = mask [false, true, true, true, false, false, true, false, false, false, false, false, false, false, false, false, false, false, false, false, false, false, false, false, false, false, false, false, true, true, true, false, false, false, false, false, false, false, false, false, false, false, false, false, false, false, false, false, false, false, false, false, false, false, false, false, false, false, false, false, false, false, false, false, false, false, false, false, false, false, false, false, false, false, false, false, false, false, false, false, false, false, false, false, false, false, false, false] vs := nr rfl
theorem mk29_1000000 (vs : List V) : mask (maskOf en29.ms 1000000) vs = mask [false, false, false, false, false, false, true, true, false, false, false, false, false, false, false, false, false, false, false, false, false, false, false, false, false, false, false, false, false, false, false, false, false, false, false, false, false, false, false, false, false, false, false, false, false, false, false, false, false, false, false, false, false, false, false, false, false, false, false, false, false, false, false, false, false, false, false, false, false, false, false, false, false, false, false, false, false, false, false, false, false, false, false, false, false, false, false, false] vs := nr rfl
noncomputable def lb29_0 : Code := loopN Try.f29 0
def hd29_0 (t1 t2 t3 t6 t28 t29 t30 : V) : List V := [.und, t1, t2, t3, .und, .und, t6, .und, .und, .und, .und, .und, .und, .und, .und, .und, .und, .und, .und, .und, .und, .und, .und, .und, .und, .und, .und, .und, t28, t29, t30, .und, .und, .und, .und, .und, .und, .und, .und, .und, .und, .und, .und, .und, .und, .und, .und, .und, .und, .und, .und, .und, .und, .und, .und, .und, .und, .und, .und, .und, .und, .und, .und, .und, .und, .und, .und, .und, .und, .und, .und, .und, .und, .und, .und, .und, .und, .und, .und, .und, .und, .und, .und, .und, .und, .und, .und, .und]
def hx29_0 (t6 : V) : List V := [.und, .und, .und, .und, .und, .und, t6, .und, .und, .und, .und, .und, .und, .und, .und, .und, .und, .und, .und, .und, .und, .und, .und, .und, .und, .und, .und, .und, .und, .und, .und, .und, .und, .und, .und, .und, .und, .und, .und, .und, .und, .und, .und, .und, .und, .und, .und, .und, .und, .und, .und, .und, .und, .und, .und, .und, .und, .und, .und, .und, .und, .und, .und, .und, .und, .und, .und, .und, .und, .und, .und, .und, .und, .und, .und, .und, .und, .und, .und, .und, .und, .und, .und, .und, .und, .und, .und, .und]
def hx29_1 (t1 t2 t3 t6 t28 t29 t30 : V) : List V := [.und, t1, t2, t3, .und, .und, t6, .und, .und, .und, .und, .und, .und, .und, .und, .und, .und, .und, .und, .und, .und, .und, .und, .und, .und, .und, .und, .und, t28, t29, t30, .und, .und, .und, .und, .und, .und, .und, .und, .und, .und, .und, .und, .und, .und, .und, .und, .und, .und, .und, .und, .und, .und, .und, .und, .und, .und, .und, .und, .und, .und, .und, .und, .und, .und, .und, .und, .und, .und, .und, .und, .und, .und, .und, .und, .und, .und, .und, .und, .und, .und, .und, .und, .und, .und, .und, .und, .und]
def hx29_2 (t1 t2 t3 t6 t28 t29 t30 : V) : List V := [.und, t1, t2, t3, .und, .und, t6, .und, .und, .und, .und, .und, .und, .und, .und, .und, .und, .und, .und, .und, .und, .und, .und, .und, .und, .und, .und, .und, t28, t29, t30, .und, .und, .und, .und, .und, .und, .und, .und, .und, .und, .und, .und, .und, .und, .und, .und, .und, .und, .und, .und, .und, .und, .und, .und, .und, .und, .und, .und, .und, .und, .und, .und, .und, .und, .und, .und, .und, .und, .und, .und, .und, .und, .und, .und, .und, .und, .und, .und, .und, .und, .und, .und, .und, .und, .und, .und, .und]
def hr29 (t6 t7 : V) : List V := [.und, .und, .und, .und, .und, .und, t6, t7, .und, .und, .und, .und, .und, .und, .und, .und, .und, .und, .und, .und, .und, .und, .und, .und, .und, .und, .und, .und, .und, .und, .und, .und, .und, .und, .und, .und, .und, .und, .und, .und, .und, .und, .und, .und, .und, .und, .und, .und, .und, .und, .und, .und, .und, .und, .und, .und, .und, .und, .und, .und, .und, .und, .und, .und, .und, .und, .und, .und, .und, .und, .und, .und, .und, .und, .und, .und, .und, .und, .und, .und, .und, .und, .und, .und, .und, .und, .und, .und]
noncomputable def en30 : Entry := ⟨Try.f30, [(1000000, [false, false, false, false, true, true, false, false, false, false, false, false, false, false, false, false, false, false, false, false, false, false, false, false, false, false, false, false, false, false, false, false, false, false])]⟩
theorem mk30_1000000 (vs : List V) : mask (maskOf en30.ms 1000000) vs = mask [false, false, false, false, true, true, false, false, false, false, false, false, false, false, false, false, false, false, false, false, false, false, false, false, false, false, false, false, false, false, false, false, false, false] vs := nr rfl
def hr30 (t4 t5 : V) : List V := [.und, .und, .und, .und, t4, t5, .und, .und, .und, .und, .und, .und, .und, .und, .und, .und, .und, .und, .und, .und, .und, .und, .und, .und, .und, .und, .und, .und, .und, .und, .und, .und, .und, .und]
noncomputable def en31 : Entry := ⟨Try.f31, [(1000000, [false, false, false, false, true, true, false, false, false, false, false, false, false, false, false, false, false, false, false, false, false, false, false, false, false, false, false, false, false, false, false, false, false, false])]⟩
theorem mk31_1000000 (vs : List V) : mask (maskOf en31.ms 1000000) vs = mask [false, false, false, false, true, true, false, false, false, false, false, false, false, false, false, false, false, false, false, false, false, false, false, false, false, false, false, false, false, false, false, false, false, false] vs := nr rfl
def hr31 (t4 t5 : V) : List V := [.und, .und, .und, .und, t4, t5, .und, .und, .und, .und, .und, .und, .und, .und, .und, .und, .und, .und, .und, .und, .und, .und, .und, .und, .und, .und, .und, .und, .und, .und, .und, .und, .und, .und]
noncomputable def en72 : Entry := ⟨Try.f72, [(0, [true, true, false, false, false, false, false, true, true, false, false, false, false, false, false, false, false, false, false]), (1000001, [false, false, false, false, false, false, false, false, false, false, false, false, false, false, false, false, false, false, false]), (1000002, [true, true, false, false, false, false, false, true, true, false, false, false, false, false, false, false, false, false, false]), (1000000, [false, false, false, false, true, false, false, false, false, false, false, false, false, false, false, false, false, false, false])]⟩
theorem mk72_0 (vs : List V) : mask (maskOf en72.ms 0) vs = mask [true, true, false, false, false, false, false, true, true, false, false, false, false, false, false, false, false, false, false] vs := nr rfl
theorem mk72_1000001 (vs : List V) : mask (maskOf en72.ms 1000001) vs = mask [false, false, false, false, false, false, false, false, false, false, false, false, false, false, false, false, false, false, false] vs := nr rfl
theorem mk72_1000002 (vs : List V) : mask (maskOf en72.ms 1000002) vs = mask [true, true, false, false, false, false, false, true, true, false, false, false, false, false, false, false, false, false, false] vs := nr rfl
theorem mk72_1000000 (vs : List V) : mask (maskOf en72.ms 1000000) vs = mask [false, false, false, false, true, false, false, false, false, false, false, false, false, false, false, false, false, false, false] vs := nr rfl
noncomputable def lb72_0 : Code := loopN Try.f72 0
def hd72_0 (t0 t1 t7 t8 : V) : List V := [t0, t1, .und, .und, .und, .und, .und, t7, t8, .und, .und, .und, .und, .und, .und, .und, .und, .und, .und]
def hx72_0 : List V := [.und, .und, .und, .und, .und, .und, .und, .und, .und, .und, .und, .und, .und, .und, .und, .und, .und, .und, .und]
def hx72_1 (t0 t1 t7 t8 : V) : List V := [t0, t1, .und, .und, .und, .und, .und, t7, t8, .und, .und, .und, .und, .und, .und, .und, .und, .und, .und]
def hr72 (t4 : V) : List V := [.und, .und, .und, .und, t4, .und, .und, .und, .und, .und, .und, .und, .und, .und, .und, .und, .und, .und, .und]
noncomputable def en73 : Entry := ⟨Try.f73, [(1000000, [false, false, false, true, false, false, false, false])]⟩
theorem mk73_1000000 (vs : List V) : mask (maskOf en73.ms 1000000) vs = mask [false, false, false, true, false, false, false, false] vs := nr rfl
def hr73 (t3 : V) : List V := [.und, .und, .und, t3, .und, .und, .und, .und]
noncomputable def en74 : Entry := ⟨Try.f74, [(0, [true, true, false, false, false, false, false, true, true, false, false, false, false, false, false, false, false, false, false]), (1000001, [false, false, false, false, false, false, false, false, false, false, false, false, false, false, false, false, false, false, false]), (1000002, [true, true, false, false, false, false, false, true, true, false, false, false, false, false, false, false, false, false, false]), (1000000, [false, false, false, false, true, false, false, false, false, false, false, false, false, false, false, false, false, false, false])]⟩
theorem mk74_0 (vs : List V) : mask (maskOf en74.ms 0) vs = mask [true, true, false, false, false, false, false, true, true, false, false, false, false, false, false, false, false, false, false] vs := nr rfl
theorem mk74_1000001 (vs : List V) : mask (maskOf en74.ms 1000001) vs = mask [false, false, false, false, false, false, false, false, false, false, false, false, false, false, false, false, false, false, false] vs := nr rfl
theorem mk74_1000002 (vs : List V) : mask (maskOf en74.ms 1000002) vs = mask [true, true, false, false, false, false, false, true, true, false, false, false, false, false, false, false, false, false, false] vs := nr rfl
theorem mk74_1000000 (vs : List V) : mask (maskOf en74.ms 1000000) vs = mask [false, false, false, false, true, false, false, false, false, false, false, false, false, false, false, false, false, false, false] vs := nr rfl
noncomputable def lb74_0 : Code := loopN Try.f74 0
def hd74_0 (t0 t1 t7 t8 : V) : List V := [t0, t1, .und, .und, .und, .und, .und, t7, t8, .und, .und, .und, .und, .und, .und, .und, .und, .und, .und]
def hx74_0 : List V := [.und, .und, .und, .und, .und, .und, .und, .und, .und, .und, .und, .und, .und, .und, .und, .und, .und, .und, .und]
def hx74_1 (t0 t1 t7 t8 : V) : List V := [t0, t1, .und, .und, .und, .und, .und, t7, t8, .und, .und, .und, .und, .und, .und, .und, .und, .und, .und]
def hr74 (t4 : V) : List V := [.und, .und, .und, .und, t4, .und, .und, .und, .und, .und, .und, .und, .und, .und, .und, .und, .und, .und, .und]
noncomputable def en75 : Entry := ⟨Try.f75, [(1000000, [false, false, false, true, false, false, false, false])]⟩
theorem mk75_1000000 (vs : List V) : mask (maskOf en75.ms 1000000) vs = mask [false, false, false, true, false, false, false, false] vs := nr rfl
def hr75 (t3 : V) : List V := [.und, .und, .und, t3, .und, .und, .und, .und]
noncomputable def en76 : Entry := ⟨Try.f76, [(0, [true, true, false, false, false, false, false, true, true, false, false, false, false, false, false, false, false, false, false]), (1000001, [false, false, false, false, false, false, false, false, false, false, false, false, false, false, false, false, false, false, false]), (1000002, [true, true, false, false, false, false, false, true, true, false, false, false, false, false, false, false, false, false, false]), (1000000, [false, false, false, false, true, false, false, false, false, false, false, false, false, false, false, false, false, false, false])]⟩
theorem mk76_0 (vs : List V) : mask (maskOf en76.ms 0) vs = mask [true, true, false, false, false, false, false, true, true, false, false, false, false, false, false, false, false, false, false] vs := nr rfl
theorem mk76_1000001 (vs : List V) : mask (maskOf en76.ms 1000001) vs = mask [false, false, false, false, false, false, false, false, false, false, false, false, false, false, false, false, false, false, false] vs := nr rfl
theorem mk76_1000002 (vs : List V) : mask (maskOf en76.ms 1000002) vs = mask [true, true, false, false, false, false, false, true, true, false, false, false, false, false, false, false, false, false, false] vs := nr rfl
theorem mk76_1000000 (vs : List V) : mask (maskOf en76.ms 1000000) vs = mask [false, false, false, false, true, false, false, false, false, false, false, false, false, false, false, false, false, false, false] vs := nr rfl
noncomputable def lb76_0 : Code := loopN Try.f76 0
def hd76_0 (t0 t1 t7 t8 : V) : List V := [t0, t1, .und, .und, .und, .und, .und, t7, t8, .und, .und, .und, .und, .und, .und, .und, .und, .und, .und]
def hx76_0 : List V := [.und, .und, .und, .und, .und, .und, .und, .und, .und, .und, .und, .und, .und, .und, .und, .und, .und, .und, .und]
def hx76_1 (t0 t1 t7 t8 : V) : List V := [t0, t1, .und, .und, .und, .und, .und, t7, t8, .und, .und, .und, .und, .und, .und, .und, .und, .und, .und]
def hr76 (t4 : V) : List V := [.und, .und, .und, .und, t4, .und, .und, .und, .und, .und, .und, .und, .und, .und, .und, .und, .und, .und, .und]
noncomputable def en77 : Entry := ⟨Try.f77, [(1000000, [false, false, false, true, false, false, false, false])]⟩
theorem mk77_1000000 (vs : List V) : mask (maskOf en77.ms 1000000) vs = mask [false, false, false, true, false, false, false, false] vs := nr rfl
def hr77 (t3 : V) : List V := [.und, .und, .und, t3, .und, .und, .und, .und]
noncomputable def en78 : Entry := ⟨Try.f78, [(0, [false, true, true, false, false, false, false, false, false, false, false, false, false, false, false, false, false, false, false, false, false, false]), (1000001, [false, true, true, false, false, false, false, false, false, false, false, false, false, false, false, false, false, false, false, false, false, false]), (1000002, [false, true, true, false, false, false, false, false, false, false, false, false, false, false, false, false, false, false, false, false, false, false]), (1000000, [false, false, true, true, false, false, false, false, false, false, false, false, false, false, false, false, false, false, false, false, false, false])]⟩
theorem mk78_0 (vs : List V) : mask (maskOf en78.ms 0) vs = mask [false, true, true, false, false, false, false, false, false, false, false, false, false, false, false, false, false, false, false, false, false, false] vs := nr rfl
theorem mk78_1000001 (vs : List V) : mask (maskOf en78.ms 1000001) vs = mask [false, true, true, false, false, false, false, false, false, false, false, false, false, false, false, false, false, false, false, false, false, false] vs := nr rfl
theorem mk78_1000002 (vs : List V) : mask (maskOf en78.ms 1000002) vs = mask [false, true, true, false, false, false, false, false, false, false, false, false, false, false, false, false, false, false, false, false, false, false] vs := nr rfl
theorem mk78_1000000 (vs : List V) : mask (maskOf en78.ms 1000000) vs = mask [false, false, true, true, false, false, false, false, false, false, false, false, false, false, false, false, false, false, false, false, false, false] vs := nr rfl
noncomputable def lb78_0 : Code := loopN Try.f78 0
def hd78_0 (t1 t2 : V) : List V := [.und, t1, t2, .und, .und, .und, .und, .und, .und, .und, .und, .und, .und, .und, .und, .und, .und, .und, .und, .und, .und, .und]
def hx78_0 (t1 t2 : V) : List V := [.und, t1, t2, .und, .und, .und, .und, .und, .und, .und, .und, .und, .und, .und, .und, .und, .und, .und, .und, .und, .und, .und]
def hx78_1 (t1 t2 : V) : List V := [.und, t1, t2, .und, .und, .und, .und, .und, .und, .und, .und, .und, .und, .und, .und, .und, .und, .und, .und, .und, .und, .und]
def hr78 (t2 t3 : V) : List V := [.und, .und, t2, t3, .und, .und, .und, .und, .und, .und, .und, .und, .und, .und, .und, .und, .und, .und, .und, .und, .und, .und]
theorem mixed : Try.prog.follows .mixedOrders = true := by kernel_rfl
end Go.Proofs.YtmhjmjodchbhlaaR.FxDir
end
section
set_option linter.unusedVariables false
set_option linter.unusedSimpArgs false
set_option maxRecDepth 100000
namespace Go.Proofs.YtmhjmjodchbhlaaR.FitDir
open Go.Ev Go.Ari Go.Proofs.YtmhjmjodchbhlaaR.FxDir Go.Proofs.YtmhjmjodchbhlaaR.PullPull
open Go.Proofs.YtmhjmjodchbhlaaR.FaultRate (chkV)
open Go.Proofs.YtmhjmjodchbhlaaR.OwnRate (sChk sChk_run chk_ok)
open Go.Proofs.YtmhjmjodchbhlaaR.Pull2Pull (okV_spec)
attribute [local go_sem] Ev.putR_s Ev.putR_0 Ev.thenO_s Ev.thenO_0 Ev.seqR_n Ev.seqR_e Ev.seqR_r Ev.seqR_0 Ev.blkR_e Ev.blkR_n Ev.blkR_r Ev.blkR_0 Ev.normR_s Ev.normR_0 Ev.outR_r Ev.outR_n Ev.outR_0 Ev.retS_s Ev.retS_0 Ev.pureO_s Ev.pureO_0 Ev.topR_0 Ev.topR_t Ev.topR_t0 Ev.oneL_0 Ev.oneL_s Ev.topR_d Ev.topR_nils Ev.topR_agg Ev.topR_rs Ev.evOp_move Ev.evOp_assign Ev.evOp_pick Ev.evOp_alloc Ev.evOp_box Ev.evOp_build Ev.evOp_buildSlice Ev.evOp_load Ev.evOp_store Ev.evOp_makeMap Ev.evOp_lookup Ev.evOp_mapUpdate Ev.evOp_insert Ev.evOp_nilCheck Ev.evOp_binOp Ev.evOp_unOp Ev.evOp_convert Ev.evOp_makeFunc Ev.evOp_makeSlice Ev.evOp_slice Ev.evOp_fieldAddr Ev.evOp_field Ev.evOp_indexAddr Ev.evOp_index Ev.evOp_extract Ev.evOp_call Ev.evOp_append Ev.evOp_len Ev.evOp_min Ev.evOp_max Ev.condR_b Ev.condR_t Ev.evOps_nil Ev.evOps_plain Ev.evOps_guard Ev.runG_eq Ev.skipG_eq Ev.condL_tt Ev.condL_ff Ev.condL_tf Ev.condL_ft Ev.condL_u Ev.condC_t Ev.condC_f Ev.evC_skip Ev.evC_ret Ev.evC_exit Ev.evC_label Ev.evC_region Ev.evC_draw Ev.evC_seq Ev.evC_cond Ev.evC_block Ev.evC_loop Ev.fin_d Ev.fin_nils Ev.fin_agg_ Ev.fin_rs Ev.finS_s Ev.mapO_fin Ev.upd_upd Ev.argv_d Ev.argv_nils Ev.argv_agg Ev.argv_rs Ev.argv_p Ev.appendTo_nils Ev.appendTo_rs Ev.consV_d Ev.consV_agg Ev.consV_p Ev.consV_rs Ev.consV_nils Ev.consV_fn Ev.consV_und Ev.consV_jk Ev.consV_grown Ev.topR_grown Ev.len_grown Ev.consV_mp Ev.sameK_i Ev.sameK_s Ev.mget_0 Ev.mget_hit Ev.mget_miss Ev.mput_0 Ev.mput_hit Ev.mput_miss Ev.apartAll Ev.apartL Ev.apartV Ev.freeAll Ev.sel Ev.keyOfV Ev.evLookup Ev.evPut Ev.hintOk Ev.keyOk Ev.consP Ev.lookV Ev.guardV Ev.dstAt Ev.evPure Ev.evStore Ev.evPureB Ev.evBin Ev.evBinO Ev.evNil Ev.isNilC Ev.evUn Ev.evConv Ev.evSlice Ev.optI Ev.lenV Ev.elemT Ev.foldI Ev.capsOk Ev.noTup Ev.nth Ev.setN Ev.pad Ev.V.get Ev.V.put Ev.putD Ev.hasT Ev.newBlk Ev.upd Ev.keq Ev.empty Ev.evCall Ev.V.args Ev.argP Ev.callOf Ev.evNilP Ev.isNilP Ev.look Ev.V.view.views Ev.V.view Ev.V.toD Ev.V.toD.V.toDs Ev.V.pure.pures Ev.V.pure Ev.D.flat.flats Ev.D.flat Ev.mkAgg Ev.allD Ev.aggParts Ev.setParts Ev.setElems Ev.getPath Ev.setPath Ev.subL Ev.eqD Ev.eqD.eqDs Ev.and2 Ev.strCut Ev.evalT Ev.constT Ev.evArgs Ev.mask Ev.maskOf Ev.tableOf Ev.compT Ev.resV Ev.retV Ev.mapO Ev.elemsOf Int.cast_ofNat_Int IntWalk.i64_in IntWalk.u64_in IntWalk.u8_in beq_self_eq_true Bool.true_beq Bool.false_beq Bool.and_true Bool.true_and Bool.false_and Bool.and_false Bool.and_self Bool.not_true Bool.not_false Bool.not_eq_true cond_true cond_false if_true if_false and_true true_and and_self decide_true decide_false Bool.or_true Bool.true_or Bool.or_false Bool.false_or List.isEmpty List.isEmpty_nil List.size_toArray List.map List.length_map List.length_cons List.length_nil Option.map Option.bind Option.getD Option.isSome List.replicate Bool.false_eq_true implies_true forall_const Array.toList Array.isEmpty List.append List.nil_append List.cons_append List.drop_zero List.take_length List.take_succ_cons List.take_zero List.take_nil List.getElem?_map List.getElem?_cons_zero List.getElem?_cons_succ List.getElem?_nil List.append_nil
attribute [local go_sem] FxDir.tk2 FxDir.ik2 FxDir.ek2 FxDir.zv2 FxDir.tk3 FxDir.ik3 FxDir.zv3 FxDir.tk4 FxDir.ub4 FxDir.zv4 FxDir.tk23 FxDir.ct23 FxDir.ek23 FxDir.zv23 FxDir.tk27 FxDir.ik27 FxDir.zv27 FxDir.tk37 FxDir.ik37 FxDir.zv37 FxDir.by37 FxDir.so37 FxDir.tk39 FxDir.ct39 FxDir.zv39 FxDir.by39 FxDir.so39 FxDir.tk43 FxDir.zv43 FxDir.tk44 FxDir.zv44 FxDir.tk45 FxDir.zv45 FxDir.tk47 FxDir.ct47 FxDir.zv47 FxDir.tk48 FxDir.ik48 FxDir.zv48 FxDir.tk76 FxDir.ct76 FxDir.zv76 FxDir.by76 FxDir.so76 FxDir.tk77 FxDir.zv77 FxDir.tk79 FxDir.ct79 FxDir.zv79 FxDir.by79 FxDir.so79 FxDir.tk102 FxDir.zv102 FxDir.tk108 FxDir.zv108 FxDir.tk110 FxDir.ek110 FxDir.zv110 FxDir.tk111 FxDir.ek111 FxDir.zv111 FxDir.tk112 FxDir.zv112 FxDir.tk114 FxDir.ct114 FxDir.zv114 FxDir.by114 FxDir.so114 FxDir.tk116 FxDir.zv116 FxDir.tk118 FxDir.zv118 FxDir.mk9_1000000 FxDir.mk28_1000000 FxDir.mk29_0 FxDir.mk29_1000001 FxDir.mk29_1000002 FxDir.mk29_1000003 FxDir.mk29_1000000 FxDir.mk30_1000000 FxDir.mk31_1000000 FxDir.mk72_0 FxDir.mk72_1000001 FxDir.mk72_1000002 FxDir.mk72_1000000 FxDir.mk73_1000000 FxDir.mk74_0 FxDir.mk74_1000001 FxDir.mk74_1000002 FxDir.mk74_1000000 FxDir.mk75_1000000 FxDir.mk76_0 FxDir.mk76_1000001 FxDir.mk76_1000002 FxDir.mk76_1000000 FxDir.mk77_1000000 FxDir.mk78_0 FxDir.mk78_1000001 FxDir.mk78_1000002 FxDir.mk78_1000000
def halfV (v : Vec) : Vec := (v.1.tdiv 2, v.2.1.tdiv 2, v.2.2.tdiv 2)
def fitN : Nat → Vec → Vec
  | 0, v => v
  | n + 1, v => if okV 1048576 v = true then v else fitN n (halfV v)
def fitR (v : Vec) : Vec × Int := if v = (0, 0, 0) then (v, 8) else (fitN 3 v, 0)
def lim : Nat → Int
  | 0 => 1048576
  | n + 1 => 2 * lim n
theorem lim_ge (n : Nat) : 1048576 ≤ lim n := by
  induction n with
  | zero => exact Int.le_refl _
  | succ n ih => simp only [lim]; omega
theorem half_in {c m : Int} (h0 : -(2 * m) ≤ c) (h1 : c ≤ 2 * m) : -m ≤ c.tdiv 2 ∧ c.tdiv 2 ≤ m := by
  rcases Int.le_total 0 c with h | h
  · rw [Int.tdiv_eq_ediv_of_nonneg h]; omega
  · have : c.tdiv 2 = -((-c) / 2) := by
      rw [← Int.tdiv_eq_ediv_of_nonneg (show 0 ≤ -c by omega), Int.neg_tdiv, Int.neg_neg]
    omega
theorem half_ne {c : Int} (h : c < -1048576 ∨ c > 1048576) : ¬ c.tdiv 2 = 0 := by
  rcases Int.le_total 0 c with h2 | h2
  · rw [Int.tdiv_eq_ediv_of_nonneg h2]; omega
  · have : c.tdiv 2 = -((-c) / 2) := by
      rw [← Int.tdiv_eq_ediv_of_nonneg (show 0 ≤ -c by omega), Int.neg_tdiv, Int.neg_neg]
    omega
def inL (m : Int) (v : Vec) : Prop := (-m ≤ v.1 ∧ v.1 ≤ m) ∧ (-m ≤ v.2.1 ∧ v.2.1 ≤ m) ∧ (-m ≤ v.2.2 ∧ v.2.2 ≤ m)
theorem okV_in {m : Int} {v : Vec} (h : inL m v) : okV m v = true := by
  obtain ⟨⟨h1, h2⟩, ⟨h3, h4⟩, h5, h6⟩ := h
  simp [okV, inn, h1, h2, h3, h4, h5, h6]
theorem okV_out {v : Vec} (h : ¬ okV 1048576 v = true) : (v.1 < -1048576 ∨ v.1 > 1048576) ∨ (v.2.1 < -1048576 ∨ v.2.1 > 1048576) ∨ (v.2.2 < -1048576 ∨ v.2.2 > 1048576) := by
  apply Classical.byContradiction
  intro hn
  exact h (okV_in ⟨⟨by omega, by omega⟩, ⟨by omega, by omega⟩, by omega, by omega⟩)
noncomputable def sFit : Ev.Spec := specC (cOne cV) (inL 8388608) fun v => [vD (fitR v).1, .int .i64 (fitR v).2]
theorem sFit_run (x y z : Int) (h : inL 8388608 (x, y, z)) : sFit.run [.agg 23 [.int .i64 x, .int .i64 y, .int .i64 z]] = some [vD (fitR (x, y, z)).1, .int .i64 (fitR (x, y, z)).2] := specC_run (cOne cV) _ _ (x, y, z) h
noncomputable def G : Specs := [(93, sChk)]
noncomputable def T : Table := tableOf [(78, en78)]
theorem G_ok : ∀ g s, Ev.look G g = some s → SpecOk Try.prog g s := specs_cons chk_ok specs_nil
theorem T_ok : TableOk Try.prog (G.map (·.1)) T := (table_cons Try.func78 (by kernel_rfl) (by kernel_rfl) table_nil)
def blk (v : Vec) : Blk := ⟨1, 23, [.d (vD v)], true⟩
def hd : List V := hd78_0 (.p (0, 1) 1 0 []) (.p (0, 2) 1 0 [])
def J (x : Nat × Vec × Store) : Prop := x.2.2 (0, 1) = blk x.2.1 ∧ x.2.2 (0, 2) = blk (0, 0, 0) ∧ inL (lim x.1) x.2.1 ∧ ¬ x.2.1 = (0, 0, 0) ∧ x.1 ≤ 3
def Q (x : Nat × Vec × Store) (o : Out) : Prop := ∃ st', o = some (.exit 0, hx78_0 (.p (0, 1) 1 0 []) (.p (0, 2) 1 0 []), st') ∧ st' (0, 1) = blk (fitN x.1 x.2.1) ∧ st' (0, 2) = blk (0, 0, 0)
theorem loop (L : Nat) (call : Caller) :
    ∀ (m : Nat) (x : Nat × Vec × Store) (env : List V), J x → x.1 < m → mask (maskOf en78.ms 0) env = hd →
      Q x (iter (evC Try.prog G call L en78.ms 0 0 lb78_0) (maskOf en78.ms 0) m env x.2.2) := by
  refine iter_rel _ _ J (fun x => hd) (fun x => x.2.2) Q (fun x => x.1) ?_
  rintro ⟨n, ⟨a, b, c⟩, st⟩ ⟨q1, q2, hb, hz, hn⟩ k hk
  simp only at q1 q2 hb hz hn
  have rc := sChk_run a b c
  by_cases ho : okV 1048576 (a, b, c) = true
  · have e : chkV (a, b, c) = 0 := by unfold chkV; rw [if_pos ho, if_neg hz]
    have ef : fitN n (a, b, c) = (a, b, c) := by
      cases n with
      | zero => rfl
      | succ n => exact if_pos ho
    rw [e] at rc
    refine ⟨st, ?_, by rw [ef]; exact q1, q2⟩
    simp only [lb78_0, loopN, loops, hd, hd78_0, hx78_0, Try.f78, G, go_sem, Nat.reduceAdd, Nat.reduceSub, Nat.reduceMul, Nat.reduceEqDiff, Nat.reduceBEq, Nat.reduceLT, Nat.reduceLeDiff, Nat.reducePow, Int.reduceToNat, Int.reduceLT, Int.reduceLE, Int.reduceGT, Int.reduceGE, Int.reduceEq, Int.reduceNeg, Int.reduceAdd, Int.reduceSub, ↓reduceIte, reduceCtorEq, q1, blk, vD, rc]
  have e : chkV (a, b, c) = 4 := by unfold chkV; rw [if_neg ho]
  rw [e] at rc
  cases n with
  | zero => exact absurd (okV_in hb) ho
  | succ n =>
    have ef : fitN (n + 1) (a, b, c) = fitN n (halfV (a, b, c)) := if_neg ho
    have hl := lim_ge n
    obtain ⟨⟨a0, a1⟩, ⟨b0, b1⟩, c0, c1⟩ := hb
    simp only [lim] at a0 a1 b0 b1 c0 c1
    have ha := half_in a0 a1
    have hbb := half_in b0 b1
    have hc := half_in c0 c1
    have hlim : lim n ≤ 4194304 := by
      have : n = 0 ∨ n = 1 ∨ n = 2 := by omega
      rcases this with rfl | rfl | rfl <;> decide
    have v1 : IntKind.i64.wrap (a.tdiv 2) = a.tdiv 2 := wi_in (by omega) (by omega)
    have v2 : IntKind.i64.wrap (b.tdiv 2) = b.tdiv 2 := wi_in (by omega) (by omega)
    have v3 : IntKind.i64.wrap (c.tdiv 2) = c.tdiv 2 := wi_in (by omega) (by omega)
    have hz' : ¬ halfV (a, b, c) = (0, 0, 0) := by
      intro hq
      simp only [halfV, Prod.mk.injEq] at hq
      rcases okV_out ho with h | h | h
      · exact half_ne h hq.1
      · exact half_ne h hq.2.1
      · exact half_ne h hq.2.2
    have hstep := fun st1 env h1 h2 h3 => (hk (n, halfV (a, b, c), st1) env h1 h2 h3 : Q (n, halfV (a, b, c), st1) _)
    have hQ : ∀ st1 o, Q (n, halfV (a, b, c), st1) o → Q (n + 1, (a, b, c), st) o := by
      rintro st1 o ⟨st', h1, h2, h3⟩
      exact ⟨st', h1, by rw [ef]; exact h2, h3⟩
    simp only [lb78_0, loopN, loops, hd, hd78_0, Try.f78, G, go_sem, Nat.reduceAdd, Nat.reduceSub, Nat.reduceMul, Nat.reduceEqDiff, Nat.reduceBEq, Nat.reduceLT, Nat.reduceLeDiff, Nat.reducePow, Int.reduceToNat, Int.reduceLT, Int.reduceLE, Int.reduceGT, Int.reduceGE, Int.reduceEq, Int.reduceNeg, Int.reduceAdd, Int.reduceSub, ↓reduceIte, reduceCtorEq, q1, blk, vD, rc, v1, v2, v3]
    exact hQ _ _ (hstep _ _ ⟨by simp only [go_sem, Nat.reduceAdd, Nat.reduceSub, Nat.reduceMul, Nat.reduceEqDiff, Nat.reduceBEq, Nat.reduceLT, Nat.reduceLeDiff, Nat.reducePow, Int.reduceToNat, Int.reduceLT, Int.reduceLE, Int.reduceGT, Int.reduceGE, Int.reduceEq, Int.reduceNeg, Int.reduceAdd, Int.reduceSub, ↓reduceIte, reduceCtorEq, blk, vD, halfV], by simp only [go_sem, Nat.reduceAdd, Nat.reduceSub, Nat.reduceMul, Nat.reduceEqDiff, Nat.reduceBEq, Nat.reduceLT, Nat.reduceLeDiff, Nat.reducePow, Int.reduceToNat, Int.reduceLT, Int.reduceLE, Int.reduceGT, Int.reduceGE, Int.reduceEq, Int.reduceNeg, Int.reduceAdd, Int.reduceSub, ↓reduceIte, reduceCtorEq, q2], ⟨ha, hbb, hc⟩, hz', by simp only; omega⟩ (by simp only; omega) (by simp only [hd, hd78_0, go_sem, Nat.reduceAdd, Nat.reduceSub, Nat.reduceMul, Nat.reduceEqDiff, Nat.reduceBEq, Nat.reduceLT, Nat.reduceLeDiff, Nat.reducePow, Int.reduceToNat, Int.reduceLT, Int.reduceLE, Int.reduceGT, Int.reduceGE, Int.reduceEq, Int.reduceNeg, Int.reduceAdd, Int.reduceSub, ↓reduceIte, reduceCtorEq]))
theorem loop_then {R : Out → Prop} {o : Out} {P : Program} {rs : List ResultVar} {id : Nat} {k : Run} {res : Option (List D)} (hR : R o) (h : ∀ o, R o → topR (outR P rs (seqR (blkR id o) k)) = res) : topR (outR P rs (seqR (blkR id o) k)) = res := h o hR
theorem eFit (x y z : Int) (h : inL 8388608 (x, y, z)) : evTop Try.prog G T 4 1 78 [.agg 23 [.int .i64 x, .int .i64 y, .int .i64 z]] = some [vD (fitR (x, y, z)).1, .int .i64 (fitR (x, y, z)).2] := by
  unfold evTop
  simp only [List.map]
  rw [evF_s (fn := Try.f78) (msk := en78.ms) (hT := by rfl) (hb := by rfl)]
  unfold fitR
  have hc : ∀ c1 : ¬ (x, y, z) = ((0, 0, 0) : Vec), (decide (x = 0) && (decide (y = 0) && decide (z = 0))) = false := by
    intro c1
    cases h1 : decide (x = 0) <;> cases h2 : decide (y = 0) <;> cases h3 : decide (z = 0) <;> simp_all
  by_cases c1 : (x, y, z) = ((0, 0, 0) : Vec)
  · rw [if_pos c1]
    simp only [Prod.mk.injEq] at c1
    simp only [Try.f78, G, go_sem, Nat.reduceAdd, Nat.reduceSub, Nat.reduceMul, Nat.reduceEqDiff, Nat.reduceBEq, Nat.reduceLT, Nat.reduceLeDiff, Nat.reducePow, Int.reduceToNat, Int.reduceLT, Int.reduceLE, Int.reduceGT, Int.reduceGE, Int.reduceEq, Int.reduceNeg, Int.reduceAdd, Int.reduceSub, ↓reduceIte, reduceCtorEq, decide_eq_true c1.1, decide_eq_true c1.2.1, decide_eq_true c1.2.2, vD]
  rw [if_neg c1]
  have hcc := hc c1
  simp only [Try.f78, G, go_sem, Nat.reduceAdd, Nat.reduceSub, Nat.reduceMul, Nat.reduceEqDiff, Nat.reduceBEq, Nat.reduceLT, Nat.reduceLeDiff, Nat.reducePow, Int.reduceToNat, Int.reduceLT, Int.reduceLE, Int.reduceGT, Int.reduceGE, Int.reduceEq, Int.reduceNeg, Int.reduceAdd, Int.reduceSub, ↓reduceIte, reduceCtorEq, hcc]
  refine loop_then (R := Q (3, (x, y, z), _)) (loop _ _ _ (3, (x, y, z), _) _ ⟨by simp only [go_sem, Nat.reduceAdd, Nat.reduceSub, Nat.reduceMul, Nat.reduceEqDiff, Nat.reduceBEq, Nat.reduceLT, Nat.reduceLeDiff, Nat.reducePow, Int.reduceToNat, Int.reduceLT, Int.reduceLE, Int.reduceGT, Int.reduceGE, Int.reduceEq, Int.reduceNeg, Int.reduceAdd, Int.reduceSub, ↓reduceIte, reduceCtorEq, blk, vD], by simp only [go_sem, Nat.reduceAdd, Nat.reduceSub, Nat.reduceMul, Nat.reduceEqDiff, Nat.reduceBEq, Nat.reduceLT, Nat.reduceLeDiff, Nat.reducePow, Int.reduceToNat, Int.reduceLT, Int.reduceLE, Int.reduceGT, Int.reduceGE, Int.reduceEq, Int.reduceNeg, Int.reduceAdd, Int.reduceSub, ↓reduceIte, reduceCtorEq, blk, vD], h, c1, Nat.le_refl 3⟩ (by simp only; omega) (by simp only [hd, hd78_0, go_sem, Nat.reduceAdd, Nat.reduceSub, Nat.reduceMul, Nat.reduceEqDiff, Nat.reduceBEq, Nat.reduceLT, Nat.reduceLeDiff, Nat.reducePow, Int.reduceToNat, Int.reduceLT, Int.reduceLE, Int.reduceGT, Int.reduceGE, Int.reduceEq, Int.reduceNeg, Int.reduceAdd, Int.reduceSub, ↓reduceIte, reduceCtorEq])) ?_
  rintro o ⟨st', rfl, q1, q2⟩
  simp only at q1
  simp only [hx78_0, Try.f78, G, go_sem, Nat.reduceAdd, Nat.reduceSub, Nat.reduceMul, Nat.reduceEqDiff, Nat.reduceBEq, Nat.reduceLT, Nat.reduceLeDiff, Nat.reducePow, Int.reduceToNat, Int.reduceLT, Int.reduceLE, Int.reduceGT, Int.reduceGE, Int.reduceEq, Int.reduceNeg, Int.reduceAdd, Int.reduceSub, ↓reduceIte, reduceCtorEq, q1, q2, blk, vD]
theorem fit_ok : SpecOk Try.prog 78 sFit := specC_ok mixed G_ok T_ok fun v h => ⟨4, 1, eFit v.1 v.2.1 v.2.2 h⟩
#print axioms fit_ok
/-! ### Toward and Headed -/
def towardR (a b : Vec) : Vec × Int := if okV 4194304 a = true ∧ okV 4194304 b = true then fitR (b.1 - a.1, b.2.1 - a.2.1, b.2.2 - a.2.2) else ((0, 0, 0), 4)
noncomputable def cVV : CodL (Vec × Vec) := cCons cV (cOne cV)
noncomputable def sToward : Ev.Spec := specC cVV (fun _ => True) fun x => [vD (towardR x.1 x.2).1, .int .i64 (towardR x.1 x.2).2]
theorem sToward_run (a b : Vec) : sToward.run [vD a, vD b] = some [vD (towardR a b).1, .int .i64 (towardR a b).2] := specC_run cVV _ _ (a, b) trivial
noncomputable def GA : Specs := [(46, sIn), (78, sFit)]
noncomputable def TA : Table := tableOf [(30, en30)]
theorem GA_ok : ∀ g s, Ev.look GA g = some s → SpecOk Try.prog g s := specs_cons within_ok (specs_cons fit_ok specs_nil)
theorem TA_ok : TableOk Try.prog (GA.map (·.1)) TA := (table_cons Try.func30 (by kernel_rfl) (by kernel_rfl) table_nil)
theorem eA (p q : Vec) : evTop Try.prog GA TA 0 1 30 [vD p, vD q] = some [vD (towardR p q).1, .int .i64 (towardR p q).2] := by
  obtain ⟨a, b, c⟩ := p
  obtain ⟨x, y, z⟩ := q
  have r1 := sIn_run a b c 4194304 (by decide) (by decide)
  have r2 := sIn_run x y z 4194304 (by decide) (by decide)
  simp only [vD]
  unfold evTop
  simp only [List.map]
  rw [evF_s (fn := Try.f30) (msk := en30.ms) (hT := by rfl) (hb := by rfl)]
  unfold towardR
  by_cases c1 : okV 4194304 (a, b, c) = true
  case neg =>
    rw [if_neg (fun q => c1 q.1)]
    have c1' : okV 4194304 (a, b, c) = false := by simpa using c1
    simp only [Try.f30, GA, go_sem, Nat.reduceAdd, Nat.reduceSub, Nat.reduceMul, Nat.reduceEqDiff, Nat.reduceBEq, Nat.reduceLT, Nat.reduceLeDiff, Nat.reducePow, Int.reduceToNat, Int.reduceLT, Int.reduceLE, Int.reduceGT, Int.reduceGE, Int.reduceEq, Int.reduceNeg, Int.reduceAdd, Int.reduceSub, ↓reduceIte, reduceCtorEq, r1, c1']
  by_cases c2 : okV 4194304 (x, y, z) = true
  case neg =>
    rw [if_neg (fun q => c2 q.2)]
    have c2' : okV 4194304 (x, y, z) = false := by simpa using c2
    simp only [Try.f30, GA, go_sem, Nat.reduceAdd, Nat.reduceSub, Nat.reduceMul, Nat.reduceEqDiff, Nat.reduceBEq, Nat.reduceLT, Nat.reduceLeDiff, Nat.reducePow, Int.reduceToNat, Int.reduceLT, Int.reduceLE, Int.reduceGT, Int.reduceGE, Int.reduceEq, Int.reduceNeg, Int.reduceAdd, Int.reduceSub, ↓reduceIte, reduceCtorEq, r1, c1, r2, c2']
  rw [if_pos ⟨c1, c2⟩]
  obtain ⟨⟨a0, a1⟩, ⟨b0, b1⟩, c0, c3⟩ := okV_spec c1
  obtain ⟨⟨x0, x1⟩, ⟨y0, y1⟩, z0, z1⟩ := okV_spec c2
  simp only at a0 a1 b0 b1 c0 c3 x0 x1 y0 y1 z0 z1
  have v1 : IntKind.i64.wrap (x - a) = x - a := wi_in (by omega) (by omega)
  have v2 : IntKind.i64.wrap (y - b) = y - b := wi_in (by omega) (by omega)
  have v3 : IntKind.i64.wrap (z - c) = z - c := wi_in (by omega) (by omega)
  have rf := sFit_run (x - a) (y - b) (z - c) ⟨⟨by simp only; omega, by simp only; omega⟩, ⟨by simp only; omega, by simp only; omega⟩, by simp only; omega, by simp only; omega⟩
  generalize fitR (x - a, y - b, z - c) = F at *
  unfold vD at rf
  simp only [Try.f30, GA, go_sem, Nat.reduceAdd, Nat.reduceSub, Nat.reduceMul, Nat.reduceEqDiff, Nat.reduceBEq, Nat.reduceLT, Nat.reduceLeDiff, Nat.reducePow, Int.reduceToNat, Int.reduceLT, Int.reduceLE, Int.reduceGT, Int.reduceGE, Int.reduceEq, Int.reduceNeg, Int.reduceAdd, Int.reduceSub, ↓reduceIte, reduceCtorEq, r1, c1, r2, c2, v1, v2, v3, rf]
theorem toward_ok : SpecOk Try.prog 30 sToward := specC_ok mixed GA_ok TA_ok fun x _ => ⟨0, 1, eA x.1 x.2⟩
#print axioms toward_ok
noncomputable def GB : Specs := [(50, sIn), (78, sFit)]
noncomputable def TB : Table := tableOf [(31, en31)]
theorem GB_ok : ∀ g s, Ev.look GB g = some s → SpecOk Try.prog g s := specs_cons inside_ok (specs_cons fit_ok specs_nil)
theorem TB_ok : TableOk Try.prog (GB.map (·.1)) TB := (table_cons Try.func31 (by kernel_rfl) (by kernel_rfl) table_nil)
theorem eB (p q : Vec) : evTop Try.prog GB TB 0 1 31 [vD p, vD q] = some [vD (towardR p q).1, .int .i64 (towardR p q).2] := by
  obtain ⟨a, b, c⟩ := p
  obtain ⟨x, y, z⟩ := q
  have r1 := sIn_run a b c 4194304 (by decide) (by decide)
  have r2 := sIn_run x y z 4194304 (by decide) (by decide)
  simp only [vD]
  unfold evTop
  simp only [List.map]
  rw [evF_s (fn := Try.f31) (msk := en31.ms) (hT := by rfl) (hb := by rfl)]
  unfold towardR
  by_cases c1 : okV 4194304 (a, b, c) = true
  case neg =>
    rw [if_neg (fun q => c1 q.1)]
    have c1' : okV 4194304 (a, b, c) = false := by simpa using c1
    simp only [Try.f31, GB, go_sem, Nat.reduceAdd, Nat.reduceSub, Nat.reduceMul, Nat.reduceEqDiff, Nat.reduceBEq, Nat.reduceLT, Nat.reduceLeDiff, Nat.reducePow, Int.reduceToNat, Int.reduceLT, Int.reduceLE, Int.reduceGT, Int.reduceGE, Int.reduceEq, Int.reduceNeg, Int.reduceAdd, Int.reduceSub, ↓reduceIte, reduceCtorEq, r1, c1']
  by_cases c2 : okV 4194304 (x, y, z) = true
  case neg =>
    rw [if_neg (fun q => c2 q.2)]
    have c2' : okV 4194304 (x, y, z) = false := by simpa using c2
    simp only [Try.f31, GB, go_sem, Nat.reduceAdd, Nat.reduceSub, Nat.reduceMul, Nat.reduceEqDiff, Nat.reduceBEq, Nat.reduceLT, Nat.reduceLeDiff, Nat.reducePow, Int.reduceToNat, Int.reduceLT, Int.reduceLE, Int.reduceGT, Int.reduceGE, Int.reduceEq, Int.reduceNeg, Int.reduceAdd, Int.reduceSub, ↓reduceIte, reduceCtorEq, r1, c1, r2, c2']
  rw [if_pos ⟨c1, c2⟩]
  obtain ⟨⟨a0, a1⟩, ⟨b0, b1⟩, c0, c3⟩ := okV_spec c1
  obtain ⟨⟨x0, x1⟩, ⟨y0, y1⟩, z0, z1⟩ := okV_spec c2
  simp only at a0 a1 b0 b1 c0 c3 x0 x1 y0 y1 z0 z1
  have v1 : IntKind.i64.wrap (x - a) = x - a := wi_in (by omega) (by omega)
  have v2 : IntKind.i64.wrap (y - b) = y - b := wi_in (by omega) (by omega)
  have v3 : IntKind.i64.wrap (z - c) = z - c := wi_in (by omega) (by omega)
  have rf := sFit_run (x - a) (y - b) (z - c) ⟨⟨by simp only; omega, by simp only; omega⟩, ⟨by simp only; omega, by simp only; omega⟩, by simp only; omega, by simp only; omega⟩
  generalize fitR (x - a, y - b, z - c) = F at *
  unfold vD at rf
  simp only [Try.f31, GB, go_sem, Nat.reduceAdd, Nat.reduceSub, Nat.reduceMul, Nat.reduceEqDiff, Nat.reduceBEq, Nat.reduceLT, Nat.reduceLeDiff, Nat.reducePow, Int.reduceToNat, Int.reduceLT, Int.reduceLE, Int.reduceGT, Int.reduceGE, Int.reduceEq, Int.reduceNeg, Int.reduceAdd, Int.reduceSub, ↓reduceIte, reduceCtorEq, r1, c1, r2, c2, v1, v2, v3, rf]
theorem headed_ok : SpecOk Try.prog 31 sToward := specC_ok mixed GB_ok TB_ok fun x _ => ⟨0, 1, eB x.1 x.2⟩
#print axioms headed_ok
end Go.Proofs.YtmhjmjodchbhlaaR.FitDir
end
section
set_option linter.unusedVariables false
set_option linter.unusedSimpArgs false
set_option maxRecDepth 100000
namespace Go.Proofs.YtmhjmjodchbhlaaR.Idx131Rate
open Go.Ev Go.Proofs.YtmhjmjodchbhlaaR.FxRate
attribute [local go_sem] Ev.putR_s Ev.putR_0 Ev.thenO_s Ev.thenO_0 Ev.seqR_n Ev.seqR_e Ev.seqR_r Ev.seqR_0 Ev.blkR_e Ev.blkR_n Ev.blkR_r Ev.blkR_0 Ev.normR_s Ev.normR_0 Ev.outR_r Ev.outR_n Ev.outR_0 Ev.retS_s Ev.retS_0 Ev.pureO_s Ev.pureO_0 Ev.topR_0 Ev.topR_t Ev.topR_t0 Ev.oneL_0 Ev.oneL_s Ev.topR_d Ev.topR_nils Ev.topR_agg Ev.topR_rs Ev.evOp_move Ev.evOp_assign Ev.evOp_pick Ev.evOp_alloc Ev.evOp_box Ev.evOp_build Ev.evOp_buildSlice Ev.evOp_load Ev.evOp_store Ev.evOp_makeMap Ev.evOp_lookup Ev.evOp_mapUpdate Ev.evOp_insert Ev.evOp_nilCheck Ev.evOp_binOp Ev.evOp_unOp Ev.evOp_convert Ev.evOp_makeFunc Ev.evOp_makeSlice Ev.evOp_slice Ev.evOp_fieldAddr Ev.evOp_field Ev.evOp_indexAddr Ev.evOp_index Ev.evOp_extract Ev.evOp_call Ev.evOp_append Ev.evOp_len Ev.evOp_min Ev.evOp_max Ev.condR_b Ev.condR_t Ev.evOps_nil Ev.evOps_plain Ev.evOps_guard Ev.runG_eq Ev.skipG_eq Ev.condL_tt Ev.condL_ff Ev.condL_tf Ev.condL_ft Ev.condL_u Ev.condC_t Ev.condC_f Ev.evC_skip Ev.evC_ret Ev.evC_exit Ev.evC_label Ev.evC_region Ev.evC_draw Ev.evC_seq Ev.evC_cond Ev.evC_block Ev.evC_loop Ev.fin_d Ev.fin_nils Ev.fin_agg_ Ev.fin_rs Ev.finS_s Ev.mapO_fin Ev.upd_upd Ev.argv_d Ev.argv_nils Ev.argv_agg Ev.argv_rs Ev.argv_p Ev.appendTo_nils Ev.appendTo_rs Ev.consV_d Ev.consV_agg Ev.consV_p Ev.consV_rs Ev.consV_nils Ev.consV_fn Ev.consV_und Ev.consV_jk Ev.consV_grown Ev.topR_grown Ev.len_grown Ev.consV_mp Ev.sameK_i Ev.sameK_s Ev.mget_0 Ev.mget_hit Ev.mget_miss Ev.mput_0 Ev.mput_hit Ev.mput_miss Ev.apartAll Ev.apartL Ev.apartV Ev.freeAll Ev.sel Ev.keyOfV Ev.evLookup Ev.evPut Ev.hintOk Ev.keyOk Ev.consP Ev.lookV Ev.guardV Ev.dstAt Ev.evPure Ev.evStore Ev.evPureB Ev.evBin Ev.evBinO Ev.evNil Ev.isNilC Ev.evUn Ev.evConv Ev.evSlice Ev.optI Ev.lenV Ev.elemT Ev.foldI Ev.capsOk Ev.noTup Ev.nth Ev.setN Ev.pad Ev.V.get Ev.V.put Ev.putD Ev.hasT Ev.newBlk Ev.upd Ev.keq Ev.empty Ev.evCall Ev.V.args Ev.argP Ev.callOf Ev.evNilP Ev.isNilP Ev.look Ev.V.view.views Ev.V.view Ev.V.toD Ev.V.toD.V.toDs Ev.V.pure.pures Ev.V.pure Ev.D.flat.flats Ev.D.flat Ev.mkAgg Ev.allD Ev.aggParts Ev.setParts Ev.setElems Ev.getPath Ev.setPath Ev.subL Ev.eqD Ev.eqD.eqDs Ev.and2 Ev.strCut Ev.evalT Ev.constT Ev.evArgs Ev.mask Ev.maskOf Ev.tableOf Ev.compT Ev.resV Ev.retV Ev.mapO Ev.elemsOf Int.cast_ofNat_Int IntWalk.i64_in IntWalk.u64_in IntWalk.u8_in beq_self_eq_true Bool.true_beq Bool.false_beq Bool.and_true Bool.true_and Bool.false_and Bool.and_false Bool.and_self Bool.not_true Bool.not_false Bool.not_eq_true cond_true cond_false if_true if_false and_true true_and and_self decide_true decide_false Bool.or_true Bool.true_or Bool.or_false Bool.false_or List.isEmpty List.isEmpty_nil List.size_toArray List.map List.length_map List.length_cons List.length_nil Option.map Option.bind Option.getD Option.isSome List.replicate Bool.false_eq_true implies_true forall_const Array.toList Array.isEmpty List.append List.nil_append List.cons_append List.drop_zero List.take_length List.take_succ_cons List.take_zero List.take_nil List.getElem?_map List.getElem?_cons_zero List.getElem?_cons_succ List.getElem?_nil List.append_nil
attribute [local go_sem] FxRate.tk2 FxRate.ik2 FxRate.ek2 FxRate.zv2 FxRate.tk3 FxRate.ik3 FxRate.ek3 FxRate.zv3 FxRate.by3 FxRate.so3 FxRate.tk4 FxRate.ub4 FxRate.zv4 FxRate.tk23 FxRate.ct23 FxRate.ek23 FxRate.zv23 FxRate.tk27 FxRate.ik27 FxRate.zv27 FxRate.tk37 FxRate.ik37 FxRate.zv37 FxRate.by37 FxRate.so37 FxRate.tk39 FxRate.ct39 FxRate.zv39 FxRate.by39 FxRate.so39 FxRate.tk43 FxRate.zv43 FxRate.tk44 FxRate.zv44 FxRate.tk45 FxRate.zv45 FxRate.tk47 FxRate.ct47 FxRate.zv47 FxRate.tk48 FxRate.ik48 FxRate.zv48 FxRate.by48 FxRate.so48 FxRate.tk74 FxRate.zv74 FxRate.tk76 FxRate.ct76 FxRate.zv76 FxRate.by76 FxRate.so76 FxRate.tk77 FxRate.zv77 FxRate.tk79 FxRate.ct79 FxRate.zv79 FxRate.by79 FxRate.so79 FxRate.tk108 FxRate.zv108 FxRate.tk110 FxRate.ek110 FxRate.zv110 FxRate.tk111 FxRate.ek111 FxRate.zv111 FxRate.tk112 FxRate.zv112 FxRate.tk114 FxRate.ct114 FxRate.zv114 FxRate.by114 FxRate.so114 FxRate.tk136 FxRate.mt136 FxRate.sm136 FxRate.zw4 FxRate.zv136 FxRate.tk141 FxRate.zv141 FxRate.tk145 FxRate.zv145 FxRate.tk161 FxRate.ct161 FxRate.zv161 FxRate.tk182 FxRate.zv182 FxRate.mk7_1000000 FxRate.mk24_0 FxRate.mk24_2 FxRate.mk24_4 FxRate.mk24_1000001 FxRate.mk24_1000002 FxRate.mk24_1000003 FxRate.mk24_1000004 FxRate.mk24_1000005 FxRate.mk24_1000006 FxRate.mk24_1000000 FxRate.dw25_19 FxRate.nc25_19 FxRate.mk25_0 FxRate.mk25_2 FxRate.mk25_1000001 FxRate.mk25_1000002 FxRate.mk25_1000003 FxRate.mk25_1000004 FxRate.mk25_1000000 FxRate.mk40_0 FxRate.mk40_2 FxRate.mk40_4 FxRate.mk40_1000001 FxRate.mk40_1000002 FxRate.mk40_1000003 FxRate.mk40_1000004 FxRate.mk40_1000005 FxRate.mk40_1000006 FxRate.mk40_1000007 FxRate.mk40_1000000 FxRate.mk41_0 FxRate.mk41_1000001 FxRate.mk41_1000002 FxRate.mk41_1000003 FxRate.mk41_1000004 FxRate.mk41_1000000 FxRate.mk66_1000000 FxRate.dw67_9 FxRate.nc67_9 FxRate.mk67_1000000 FxRate.dw68_5 FxRate.nc68_5 FxRate.dw68_10 FxRate.nc68_10 FxRate.dw68_15 FxRate.nc68_15 FxRate.mk68_0 FxRate.mk68_2 FxRate.mk68_4 FxRate.mk68_1000001 FxRate.mk68_1000002 FxRate.mk68_1000003 FxRate.mk68_1000004 FxRate.mk68_1000005 FxRate.mk68_1000006 FxRate.mk68_1000000 FxRate.mk87_1000001 FxRate.mk87_1000000 FxRate.mk88_1000001 FxRate.mk88_1000000 FxRate.mk89_0 FxRate.mk89_1000001 FxRate.mk89_1000002 FxRate.mk89_1000000 FxRate.mk90_1000000 FxRate.mk91_1000000 FxRate.dw92_10 FxRate.nc92_10 FxRate.mk92_0 FxRate.mk92_2 FxRate.mk92_1000001 FxRate.mk92_1000002 FxRate.mk92_1000003 FxRate.mk92_1000004 FxRate.mk92_1000000 FxRate.mk93_1000001 FxRate.mk93_1000000 FxRate.mk94_1000000 FxRate.mk95_1000000 FxRate.mk128_1000000 FxRate.mk129_0 FxRate.mk129_1000001 FxRate.mk129_1000002 FxRate.mk129_1000000 FxRate.mk130_1000000 FxRate.mk131_0 FxRate.mk131_1000001 FxRate.mk131_1000002 FxRate.mk131_1000000 FxRate.mk150_0 FxRate.mk150_1000001 FxRate.mk150_1000002 FxRate.mk150_1000000
/-- The place of the first that p takes, from i on. -/
def idx {α : Type} (p : α → Bool) : List α → Int → Int
  | [], _ => -1
  | x :: r, i => if p x = true then i else idx p r (i + 1)
theorem idx_none {α : Type} (p : α → Bool) : ∀ (l : List α) (i : Int), l.any p = false → idx p l i = -1
  | [], _, _ => rfl
  | x :: r, i, h => by
    simp only [List.any_cons, Bool.or_eq_false_iff] at h
    rw [idx, if_neg (by simp [h.1])]
    exact idx_none p r (i + 1) h.2
theorem idx_any {α : Type} (p : α → Bool) : ∀ (l : List α) (i : Int), 0 ≤ i → decide (idx p l i ≥ 0) = l.any p
  | [], i, _ => rfl
  | x :: r, i, h => by
    simp only [idx, List.any_cons]
    by_cases hp : p x = true
    · simp [hp, h]
    · simp only [hp, Bool.false_eq_true, if_false, Bool.false_or]; exact idx_any p r (i + 1) (by omega)
/-- What the closure answers at x, if its captured variable says q. -/
def Takes {α : Type} (s : Ev.Spec) (en : α → D) (q : D) (p : α → Bool) (l : List α) : Prop := ∀ x ∈ l, s.run [en x, .ptr q] = some [.bool (p x)]
def hd {α : Type} (en : α → D) (k : Key) (ver : Nat) (l : List α) (i : Nat) : List V := hd131_0 (.d (.sl 37 (l.map en))) (.fn 128 [.p k ver 0 []]) (.d (.int .i64 l.length)) (.d (.int .i64 i))
def R {α : Type} (p : α → Bool) (l : List α) (st : Store) (i : Nat) : Out := if (l.drop i).any p = true then some (.ret, hr131 (.d (.int .i64 (idx p (l.drop i) i))), st) else some (.exit 0, hx131_0, st)
theorem loop {α : Type} (en : α → D) (G : Specs) (s : Ev.Spec) (hG : Ev.look G 128 = some s) (L lv : Nat) (call : Caller) (p : α → Bool) (q : D) (k : Key) (ver : Nat) (l : List α) (st : Store) (hs : Takes s en q p l) (hty : ∀ x, hasT Try.prog 37 (.d (en x)) = true) (h1 : (st k).ver = ver) (h2 : (st k).live = true) (h3 : (st k).vs = [.d q]) (hl : l.length ≤ 4611686018427387904) :
    ∀ (n i : Nat) (env : List V), i ≤ l.length → l.length - i < n → mask (maskOf en131.ms 0) env = hd en k ver l i →
      iter (evC Try.prog G call L en131.ms lv 0 lb131_0) (maskOf en131.ms 0) n env st = R p l st i := by
  refine iter_wf _ _ (fun i => i ≤ l.length) (hd en k ver l) (fun _ => st) (R p l st) (fun i => l.length - i) ?_
  intro i hi kk hk
  by_cases hil : i < l.length
  case neg =>
    obtain rfl : i = l.length := by omega
    have hlt : ¬ (l.length : Int) < l.length := by omega
    simp only [lb131_0, loopN, loops, hd, hd131_0, R, hr131, hx131_0, Try.f131, go_sem, Nat.reduceAdd, Nat.reduceSub, Nat.reduceMul, Nat.reduceEqDiff, Nat.reduceBEq, Nat.reduceLT, Nat.reduceLeDiff, Nat.reducePow, Int.reduceToNat, Int.reduceLT, Int.reduceLE, Int.reduceGT, Int.reduceGE, Int.reduceEq, Int.reduceNeg, Int.reduceAdd, Int.reduceSub, ↓reduceIte, reduceCtorEq, hlt, List.drop_length, List.any_nil]
  have hlt : (i : Int) < l.length := by omega
  have hx : l[i]? = some l[i] := by simp [hil]
  have hdr : l.drop i = l[i] :: l.drop (i + 1) := List.drop_eq_getElem_cons hil
  have hw : IntKind.i64.wrap ((i : Int) + 1) = ((i + 1 : Nat) : Int) := by rw [IntWalk.i64_in _ (by omega)]; rfl
  have h0 : (0 : Int) ≤ (i : Int) := by omega
  have ht : ((i : Int)).toNat = i := by omega
  have hr := hs l[i] (List.getElem_mem _)
  by_cases hp : p l[i] = true
  · have hR : R p l st i = some (.ret, hr131 (.d (.int .i64 i)), st) := by
      rw [R, hdr, List.any_cons, hp, Bool.true_or, if_pos rfl, idx, if_pos hp]
    rw [hR]
    simp only [lb131_0, loopN, loops, hd, hd131_0, hr131, Try.f131, go_sem, Nat.reduceAdd, Nat.reduceSub, Nat.reduceMul, Nat.reduceEqDiff, Nat.reduceBEq, Nat.reduceLT, Nat.reduceLeDiff, Nat.reducePow, Int.reduceToNat, Int.reduceLT, Int.reduceLE, Int.reduceGT, Int.reduceGE, Int.reduceEq, Int.reduceNeg, Int.reduceAdd, Int.reduceSub, ↓reduceIte, reduceCtorEq, hlt, hx, h0, ht, hG, h1, h2, h3, hr, hp, ↓hty]
  · have hp' : p l[i] = false := by simpa using hp
    have hR : R p l st i = R p l st (i + 1) := by
      rw [R, hdr, List.any_cons, hp', Bool.false_or, idx, if_neg hp]; rfl
    rw [hR]
    simp only [lb131_0, loopN, loops, hd, hd131_0, Try.f131, go_sem, Nat.reduceAdd, Nat.reduceSub, Nat.reduceMul, Nat.reduceEqDiff, Nat.reduceBEq, Nat.reduceLT, Nat.reduceLeDiff, Nat.reducePow, Int.reduceToNat, Int.reduceLT, Int.reduceLE, Int.reduceGT, Int.reduceGE, Int.reduceEq, Int.reduceNeg, Int.reduceAdd, Int.reduceSub, ↓reduceIte, reduceCtorEq, hlt, hx, h0, ht, hG, h1, h2, h3, hr, hp', hw, ↓hty]
    exact hk (i + 1) _ (by omega) (by omega) (by simp only [hd, hd131_0, go_sem, Nat.reduceAdd, Nat.reduceSub, Nat.reduceMul, Nat.reduceEqDiff, Nat.reduceBEq, Nat.reduceLT, Nat.reduceLeDiff, Nat.reducePow, Int.reduceToNat, Int.reduceLT, Int.reduceLE, Int.reduceGT, Int.reduceGE, Int.reduceEq, Int.reduceNeg, Int.reduceAdd, Int.reduceSub, ↓reduceIte, reduceCtorEq, hw])
theorem ev {α : Type} (en : α → D) (G : Specs) (T : Table) (hT : T 131 = some en131) (s : Ev.Spec) (hG : Ev.look G 128 = some s) (c lv : Nat) (p : α → Bool) (q : D) (k : Key) (ver : Nat) (l : List α) (st : Store) (hs : Takes s en q p l) (hty : ∀ x, hasT Try.prog 37 (.d (en x)) = true) (h1 : (st k).ver = ver) (h2 : (st k).live = true) (h3 : (st k).vs = [.d q]) (hl : l.length ≤ 4611686018427387904) (L : Nat) (hL : l.length < L) :
    evF Try.prog G T L (c + 1) 131 [.d (.sl 37 (l.map en)), .fn 128 [.p k ver 0 []]] lv st = some (.d (.int .i64 (idx p l 0)), st) := by
  rw [evF_s (hT := hT) (hb := rfl)]
  simp only [Try.f131, go_sem, Nat.reduceAdd, Nat.reduceSub, Nat.reduceMul, Nat.reduceEqDiff, Nat.reduceBEq, Nat.reduceLT, Nat.reduceLeDiff, Nat.reducePow, Int.reduceToNat, Int.reduceLT, Int.reduceLE, Int.reduceGT, Int.reduceGE, Int.reduceEq, Int.reduceNeg, Int.reduceAdd, Int.reduceSub, ↓reduceIte, reduceCtorEq]
  conv in iter _ _ _ _ _ => change iter (evC _ _ _ _ en131.ms _ _ lb131_0) (maskOf en131.ms 0) _ _ _
  rw [loop en G s hG L _ _ p q k ver l st hs hty h1 h2 h3 hl L 0 _ (by omega) (by omega) (by simp only [hd, hd131_0, go_sem, Nat.reduceAdd, Nat.reduceSub, Nat.reduceMul, Nat.reduceEqDiff, Nat.reduceBEq, Nat.reduceLT, Nat.reduceLeDiff, Nat.reducePow, Int.reduceToNat, Int.reduceLT, Int.reduceLE, Int.reduceGT, Int.reduceGE, Int.reduceEq, Int.reduceNeg, Int.reduceAdd, Int.reduceSub, ↓reduceIte, reduceCtorEq])]
  rw [R, List.drop_zero]
  by_cases ha : l.any p = true
  · rw [if_pos ha]
    simp only [hr131, go_sem, Nat.reduceAdd, Nat.reduceSub, Nat.reduceMul, Nat.reduceEqDiff, Nat.reduceBEq, Nat.reduceLT, Nat.reduceLeDiff, Nat.reducePow, Int.reduceToNat, Int.reduceLT, Int.reduceLE, Int.reduceGT, Int.reduceGE, Int.reduceEq, Int.reduceNeg, Int.reduceAdd, Int.reduceSub, ↓reduceIte, reduceCtorEq]
  · rw [if_neg ha]
    have hi : idx p l 0 = -1 := idx_none _ _ _ (by simpa using ha)
    simp only [hx131_0, go_sem, Nat.reduceAdd, Nat.reduceSub, Nat.reduceMul, Nat.reduceEqDiff, Nat.reduceBEq, Nat.reduceLT, Nat.reduceLeDiff, Nat.reducePow, Int.reduceToNat, Int.reduceLT, Int.reduceLE, Int.reduceGT, Int.reduceGE, Int.reduceEq, Int.reduceNeg, Int.reduceAdd, Int.reduceSub, ↓reduceIte, reduceCtorEq, hi]
theorem cf {α : Type} (en : α → D) (G : Specs) (T : Table) (hT : T 131 = some en131) (hU : T 95 = some en95) (s : Ev.Spec) (hN : Ev.look G 131 = none) (hG : Ev.look G 128 = some s) (c lv : Nat) (p : α → Bool) (q : D) (k : Key) (ver : Nat) (l : List α) (st : Store) (hs : Takes s en q p l) (hty : ∀ x, hasT Try.prog 37 (.d (en x)) = true) (h1 : (st k).ver = ver) (h2 : (st k).live = true) (h3 : (st k).vs = [.d q]) (hl : l.length ≤ 4611686018427387904) (L : Nat) (hL : l.length < L) :
    evF Try.prog G T L (c + 2) 95 [.d (.sl 37 (l.map en)), .fn 128 [.p k ver 0 []]] lv st = some (.d (.bool (l.any p)), st) := by
  rw [evF_s (hT := hU) (hb := rfl)]
  have hi := idx_any p l 0 (by omega)
  simp only [Try.f95, go_sem, Nat.reduceAdd, Nat.reduceSub, Nat.reduceMul, Nat.reduceEqDiff, Nat.reduceBEq, Nat.reduceLT, Nat.reduceLeDiff, Nat.reducePow, Int.reduceToNat, Int.reduceLT, Int.reduceLE, Int.reduceGT, Int.reduceGE, Int.reduceEq, Int.reduceNeg, Int.reduceAdd, Int.reduceSub, ↓reduceIte, reduceCtorEq, hN, ev en G T hT s hG c _ p q k ver l st hs hty h1 h2 h3 hl L hL, hi]
end Go.Proofs.YtmhjmjodchbhlaaR.Idx131Rate
end
