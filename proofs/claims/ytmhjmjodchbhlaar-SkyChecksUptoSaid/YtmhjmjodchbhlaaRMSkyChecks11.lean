/- Parts of one proof, joined: OwnRate, Idx131Rate, StarRate, ThingsRate. -/
import Derived.Test.YtmhjmjodchbhlaaRMSkyChecks10
section
set_option linter.unusedVariables false
set_option linter.unusedSimpArgs false
set_option maxRecDepth 100000
namespace Go.Proofs.YtmhjmjodchbhlaaR.OwnRate
open Go.Ev Go.Ari Go.Proofs.YtmhjmjodchbhlaaR.FxRate Go.Proofs.YtmhjmjodchbhlaaR.PullPull Go.Proofs.YtmhjmjodchbhlaaR.TypesRate Go.Proofs.YtmhjmjodchbhlaaR.FaultRate
attribute [local go_sem] Ev.putR_s Ev.putR_0 Ev.thenO_s Ev.thenO_0 Ev.seqR_n Ev.seqR_e Ev.seqR_r Ev.seqR_0 Ev.blkR_e Ev.blkR_n Ev.blkR_r Ev.blkR_0 Ev.normR_s Ev.normR_0 Ev.outR_r Ev.outR_n Ev.outR_0 Ev.retS_s Ev.retS_0 Ev.pureO_s Ev.pureO_0 Ev.topR_0 Ev.topR_t Ev.topR_t0 Ev.oneL_0 Ev.oneL_s Ev.topR_d Ev.topR_nils Ev.topR_agg Ev.topR_rs Ev.evOp_move Ev.evOp_assign Ev.evOp_pick Ev.evOp_alloc Ev.evOp_box Ev.evOp_build Ev.evOp_buildSlice Ev.evOp_load Ev.evOp_store Ev.evOp_makeMap Ev.evOp_lookup Ev.evOp_mapUpdate Ev.evOp_insert Ev.evOp_nilCheck Ev.evOp_binOp Ev.evOp_unOp Ev.evOp_convert Ev.evOp_makeFunc Ev.evOp_makeSlice Ev.evOp_slice Ev.evOp_fieldAddr Ev.evOp_field Ev.evOp_indexAddr Ev.evOp_index Ev.evOp_extract Ev.evOp_call Ev.evOp_append Ev.evOp_len Ev.evOp_min Ev.evOp_max Ev.condR_b Ev.condR_t Ev.evOps_nil Ev.evOps_plain Ev.evOps_guard Ev.runG_eq Ev.skipG_eq Ev.condL_tt Ev.condL_ff Ev.condL_tf Ev.condL_ft Ev.condL_u Ev.condC_t Ev.condC_f Ev.evC_skip Ev.evC_ret Ev.evC_exit Ev.evC_label Ev.evC_region Ev.evC_draw Ev.evC_seq Ev.evC_cond Ev.evC_block Ev.evC_loop Ev.fin_d Ev.fin_nils Ev.fin_agg_ Ev.fin_rs Ev.finS_s Ev.mapO_fin Ev.upd_upd Ev.argv_d Ev.argv_nils Ev.argv_agg Ev.argv_rs Ev.argv_p Ev.appendTo_nils Ev.appendTo_rs Ev.consV_d Ev.consV_agg Ev.consV_p Ev.consV_rs Ev.consV_nils Ev.consV_fn Ev.consV_und Ev.consV_jk Ev.consV_grown Ev.topR_grown Ev.len_grown Ev.consV_mp Ev.sameK_i Ev.sameK_s Ev.mget_0 Ev.mget_hit Ev.mget_miss Ev.mput_0 Ev.mput_hit Ev.mput_miss Ev.apartAll Ev.apartL Ev.apartV Ev.freeAll Ev.sel Ev.keyOfV Ev.evLookup Ev.evPut Ev.hintOk Ev.keyOk Ev.consP Ev.lookV Ev.guardV Ev.dstAt Ev.evPure Ev.evStore Ev.evPureB Ev.evBin Ev.evBinO Ev.evNil Ev.isNilC Ev.evUn Ev.evConv Ev.evSlice Ev.optI Ev.lenV Ev.elemT Ev.foldI Ev.capsOk Ev.noTup Ev.nth Ev.setN Ev.pad Ev.V.get Ev.V.put Ev.putD Ev.hasT Ev.newBlk Ev.upd Ev.keq Ev.empty Ev.evCall Ev.V.args Ev.argP Ev.callOf Ev.evNilP Ev.isNilP Ev.look Ev.V.view.views Ev.V.view Ev.V.toD Ev.V.toD.V.toDs Ev.V.pure.pures Ev.V.pure Ev.D.flat.flats Ev.D.flat Ev.mkAgg Ev.allD Ev.aggParts Ev.setParts Ev.setElems Ev.getPath Ev.setPath Ev.subL Ev.eqD Ev.eqD.eqDs Ev.and2 Ev.strCut Ev.evalT Ev.constT Ev.evArgs Ev.mask Ev.maskOf Ev.tableOf Ev.compT Ev.resV Ev.retV Ev.mapO Ev.elemsOf Int.cast_ofNat_Int IntWalk.i64_in IntWalk.u64_in IntWalk.u8_in beq_self_eq_true Bool.true_beq Bool.false_beq Bool.and_true Bool.true_and Bool.false_and Bool.and_false Bool.and_self Bool.not_true Bool.not_false Bool.not_eq_true cond_true cond_false if_true if_false and_true true_and and_self decide_true decide_false Bool.or_true Bool.true_or Bool.or_false Bool.false_or List.isEmpty List.isEmpty_nil List.size_toArray List.map List.length_map List.length_cons List.length_nil Option.map Option.bind Option.getD Option.isSome List.replicate Bool.false_eq_true implies_true forall_const Array.toList Array.isEmpty List.append List.nil_append List.cons_append List.drop_zero List.take_length List.take_succ_cons List.take_zero List.take_nil List.getElem?_map List.getElem?_cons_zero List.getElem?_cons_succ List.getElem?_nil List.append_nil
attribute [local go_sem] FxRate.tk2 FxRate.ik2 FxRate.ek2 FxRate.zv2 FxRate.tk3 FxRate.ik3 FxRate.ek3 FxRate.zv3 FxRate.by3 FxRate.so3 FxRate.tk4 FxRate.ub4 FxRate.zv4 FxRate.tk23 FxRate.ct23 FxRate.ek23 FxRate.zv23 FxRate.tk27 FxRate.ik27 FxRate.zv27 FxRate.tk37 FxRate.ik37 FxRate.zv37 FxRate.by37 FxRate.so37 FxRate.tk39 FxRate.ct39 FxRate.zv39 FxRate.by39 FxRate.so39 FxRate.tk43 FxRate.zv43 FxRate.tk44 FxRate.zv44 FxRate.tk45 FxRate.zv45 FxRate.tk47 FxRate.ct47 FxRate.zv47 FxRate.tk48 FxRate.ik48 FxRate.zv48 FxRate.by48 FxRate.so48 FxRate.tk74 FxRate.zv74 FxRate.tk76 FxRate.ct76 FxRate.zv76 FxRate.by76 FxRate.so76 FxRate.tk77 FxRate.zv77 FxRate.tk79 FxRate.ct79 FxRate.zv79 FxRate.by79 FxRate.so79 FxRate.tk108 FxRate.zv108 FxRate.tk110 FxRate.ek110 FxRate.zv110 FxRate.tk111 FxRate.ek111 FxRate.zv111 FxRate.tk112 FxRate.zv112 FxRate.tk114 FxRate.ct114 FxRate.zv114 FxRate.by114 FxRate.so114 FxRate.tk136 FxRate.mt136 FxRate.sm136 FxRate.zw4 FxRate.zv136 FxRate.tk141 FxRate.zv141 FxRate.tk145 FxRate.zv145 FxRate.tk161 FxRate.ct161 FxRate.zv161 FxRate.tk182 FxRate.zv182 FxRate.mk7_1000000 FxRate.mk24_0 FxRate.mk24_2 FxRate.mk24_4 FxRate.mk24_1000001 FxRate.mk24_1000002 FxRate.mk24_1000003 FxRate.mk24_1000004 FxRate.mk24_1000005 FxRate.mk24_1000006 FxRate.mk24_1000000 FxRate.dw25_19 FxRate.nc25_19 FxRate.mk25_0 FxRate.mk25_2 FxRate.mk25_1000001 FxRate.mk25_1000002 FxRate.mk25_1000003 FxRate.mk25_1000004 FxRate.mk25_1000000 FxRate.mk40_0 FxRate.mk40_2 FxRate.mk40_4 FxRate.mk40_1000001 FxRate.mk40_1000002 FxRate.mk40_1000003 FxRate.mk40_1000004 FxRate.mk40_1000005 FxRate.mk40_1000006 FxRate.mk40_1000007 FxRate.mk40_1000000 FxRate.mk41_0 FxRate.mk41_1000001 FxRate.mk41_1000002 FxRate.mk41_1000003 FxRate.mk41_1000004 FxRate.mk41_1000000 FxRate.mk66_1000000 FxRate.dw67_9 FxRate.nc67_9 FxRate.mk67_1000000 FxRate.dw68_5 FxRate.nc68_5 FxRate.dw68_10 FxRate.nc68_10 FxRate.dw68_15 FxRate.nc68_15 FxRate.mk68_0 FxRate.mk68_2 FxRate.mk68_4 FxRate.mk68_1000001 FxRate.mk68_1000002 FxRate.mk68_1000003 FxRate.mk68_1000004 FxRate.mk68_1000005 FxRate.mk68_1000006 FxRate.mk68_1000000 FxRate.mk87_1000001 FxRate.mk87_1000000 FxRate.mk88_1000001 FxRate.mk88_1000000 FxRate.mk89_0 FxRate.mk89_1000001 FxRate.mk89_1000002 FxRate.mk89_1000000 FxRate.mk90_1000000 FxRate.mk91_1000000 FxRate.dw92_10 FxRate.nc92_10 FxRate.mk92_0 FxRate.mk92_2 FxRate.mk92_1000001 FxRate.mk92_1000002 FxRate.mk92_1000003 FxRate.mk92_1000004 FxRate.mk92_1000000 FxRate.mk93_1000001 FxRate.mk93_1000000 FxRate.mk94_1000000 FxRate.mk95_1000000 FxRate.mk128_1000000 FxRate.mk129_0 FxRate.mk129_1000001 FxRate.mk129_1000002 FxRate.mk129_1000000 FxRate.mk130_1000000 FxRate.mk131_0 FxRate.mk131_1000001 FxRate.mk131_1000002 FxRate.mk131_1000000 FxRate.mk150_0 FxRate.mk150_1000001 FxRate.mk150_1000002 FxRate.mk150_1000000
/-! ### sphere.Check -/
noncomputable def T1 : Table := tableOf [(93, en93)]
theorem T1_ok : TableOk Try.prog (([] : Specs).map (·.1)) T1 := (table_cons Try.func93 (by kernel_rfl) (by kernel_rfl) table_nil)
noncomputable def sChk : Ev.Spec := specC (cOne cV) (fun _ => True) fun v => [.int .i64 (chkV v)]
theorem sChk_run (x y z : Int) : sChk.run [.agg 23 [.int .i64 x, .int .i64 y, .int .i64 z]] = some [.int .i64 (chkV (x, y, z))] := specC_run (cOne cV) _ _ (x, y, z) trivial
theorem okV_of {m x y z : Int} (h1 : ¬ maxI (maxI x y) z > m) (h2 : ¬ minI (minI x y) z < -m) : okV m (x, y, z) = true := by
  unfold maxI at h1
  unfold minI at h2
  simp only [okV, inn, Bool.and_eq_true, decide_eq_true_eq]
  split at h1 <;> split at h1 <;> split at h2 <;> split at h2 <;> omega
theorem okV_f1 {m x y z : Int} (h1 : maxI (maxI x y) z > m) : okV m (x, y, z) = false := by
  cases h : okV m (x, y, z) with
  | false => rfl
  | true =>
    simp only [okV, inn, Bool.and_eq_true, decide_eq_true_eq] at h
    unfold maxI at h1
    split at h1 <;> split at h1 <;> omega
theorem okV_f2 {m x y z : Int} (h1 : minI (minI x y) z < -m) : okV m (x, y, z) = false := by
  cases h : okV m (x, y, z) with
  | false => rfl
  | true =>
    simp only [okV, inn, Bool.and_eq_true, decide_eq_true_eq] at h
    unfold minI at h1
    split at h1 <;> split at h1 <;> omega
theorem eChk (x y z : Int) : evTop Try.prog [] T1 0 1 93 [.agg 23 [.int .i64 x, .int .i64 y, .int .i64 z]] = some [.int .i64 (chkV (x, y, z))] := by
  unfold evTop
  simp only [List.map]
  rw [evF_s (fn := Try.f93) (msk := en93.ms) (hT := by rfl) (hb := by rfl)]
  unfold chkV
  by_cases a1 : maxI (maxI x y) z > 1048576
  · rw [if_neg (by simp [okV_f1 a1])]
    simp only [Try.f93, go_sem, Nat.reduceAdd, Nat.reduceSub, Nat.reduceMul, Nat.reduceEqDiff, Nat.reduceBEq, Nat.reduceLT, Nat.reduceLeDiff, Nat.reducePow, Int.reduceToNat, Int.reduceLT, Int.reduceLE, Int.reduceGT, Int.reduceGE, Int.reduceEq, Int.reduceNeg, Int.reduceAdd, Int.reduceSub, ↓reduceIte, reduceCtorEq, a1]
  by_cases a2 : minI (minI x y) z < -1048576
  · rw [if_neg (by simp [okV_f2 a2])]
    simp only [Try.f93, go_sem, Nat.reduceAdd, Nat.reduceSub, Nat.reduceMul, Nat.reduceEqDiff, Nat.reduceBEq, Nat.reduceLT, Nat.reduceLeDiff, Nat.reducePow, Int.reduceToNat, Int.reduceLT, Int.reduceLE, Int.reduceGT, Int.reduceGE, Int.reduceEq, Int.reduceNeg, Int.reduceAdd, Int.reduceSub, ↓reduceIte, reduceCtorEq, a1, a2]
  rw [if_pos (okV_of a1 a2)]
  by_cases c1 : x = 0
  case neg =>
    have d1 : decide (x = 0) = false := decide_eq_false c1
    rw [if_neg (by simp [c1])]
    by_cases c2 : y = 0
    · by_cases c3 : z = 0
      · simp only [Try.f93, go_sem, Nat.reduceAdd, Nat.reduceSub, Nat.reduceMul, Nat.reduceEqDiff, Nat.reduceBEq, Nat.reduceLT, Nat.reduceLeDiff, Nat.reducePow, Int.reduceToNat, Int.reduceLT, Int.reduceLE, Int.reduceGT, Int.reduceGE, Int.reduceEq, Int.reduceNeg, Int.reduceAdd, Int.reduceSub, ↓reduceIte, reduceCtorEq, a1, a2, d1, decide_eq_true c2, decide_eq_true c3]
      · simp only [Try.f93, go_sem, Nat.reduceAdd, Nat.reduceSub, Nat.reduceMul, Nat.reduceEqDiff, Nat.reduceBEq, Nat.reduceLT, Nat.reduceLeDiff, Nat.reducePow, Int.reduceToNat, Int.reduceLT, Int.reduceLE, Int.reduceGT, Int.reduceGE, Int.reduceEq, Int.reduceNeg, Int.reduceAdd, Int.reduceSub, ↓reduceIte, reduceCtorEq, a1, a2, d1, decide_eq_true c2, decide_eq_false c3]
    · by_cases c3 : z = 0
      · simp only [Try.f93, go_sem, Nat.reduceAdd, Nat.reduceSub, Nat.reduceMul, Nat.reduceEqDiff, Nat.reduceBEq, Nat.reduceLT, Nat.reduceLeDiff, Nat.reducePow, Int.reduceToNat, Int.reduceLT, Int.reduceLE, Int.reduceGT, Int.reduceGE, Int.reduceEq, Int.reduceNeg, Int.reduceAdd, Int.reduceSub, ↓reduceIte, reduceCtorEq, a1, a2, d1, decide_eq_false c2, decide_eq_true c3]
      · simp only [Try.f93, go_sem, Nat.reduceAdd, Nat.reduceSub, Nat.reduceMul, Nat.reduceEqDiff, Nat.reduceBEq, Nat.reduceLT, Nat.reduceLeDiff, Nat.reducePow, Int.reduceToNat, Int.reduceLT, Int.reduceLE, Int.reduceGT, Int.reduceGE, Int.reduceEq, Int.reduceNeg, Int.reduceAdd, Int.reduceSub, ↓reduceIte, reduceCtorEq, a1, a2, d1, decide_eq_false c2, decide_eq_false c3]
  have d1 : decide (x = 0) = true := decide_eq_true c1
  by_cases c2 : y = 0
  case neg =>
    have d2 : decide (y = 0) = false := decide_eq_false c2
    rw [if_neg (by simp [c2])]
    by_cases c3 : z = 0
    · simp only [Try.f93, go_sem, Nat.reduceAdd, Nat.reduceSub, Nat.reduceMul, Nat.reduceEqDiff, Nat.reduceBEq, Nat.reduceLT, Nat.reduceLeDiff, Nat.reducePow, Int.reduceToNat, Int.reduceLT, Int.reduceLE, Int.reduceGT, Int.reduceGE, Int.reduceEq, Int.reduceNeg, Int.reduceAdd, Int.reduceSub, ↓reduceIte, reduceCtorEq, a1, a2, d1, d2, decide_eq_true c3]
    · simp only [Try.f93, go_sem, Nat.reduceAdd, Nat.reduceSub, Nat.reduceMul, Nat.reduceEqDiff, Nat.reduceBEq, Nat.reduceLT, Nat.reduceLeDiff, Nat.reducePow, Int.reduceToNat, Int.reduceLT, Int.reduceLE, Int.reduceGT, Int.reduceGE, Int.reduceEq, Int.reduceNeg, Int.reduceAdd, Int.reduceSub, ↓reduceIte, reduceCtorEq, a1, a2, d1, d2, decide_eq_false c3]
  have d2 : decide (y = 0) = true := decide_eq_true c2
  by_cases c3 : z = 0
  · rw [if_pos (by rw [c1, c2, c3])]
    simp only [Try.f93, go_sem, Nat.reduceAdd, Nat.reduceSub, Nat.reduceMul, Nat.reduceEqDiff, Nat.reduceBEq, Nat.reduceLT, Nat.reduceLeDiff, Nat.reducePow, Int.reduceToNat, Int.reduceLT, Int.reduceLE, Int.reduceGT, Int.reduceGE, Int.reduceEq, Int.reduceNeg, Int.reduceAdd, Int.reduceSub, ↓reduceIte, reduceCtorEq, a1, a2, d1, d2, decide_eq_true c3]
  · rw [if_neg (by simp [c3])]
    simp only [Try.f93, go_sem, Nat.reduceAdd, Nat.reduceSub, Nat.reduceMul, Nat.reduceEqDiff, Nat.reduceBEq, Nat.reduceLT, Nat.reduceLeDiff, Nat.reducePow, Int.reduceToNat, Int.reduceLT, Int.reduceLE, Int.reduceGT, Int.reduceGE, Int.reduceEq, Int.reduceNeg, Int.reduceAdd, Int.reduceSub, ↓reduceIte, reduceCtorEq, a1, a2, d1, d2, decide_eq_false c3]
theorem chk_ok : SpecOk Try.prog 93 sChk := specC_ok mixed specs_nil T1_ok fun x _ => ⟨0, 1, eChk x.1 x.2.1 x.2.2⟩
#print axioms chk_ok
/-! ### half -/
def idx3 (k : Int) : Int := if k = 1 then 0 else if k = 2 then 1 else if k = 4 then 2 else -1
noncomputable def sIdx3 : Ev.Spec := specC (cOne (cI .i64)) (fun _ => True) fun k => [.int .i64 (idx3 k)]
def l3 : D := .sl 3 [.int .i64 1, .int .i64 2, .int .i64 4]
noncomputable def c3 : CodL Int := ⟨fun k => [.sl 3 [.int .i64 1, .int .i64 2, .int .i64 4], .int .i64 k], fun x y h => by cases h; rfl⟩
noncomputable def sI3 : Ev.Spec := specC c3 (fun _ => True) fun k => [.int .i64 (idx3 k)]
noncomputable def sC3 : Ev.Spec := specC c3 (fun _ => True) fun k => [.bool (sizeOk k)]
theorem sI3_run (k : Int) : sI3.run [.sl 3 [.int .i64 1, .int .i64 2, .int .i64 4], .int .i64 k] = some [.int .i64 (idx3 k)] := specC_run c3 _ _ k trivial
theorem sC3_run (k : Int) : sC3.run [.sl 3 [.int .i64 1, .int .i64 2, .int .i64 4], .int .i64 k] = some [.bool (sizeOk k)] := specC_run c3 _ _ k trivial
noncomputable def T2 : Table := tableOf [(150, en150)]
theorem T2_ok : TableOk Try.prog (([] : Specs).map (·.1)) T2 := (table_cons Try.func150 (by kernel_rfl) (by kernel_rfl) table_nil)
theorem eI3 (k : Int) : evTop Try.prog [] T2 4 1 150 [.sl 3 [.int .i64 1, .int .i64 2, .int .i64 4], .int .i64 k] = some [.int .i64 (idx3 k)] := by
  unfold evTop
  simp only [List.map]
  rw [evF_s (fn := Try.f150) (msk := en150.ms) (hT := by rfl) (hb := by rfl)]
  have wa : IntKind.i64.wrap (0 + 1) = 1 := by decide
  have wb : IntKind.i64.wrap (1 + 1) = 2 := by decide
  have wc : IntKind.i64.wrap (2 + 1) = 3 := by decide
  unfold idx3
  by_cases c1 : k = 1
  · rw [if_pos c1]
    simp only [Try.f150, go_sem, Nat.reduceAdd, Nat.reduceSub, Nat.reduceMul, Nat.reduceEqDiff, Nat.reduceBEq, Nat.reduceLT, Nat.reduceLeDiff, Nat.reducePow, Int.reduceToNat, Int.reduceLT, Int.reduceLE, Int.reduceGT, Int.reduceGE, Int.reduceEq, Int.reduceNeg, Int.reduceAdd, Int.reduceSub, ↓reduceIte, reduceCtorEq, iter_s, decide_eq_true c1]
  rw [if_neg c1]
  by_cases c2 : k = 2
  · rw [if_pos c2]
    simp only [Try.f150, go_sem, Nat.reduceAdd, Nat.reduceSub, Nat.reduceMul, Nat.reduceEqDiff, Nat.reduceBEq, Nat.reduceLT, Nat.reduceLeDiff, Nat.reducePow, Int.reduceToNat, Int.reduceLT, Int.reduceLE, Int.reduceGT, Int.reduceGE, Int.reduceEq, Int.reduceNeg, Int.reduceAdd, Int.reduceSub, ↓reduceIte, reduceCtorEq, iter_s, decide_eq_false c1, decide_eq_true c2]
  rw [if_neg c2]
  by_cases c4 : k = 4
  · rw [if_pos c4]
    simp only [Try.f150, go_sem, Nat.reduceAdd, Nat.reduceSub, Nat.reduceMul, Nat.reduceEqDiff, Nat.reduceBEq, Nat.reduceLT, Nat.reduceLeDiff, Nat.reducePow, Int.reduceToNat, Int.reduceLT, Int.reduceLE, Int.reduceGT, Int.reduceGE, Int.reduceEq, Int.reduceNeg, Int.reduceAdd, Int.reduceSub, ↓reduceIte, reduceCtorEq, iter_s, decide_eq_false c1, decide_eq_false c2, decide_eq_true c4]
  rw [if_neg c4]
  simp only [Try.f150, go_sem, Nat.reduceAdd, Nat.reduceSub, Nat.reduceMul, Nat.reduceEqDiff, Nat.reduceBEq, Nat.reduceLT, Nat.reduceLeDiff, Nat.reducePow, Int.reduceToNat, Int.reduceLT, Int.reduceLE, Int.reduceGT, Int.reduceGE, Int.reduceEq, Int.reduceNeg, Int.reduceAdd, Int.reduceSub, ↓reduceIte, reduceCtorEq, iter_s, decide_eq_false c1, decide_eq_false c2, decide_eq_false c4]
theorem i3_ok : SpecOk Try.prog 150 sI3 := specC_ok mixed specs_nil T2_ok fun k _ => ⟨4, 1, eI3 k⟩
noncomputable def G3 : Specs := [(150, sI3)]
noncomputable def T3 : Table := tableOf [(130, en130)]
theorem G3_ok : ∀ g s, Ev.look G3 g = some s → SpecOk Try.prog g s := specs_cons i3_ok specs_nil
theorem T3_ok : TableOk Try.prog (G3.map (·.1)) T3 := (table_cons Try.func130 (by kernel_rfl) (by kernel_rfl) table_nil)
theorem idx3_ge (k : Int) : decide (idx3 k ≥ 0) = sizeOk k := by
  unfold idx3 sizeOk
  by_cases c1 : k = 1
  · simp [c1]
  by_cases c2 : k = 2
  · simp [c2]
  by_cases c4 : k = 4
  · simp [c4]
  simp [c1, c2, c4]
theorem eC3 (k : Int) : evTop Try.prog G3 T3 0 1 130 [.sl 3 [.int .i64 1, .int .i64 2, .int .i64 4], .int .i64 k] = some [.bool (sizeOk k)] := by
  unfold evTop
  simp only [List.map]
  rw [evF_s (fn := Try.f130) (msk := en130.ms) (hT := by rfl) (hb := by rfl)]
  simp only [Try.f130, G3, go_sem, Nat.reduceAdd, Nat.reduceSub, Nat.reduceMul, Nat.reduceEqDiff, Nat.reduceBEq, Nat.reduceLT, Nat.reduceLeDiff, Nat.reducePow, Int.reduceToNat, Int.reduceLT, Int.reduceLE, Int.reduceGT, Int.reduceGE, Int.reduceEq, Int.reduceNeg, Int.reduceAdd, Int.reduceSub, ↓reduceIte, reduceCtorEq, sI3_run k, idx3_ge k]
theorem con3_ok : SpecOk Try.prog 130 sC3 := specC_ok mixed G3_ok T3_ok fun k _ => ⟨0, 1, eC3 k⟩
noncomputable def G4 : Specs := [(130, sC3)]
noncomputable def T4 : Table := tableOf [(94, en94)]
theorem G4_ok : ∀ g s, Ev.look G4 g = some s → SpecOk Try.prog g s := specs_cons con3_ok specs_nil
theorem T4_ok : TableOk Try.prog (G4.map (·.1)) T4 := (table_cons Try.func94 (by kernel_rfl) (by kernel_rfl) table_nil)
noncomputable def sHalf : Ev.Spec := specC (cOne (cI .i64)) (fun _ => True) fun k => [.bool (sizeOk k)]
theorem sHalf_run (k : Int) : sHalf.run [.int .i64 k] = some [.bool (sizeOk k)] := specC_run (cOne (cI .i64)) _ _ k trivial
theorem eHalf (k : Int) : evTop Try.prog G4 T4 0 1 94 [.int .i64 k] = some [.bool (sizeOk k)] := by
  unfold evTop
  simp only [List.map]
  rw [evF_s (fn := Try.f94) (msk := en94.ms) (hT := by rfl) (hb := by rfl)]
  simp only [Try.f94, G4, go_sem, Nat.reduceAdd, Nat.reduceSub, Nat.reduceMul, Nat.reduceEqDiff, Nat.reduceBEq, Nat.reduceLT, Nat.reduceLeDiff, Nat.reducePow, Int.reduceToNat, Int.reduceLT, Int.reduceLE, Int.reduceGT, Int.reduceGE, Int.reduceEq, Int.reduceNeg, Int.reduceAdd, Int.reduceSub, ↓reduceIte, reduceCtorEq, sC3_run k]
theorem half_ok : SpecOk Try.prog 94 sHalf := specC_ok mixed G4_ok T4_ok fun k _ => ⟨0, 1, eHalf k⟩
#print axioms half_ok
/-! ### galaxy -/
noncomputable def sGal : Ev.Spec := specC (cOne cGal) (fun _ => True) fun g => [.int .i64 (galF g)]
theorem sGal_run (i x y z r w h : Int) : sGal.run [.agg 76 [.int .i64 i, .agg 23 [.int .i64 x, .int .i64 y, .int .i64 z], .int .i64 r, .int .i64 w, .int .i64 h]] = some [.int .i64 (galF ⟨i, (x, y, z), r, w, h⟩)] := specC_run (cOne cGal) _ _ (⟨i, (x, y, z), r, w, h⟩ : Gal) trivial
noncomputable def G5 : Specs := [(93, sChk)]
noncomputable def T5 : Table := tableOf [(89, en89)]
theorem G5_ok : ∀ g s, Ev.look G5 g = some s → SpecOk Try.prog g s := specs_cons chk_ok specs_nil
theorem T5_ok : TableOk Try.prog (G5.map (·.1)) T5 := (table_cons Try.func89 (by kernel_rfl) (by kernel_rfl) table_nil)
theorem sizeOk_t {k : Int} (h : sizeOk k = true) : decide (k = 1) = true ∨ (decide (k = 1) = false ∧ decide (k = 2) = true) ∨ (decide (k = 1) = false ∧ decide (k = 2) = false ∧ decide (k = 4) = true) := by
  unfold sizeOk at h
  cases h1 : decide (k = 1) <;> cases h2 : decide (k = 2) <;> cases h4 : decide (k = 4) <;> simp_all
theorem sizeOk_f {k : Int} (h : ¬ sizeOk k = true) : decide (k = 1) = false ∧ decide (k = 2) = false ∧ decide (k = 4) = false := by
  unfold sizeOk at h
  cases h1 : decide (k = 1) <;> cases h2 : decide (k = 2) <;> cases h4 : decide (k = 4) <;> simp_all
theorem eGal (i x y z r w h : Int) : evTop Try.prog G5 T5 3 1 89 [.agg 76 [.int .i64 i, .agg 23 [.int .i64 x, .int .i64 y, .int .i64 z], .int .i64 r, .int .i64 w, .int .i64 h]] = some [.int .i64 (galF ⟨i, (x, y, z), r, w, h⟩)] := by
  unfold evTop
  simp only [List.map]
  rw [evF_s (fn := Try.f89) (msk := en89.ms) (hT := by rfl) (hb := by rfl)]
  have rc := sChk_run x y z
  have wa : IntKind.i64.wrap (0 + 1) = 1 := by decide
  have wb : IntKind.i64.wrap (1 + 1) = 2 := by decide
  unfold galF
  by_cases c0 : chkV (x, y, z) = 0
  case neg =>
    rw [if_neg (by simpa using c0)]
    simp only [Try.f89, G5, go_sem, Nat.reduceAdd, Nat.reduceSub, Nat.reduceMul, Nat.reduceEqDiff, Nat.reduceBEq, Nat.reduceLT, Nat.reduceLeDiff, Nat.reducePow, Int.reduceToNat, Int.reduceLT, Int.reduceLE, Int.reduceGT, Int.reduceGE, Int.reduceEq, Int.reduceNeg, Int.reduceAdd, Int.reduceSub, ↓reduceIte, reduceCtorEq, rc, c0]
  rw [if_pos (by simpa using c0)]
  by_cases cw : sizeOk w = true
  case neg =>
    rw [if_neg (by simp [cw])]
    obtain ⟨w1, w2, w4⟩ := sizeOk_f cw
    simp only [Try.f89, G5, go_sem, Nat.reduceAdd, Nat.reduceSub, Nat.reduceMul, Nat.reduceEqDiff, Nat.reduceBEq, Nat.reduceLT, Nat.reduceLeDiff, Nat.reducePow, Int.reduceToNat, Int.reduceLT, Int.reduceLE, Int.reduceGT, Int.reduceGE, Int.reduceEq, Int.reduceNeg, Int.reduceAdd, Int.reduceSub, ↓reduceIte, reduceCtorEq, rc, c0, iter_s, w1, w2, w4]
  by_cases ch : sizeOk h = true
  case neg =>
    rw [if_neg (by simp [ch])]
    obtain ⟨h1, h2, h4⟩ := sizeOk_f ch
    rcases sizeOk_t cw with w1 | ⟨w1, w2⟩ | ⟨w1, w2, w4⟩
    · simp only [Try.f89, G5, go_sem, Nat.reduceAdd, Nat.reduceSub, Nat.reduceMul, Nat.reduceEqDiff, Nat.reduceBEq, Nat.reduceLT, Nat.reduceLeDiff, Nat.reducePow, Int.reduceToNat, Int.reduceLT, Int.reduceLE, Int.reduceGT, Int.reduceGE, Int.reduceEq, Int.reduceNeg, Int.reduceAdd, Int.reduceSub, ↓reduceIte, reduceCtorEq, rc, c0, iter_s, w1, h1, h2, h4]
    · simp only [Try.f89, G5, go_sem, Nat.reduceAdd, Nat.reduceSub, Nat.reduceMul, Nat.reduceEqDiff, Nat.reduceBEq, Nat.reduceLT, Nat.reduceLeDiff, Nat.reducePow, Int.reduceToNat, Int.reduceLT, Int.reduceLE, Int.reduceGT, Int.reduceGE, Int.reduceEq, Int.reduceNeg, Int.reduceAdd, Int.reduceSub, ↓reduceIte, reduceCtorEq, rc, c0, iter_s, w1, w2, h1, h2, h4]
    · simp only [Try.f89, G5, go_sem, Nat.reduceAdd, Nat.reduceSub, Nat.reduceMul, Nat.reduceEqDiff, Nat.reduceBEq, Nat.reduceLT, Nat.reduceLeDiff, Nat.reducePow, Int.reduceToNat, Int.reduceLT, Int.reduceLE, Int.reduceGT, Int.reduceGE, Int.reduceEq, Int.reduceNeg, Int.reduceAdd, Int.reduceSub, ↓reduceIte, reduceCtorEq, rc, c0, iter_s, w1, w2, w4, h1, h2, h4]
  rw [if_pos ⟨cw, ch⟩]
  rcases sizeOk_t cw with w1 | ⟨w1, w2⟩ | ⟨w1, w2, w4⟩
  · rcases sizeOk_t ch with h1 | ⟨h1, h2⟩ | ⟨h1, h2, h4⟩
    · simp only [Try.f89, G5, go_sem, Nat.reduceAdd, Nat.reduceSub, Nat.reduceMul, Nat.reduceEqDiff, Nat.reduceBEq, Nat.reduceLT, Nat.reduceLeDiff, Nat.reducePow, Int.reduceToNat, Int.reduceLT, Int.reduceLE, Int.reduceGT, Int.reduceGE, Int.reduceEq, Int.reduceNeg, Int.reduceAdd, Int.reduceSub, ↓reduceIte, reduceCtorEq, rc, c0, iter_s, w1, h1]
    · simp only [Try.f89, G5, go_sem, Nat.reduceAdd, Nat.reduceSub, Nat.reduceMul, Nat.reduceEqDiff, Nat.reduceBEq, Nat.reduceLT, Nat.reduceLeDiff, Nat.reducePow, Int.reduceToNat, Int.reduceLT, Int.reduceLE, Int.reduceGT, Int.reduceGE, Int.reduceEq, Int.reduceNeg, Int.reduceAdd, Int.reduceSub, ↓reduceIte, reduceCtorEq, rc, c0, iter_s, w1, h1, h2]
    · simp only [Try.f89, G5, go_sem, Nat.reduceAdd, Nat.reduceSub, Nat.reduceMul, Nat.reduceEqDiff, Nat.reduceBEq, Nat.reduceLT, Nat.reduceLeDiff, Nat.reducePow, Int.reduceToNat, Int.reduceLT, Int.reduceLE, Int.reduceGT, Int.reduceGE, Int.reduceEq, Int.reduceNeg, Int.reduceAdd, Int.reduceSub, ↓reduceIte, reduceCtorEq, rc, c0, iter_s, w1, h1, h2, h4]
  · rcases sizeOk_t ch with h1 | ⟨h1, h2⟩ | ⟨h1, h2, h4⟩
    · simp only [Try.f89, G5, go_sem, Nat.reduceAdd, Nat.reduceSub, Nat.reduceMul, Nat.reduceEqDiff, Nat.reduceBEq, Nat.reduceLT, Nat.reduceLeDiff, Nat.reducePow, Int.reduceToNat, Int.reduceLT, Int.reduceLE, Int.reduceGT, Int.reduceGE, Int.reduceEq, Int.reduceNeg, Int.reduceAdd, Int.reduceSub, ↓reduceIte, reduceCtorEq, rc, c0, iter_s, w1, w2, h1]
    · simp only [Try.f89, G5, go_sem, Nat.reduceAdd, Nat.reduceSub, Nat.reduceMul, Nat.reduceEqDiff, Nat.reduceBEq, Nat.reduceLT, Nat.reduceLeDiff, Nat.reducePow, Int.reduceToNat, Int.reduceLT, Int.reduceLE, Int.reduceGT, Int.reduceGE, Int.reduceEq, Int.reduceNeg, Int.reduceAdd, Int.reduceSub, ↓reduceIte, reduceCtorEq, rc, c0, iter_s, w1, w2, h1, h2]
    · simp only [Try.f89, G5, go_sem, Nat.reduceAdd, Nat.reduceSub, Nat.reduceMul, Nat.reduceEqDiff, Nat.reduceBEq, Nat.reduceLT, Nat.reduceLeDiff, Nat.reducePow, Int.reduceToNat, Int.reduceLT, Int.reduceLE, Int.reduceGT, Int.reduceGE, Int.reduceEq, Int.reduceNeg, Int.reduceAdd, Int.reduceSub, ↓reduceIte, reduceCtorEq, rc, c0, iter_s, w1, w2, h1, h2, h4]
  · rcases sizeOk_t ch with h1 | ⟨h1, h2⟩ | ⟨h1, h2, h4⟩
    · simp only [Try.f89, G5, go_sem, Nat.reduceAdd, Nat.reduceSub, Nat.reduceMul, Nat.reduceEqDiff, Nat.reduceBEq, Nat.reduceLT, Nat.reduceLeDiff, Nat.reducePow, Int.reduceToNat, Int.reduceLT, Int.reduceLE, Int.reduceGT, Int.reduceGE, Int.reduceEq, Int.reduceNeg, Int.reduceAdd, Int.reduceSub, ↓reduceIte, reduceCtorEq, rc, c0, iter_s, w1, w2, w4, h1]
    · simp only [Try.f89, G5, go_sem, Nat.reduceAdd, Nat.reduceSub, Nat.reduceMul, Nat.reduceEqDiff, Nat.reduceBEq, Nat.reduceLT, Nat.reduceLeDiff, Nat.reducePow, Int.reduceToNat, Int.reduceLT, Int.reduceLE, Int.reduceGT, Int.reduceGE, Int.reduceEq, Int.reduceNeg, Int.reduceAdd, Int.reduceSub, ↓reduceIte, reduceCtorEq, rc, c0, iter_s, w1, w2, w4, h1, h2]
    · simp only [Try.f89, G5, go_sem, Nat.reduceAdd, Nat.reduceSub, Nat.reduceMul, Nat.reduceEqDiff, Nat.reduceBEq, Nat.reduceLT, Nat.reduceLeDiff, Nat.reducePow, Int.reduceToNat, Int.reduceLT, Int.reduceLE, Int.reduceGT, Int.reduceGE, Int.reduceEq, Int.reduceNeg, Int.reduceAdd, Int.reduceSub, ↓reduceIte, reduceCtorEq, rc, c0, iter_s, w1, w2, w4, h1, h2, h4]
theorem gal_ok : SpecOk Try.prog 89 sGal := specC_ok mixed G5_ok T5_ok fun g _ => ⟨3, 1, eGal g.id g.p.1 g.p.2.1 g.p.2.2 g.rate g.wide g.high⟩
#print axioms gal_ok
end Go.Proofs.YtmhjmjodchbhlaaR.OwnRate
end
section
set_option linter.unusedVariables false
set_option linter.unusedSimpArgs false
set_option maxRecDepth 100000
namespace Go.Proofs.YtmhjmjodchbhlaaR.Idx131Rate
open Go.Ev Go.Proofs.YtmhjmjodchbhlaaR.FxRate
attribute [local go_sem] Ev.putR_s Ev.putR_0 Ev.thenO_s Ev.thenO_0 Ev.seqR_n Ev.seqR_e Ev.seqR_r Ev.seqR_0 Ev.blkR_e Ev.blkR_n Ev.blkR_r Ev.blkR_0 Ev.normR_s Ev.normR_0 Ev.outR_r Ev.outR_n Ev.outR_0 Ev.retS_s Ev.retS_0 Ev.pureO_s Ev.pureO_0 Ev.topR_0 Ev.topR_t Ev.topR_t0 Ev.oneL_0 Ev.oneL_s Ev.topR_d Ev.topR_nils Ev.topR_agg Ev.topR_rs Ev.evOp_move Ev.evOp_assign Ev.evOp_pick Ev.evOp_alloc Ev.evOp_box Ev.evOp_build Ev.evOp_buildSlice Ev.evOp_load Ev.evOp_store Ev.evOp_makeMap Ev.evOp_lookup Ev.evOp_mapUpdate Ev.evOp_insert Ev.evOp_nilCheck Ev.evOp_binOp Ev.evOp_unOp Ev.evOp_convert Ev.evOp_makeFunc Ev.evOp_makeSlice Ev.evOp_slice Ev.evOp_fieldAddr Ev.evOp_field Ev.evOp_indexAddr Ev.evOp_index Ev.evOp_extract Ev.evOp_call Ev.evOp_append Ev.evOp_len Ev.evOp_min Ev.evOp_max Ev.condR_b Ev.condR_t Ev.evOps_nil Ev.evOps_plain Ev.evOps_guard Ev.runG_eq Ev.skipG_eq Ev.condL_tt Ev.condL_ff Ev.condL_tf Ev.condL_ft Ev.condL_u Ev.condC_t Ev.condC_f Ev.evC_skip Ev.evC_ret Ev.evC_exit Ev.evC_label Ev.evC_region Ev.evC_draw Ev.evC_seq Ev.evC_cond Ev.evC_block Ev.evC_loop Ev.fin_d Ev.fin_nils Ev.fin_agg_ Ev.fin_rs Ev.finS_s Ev.mapO_fin Ev.upd_upd Ev.argv_d Ev.argv_nils Ev.argv_agg Ev.argv_rs Ev.argv_p Ev.appendTo_nils Ev.appendTo_rs Ev.consV_d Ev.consV_agg Ev.consV_p Ev.consV_rs Ev.consV_nils Ev.consV_fn Ev.consV_und Ev.consV_jk Ev.consV_grown Ev.topR_grown Ev.len_grown Ev.consV_mp Ev.sameK_i Ev.sameK_s Ev.mget_0 Ev.mget_hit Ev.mget_miss Ev.mput_0 Ev.mput_hit Ev.mput_miss Ev.apartAll Ev.apartL Ev.apartV Ev.freeAll Ev.sel Ev.keyOfV Ev.evLookup Ev.evPut Ev.hintOk Ev.keyOk Ev.consP Ev.lookV Ev.guardV Ev.dstAt Ev.evPure Ev.evStore Ev.evPureB Ev.evBin Ev.evBinO Ev.evNil Ev.isNilC Ev.evUn Ev.evConv Ev.evSlice Ev.optI Ev.lenV Ev.elemT Ev.foldI Ev.capsOk Ev.noTup Ev.nth Ev.setN Ev.pad Ev.V.get Ev.V.put Ev.putD Ev.hasT Ev.newBlk Ev.upd Ev.keq Ev.empty Ev.evCall Ev.V.args Ev.argP Ev.callOf Ev.evNilP Ev.isNilP Ev.look Ev.V.view.views Ev.V.view Ev.V.toD Ev.V.toD.V.toDs Ev.V.pure.pures Ev.V.pure Ev.D.flat.flats Ev.D.flat Ev.mkAgg Ev.allD Ev.aggParts Ev.setParts Ev.setElems Ev.getPath Ev.setPath Ev.subL Ev.eqD Ev.eqD.eqDs Ev.and2 Ev.strCut Ev.evalT Ev.constT Ev.evArgs Ev.mask Ev.maskOf Ev.tableOf Ev.compT Ev.resV Ev.retV Ev.mapO Ev.elemsOf Int.cast_ofNat_Int IntWalk.i64_in IntWalk.u64_in IntWalk.u8_in beq_self_eq_true Bool.true_beq Bool.false_beq Bool.and_true Bool.true_and Bool.false_and Bool.and_false Bool.and_self Bool.not_true Bool.not_false Bool.not_eq_true cond_true cond_false if_true if_false and_true true_and and_self decide_true decide_false Bool.or_true Bool.true_or Bool.or_false Bool.false_or List.isEmpty List.isEmpty_nil List.size_toArray List.map List.length_map List.length_cons List.length_nil Option.map Option.bind Option.getD Option.isSome List.replicate Bool.false_eq_true implies_true forall_const Array.toList Array.isEmpty List.append List.nil_append List.cons_append List.drop_zero List.take_length List.take_succ_cons List.take_zero List.take_nil List.getElem?_map List.getElem?_cons_zero List.getElem?_cons_succ List.getElem?_nil List.append_nil
attribute [local go_sem] FxRate.tk2 FxRate.ik2 FxRate.ek2 FxRate.zv2 FxRate.tk3 FxRate.ik3 FxRate.ek3 FxRate.zv3 FxRate.by3 FxRate.so3 FxRate.tk4 FxRate.ub4 FxRate.zv4 FxRate.tk23 FxRate.ct23 FxRate.ek23 FxRate.zv23 FxRate.tk27 FxRate.ik27 FxRate.zv27 FxRate.tk37 FxRate.ik37 FxRate.zv37 FxRate.by37 FxRate.so37 FxRate.tk39 FxRate.ct39 FxRate.zv39 FxRate.by39 FxRate.so39 FxRate.tk43 FxRate.zv43 FxRate.tk44 FxRate.zv44 FxRate.tk45 FxRate.zv45 FxRate.tk47 FxRate.ct47 FxRate.zv47 FxRate.tk48 FxRate.ik48 FxRate.zv48 FxRate.by48 FxRate.so48 FxRate.tk74 FxRate.zv74 FxRate.tk76 FxRate.ct76 FxRate.zv76 FxRate.by76 FxRate.so76 FxRate.tk77 FxRate.zv77 FxRate.tk79 FxRate.ct79 FxRate.zv79 FxRate.by79 FxRate.so79 FxRate.tk108 FxRate.zv108 FxRate.tk110 FxRate.ek110 FxRate.zv110 FxRate.tk111 FxRate.ek111 FxRate.zv111 FxRate.tk112 FxRate.zv112 FxRate.tk114 FxRate.ct114 FxRate.zv114 FxRate.by114 FxRate.so114 FxRate.tk136 FxRate.mt136 FxRate.sm136 FxRate.zw4 FxRate.zv136 FxRate.tk141 FxRate.zv141 FxRate.tk145 FxRate.zv145 FxRate.tk161 FxRate.ct161 FxRate.zv161 FxRate.tk182 FxRate.zv182 FxRate.mk7_1000000 FxRate.mk24_0 FxRate.mk24_2 FxRate.mk24_4 FxRate.mk24_1000001 FxRate.mk24_1000002 FxRate.mk24_1000003 FxRate.mk24_1000004 FxRate.mk24_1000005 FxRate.mk24_1000006 FxRate.mk24_1000000 FxRate.dw25_19 FxRate.nc25_19 FxRate.mk25_0 FxRate.mk25_2 FxRate.mk25_1000001 FxRate.mk25_1000002 FxRate.mk25_1000003 FxRate.mk25_1000004 FxRate.mk25_1000000 FxRate.mk40_0 FxRate.mk40_2 FxRate.mk40_4 FxRate.mk40_1000001 FxRate.mk40_1000002 FxRate.mk40_1000003 FxRate.mk40_1000004 FxRate.mk40_1000005 FxRate.mk40_1000006 FxRate.mk40_1000007 FxRate.mk40_1000000 FxRate.mk41_0 FxRate.mk41_1000001 FxRate.mk41_1000002 FxRate.mk41_1000003 FxRate.mk41_1000004 FxRate.mk41_1000000 FxRate.mk66_1000000 FxRate.dw67_9 FxRate.nc67_9 FxRate.mk67_1000000 FxRate.dw68_5 FxRate.nc68_5 FxRate.dw68_10 FxRate.nc68_10 FxRate.dw68_15 FxRate.nc68_15 FxRate.mk68_0 FxRate.mk68_2 FxRate.mk68_4 FxRate.mk68_1000001 FxRate.mk68_1000002 FxRate.mk68_1000003 FxRate.mk68_1000004 FxRate.mk68_1000005 FxRate.mk68_1000006 FxRate.mk68_1000000 FxRate.mk87_1000001 FxRate.mk87_1000000 FxRate.mk88_1000001 FxRate.mk88_1000000 FxRate.mk89_0 FxRate.mk89_1000001 FxRate.mk89_1000002 FxRate.mk89_1000000 FxRate.mk90_1000000 FxRate.mk91_1000000 FxRate.dw92_10 FxRate.nc92_10 FxRate.mk92_0 FxRate.mk92_2 FxRate.mk92_1000001 FxRate.mk92_1000002 FxRate.mk92_1000003 FxRate.mk92_1000004 FxRate.mk92_1000000 FxRate.mk93_1000001 FxRate.mk93_1000000 FxRate.mk94_1000000 FxRate.mk95_1000000 FxRate.mk128_1000000 FxRate.mk129_0 FxRate.mk129_1000001 FxRate.mk129_1000002 FxRate.mk129_1000000 FxRate.mk130_1000000 FxRate.mk131_0 FxRate.mk131_1000001 FxRate.mk131_1000002 FxRate.mk131_1000000 FxRate.mk150_0 FxRate.mk150_1000001 FxRate.mk150_1000002 FxRate.mk150_1000000
/-- The place of the first that p takes, from i on. -/
def idx {α : Type} (p : α → Bool) : List α → Int → Int
  | [], _ => -1
  | x :: r, i => if p x = true then i else idx p r (i + 1)
theorem idx_none {α : Type} (p : α → Bool) : ∀ (l : List α) (i : Int), l.any p = false → idx p l i = -1
  | [], _, _ => rfl
  | x :: r, i, h => by
    simp only [List.any_cons, Bool.or_eq_false_iff] at h
    rw [idx, if_neg (by simp [h.1])]
    exact idx_none p r (i + 1) h.2
theorem idx_any {α : Type} (p : α → Bool) : ∀ (l : List α) (i : Int), 0 ≤ i → decide (idx p l i ≥ 0) = l.any p
  | [], i, _ => rfl
  | x :: r, i, h => by
    simp only [idx, List.any_cons]
    by_cases hp : p x = true
    · simp [hp, h]
    · simp only [hp, Bool.false_eq_true, if_false, Bool.false_or]; exact idx_any p r (i + 1) (by omega)
/-- What the closure answers at x, if its captured variable says q. -/
def Takes {α : Type} (s : Ev.Spec) (en : α → D) (q : D) (p : α → Bool) (l : List α) : Prop := ∀ x ∈ l, s.run [en x, .ptr q] = some [.bool (p x)]
def hd {α : Type} (en : α → D) (k : Key) (ver : Nat) (l : List α) (i : Nat) : List V := hd131_0 (.d (.sl 37 (l.map en))) (.fn 128 [.p k ver 0 []]) (.d (.int .i64 l.length)) (.d (.int .i64 i))
def R {α : Type} (p : α → Bool) (l : List α) (st : Store) (i : Nat) : Out := if (l.drop i).any p = true then some (.ret, hr131 (.d (.int .i64 (idx p (l.drop i) i))), st) else some (.exit 0, hx131_0, st)
theorem loop {α : Type} (en : α → D) (G : Specs) (s : Ev.Spec) (hG : Ev.look G 128 = some s) (L lv : Nat) (call : Caller) (p : α → Bool) (q : D) (k : Key) (ver : Nat) (l : List α) (st : Store) (hs : Takes s en q p l) (hty : ∀ x, hasT Try.prog 37 (.d (en x)) = true) (h1 : (st k).ver = ver) (h2 : (st k).live = true) (h3 : (st k).vs = [.d q]) (hl : l.length ≤ 4611686018427387904) :
    ∀ (n i : Nat) (env : List V), i ≤ l.length → l.length - i < n → mask (maskOf en131.ms 0) env = hd en k ver l i →
      iter (evC Try.prog G call L en131.ms lv 0 lb131_0) (maskOf en131.ms 0) n env st = R p l st i := by
  refine iter_wf _ _ (fun i => i ≤ l.length) (hd en k ver l) (fun _ => st) (R p l st) (fun i => l.length - i) ?_
  intro i hi kk hk
  by_cases hil : i < l.length
  case neg =>
    obtain rfl : i = l.length := by omega
    have hlt : ¬ (l.length : Int) < l.length := by omega
    simp only [lb131_0, loopN, loops, hd, hd131_0, R, hr131, hx131_0, Try.f131, go_sem, Nat.reduceAdd, Nat.reduceSub, Nat.reduceMul, Nat.reduceEqDiff, Nat.reduceBEq, Nat.reduceLT, Nat.reduceLeDiff, Nat.reducePow, Int.reduceToNat, Int.reduceLT, Int.reduceLE, Int.reduceGT, Int.reduceGE, Int.reduceEq, Int.reduceNeg, Int.reduceAdd, Int.reduceSub, ↓reduceIte, reduceCtorEq, hlt, List.drop_length, List.any_nil]
  have hlt : (i : Int) < l.length := by omega
  have hx : l[i]? = some l[i] := by simp [hil]
  have hdr : l.drop i = l[i] :: l.drop (i + 1) := List.drop_eq_getElem_cons hil
  have hw : IntKind.i64.wrap ((i : Int) + 1) = ((i + 1 : Nat) : Int) := by rw [IntWalk.i64_in _ (by omega)]; rfl
  have h0 : (0 : Int) ≤ (i : Int) := by omega
  have ht : ((i : Int)).toNat = i := by omega
  have hr := hs l[i] (List.getElem_mem _)
  by_cases hp : p l[i] = true
  · have hR : R p l st i = some (.ret, hr131 (.d (.int .i64 i)), st) := by
      rw [R, hdr, List.any_cons, hp, Bool.true_or, if_pos rfl, idx, if_pos hp]
    rw [hR]
    simp only [lb131_0, loopN, loops, hd, hd131_0, hr131, Try.f131, go_sem, Nat.reduceAdd, Nat.reduceSub, Nat.reduceMul, Nat.reduceEqDiff, Nat.reduceBEq, Nat.reduceLT, Nat.reduceLeDiff, Nat.reducePow, Int.reduceToNat, Int.reduceLT, Int.reduceLE, Int.reduceGT, Int.reduceGE, Int.reduceEq, Int.reduceNeg, Int.reduceAdd, Int.reduceSub, ↓reduceIte, reduceCtorEq, hlt, hx, h0, ht, hG, h1, h2, h3, hr, hp, ↓hty]
  · have hp' : p l[i] = false := by simpa using hp
    have hR : R p l st i = R p l st (i + 1) := by
      rw [R, hdr, List.any_cons, hp', Bool.false_or, idx, if_neg hp]; rfl
    rw [hR]
    simp only [lb131_0, loopN, loops, hd, hd131_0, Try.f131, go_sem, Nat.reduceAdd, Nat.reduceSub, Nat.reduceMul, Nat.reduceEqDiff, Nat.reduceBEq, Nat.reduceLT, Nat.reduceLeDiff, Nat.reducePow, Int.reduceToNat, Int.reduceLT, Int.reduceLE, Int.reduceGT, Int.reduceGE, Int.reduceEq, Int.reduceNeg, Int.reduceAdd, Int.reduceSub, ↓reduceIte, reduceCtorEq, hlt, hx, h0, ht, hG, h1, h2, h3, hr, hp', hw, ↓hty]
    exact hk (i + 1) _ (by omega) (by omega) (by simp only [hd, hd131_0, go_sem, Nat.reduceAdd, Nat.reduceSub, Nat.reduceMul, Nat.reduceEqDiff, Nat.reduceBEq, Nat.reduceLT, Nat.reduceLeDiff, Nat.reducePow, Int.reduceToNat, Int.reduceLT, Int.reduceLE, Int.reduceGT, Int.reduceGE, Int.reduceEq, Int.reduceNeg, Int.reduceAdd, Int.reduceSub, ↓reduceIte, reduceCtorEq, hw])
theorem ev {α : Type} (en : α → D) (G : Specs) (T : Table) (hT : T 131 = some en131) (s : Ev.Spec) (hG : Ev.look G 128 = some s) (c lv : Nat) (p : α → Bool) (q : D) (k : Key) (ver : Nat) (l : List α) (st : Store) (hs : Takes s en q p l) (hty : ∀ x, hasT Try.prog 37 (.d (en x)) = true) (h1 : (st k).ver = ver) (h2 : (st k).live = true) (h3 : (st k).vs = [.d q]) (hl : l.length ≤ 4611686018427387904) (L : Nat) (hL : l.length < L) :
    evF Try.prog G T L (c + 1) 131 [.d (.sl 37 (l.map en)), .fn 128 [.p k ver 0 []]] lv st = some (.d (.int .i64 (idx p l 0)), st) := by
  rw [evF_s (hT := hT) (hb := rfl)]
  simp only [Try.f131, go_sem, Nat.reduceAdd, Nat.reduceSub, Nat.reduceMul, Nat.reduceEqDiff, Nat.reduceBEq, Nat.reduceLT, Nat.reduceLeDiff, Nat.reducePow, Int.reduceToNat, Int.reduceLT, Int.reduceLE, Int.reduceGT, Int.reduceGE, Int.reduceEq, Int.reduceNeg, Int.reduceAdd, Int.reduceSub, ↓reduceIte, reduceCtorEq]
  conv in iter _ _ _ _ _ => change iter (evC _ _ _ _ en131.ms _ _ lb131_0) (maskOf en131.ms 0) _ _ _
  rw [loop en G s hG L _ _ p q k ver l st hs hty h1 h2 h3 hl L 0 _ (by omega) (by omega) (by simp only [hd, hd131_0, go_sem, Nat.reduceAdd, Nat.reduceSub, Nat.reduceMul, Nat.reduceEqDiff, Nat.reduceBEq, Nat.reduceLT, Nat.reduceLeDiff, Nat.reducePow, Int.reduceToNat, Int.reduceLT, Int.reduceLE, Int.reduceGT, Int.reduceGE, Int.reduceEq, Int.reduceNeg, Int.reduceAdd, Int.reduceSub, ↓reduceIte, reduceCtorEq])]
  rw [R, List.drop_zero]
  by_cases ha : l.any p = true
  · rw [if_pos ha]
    simp only [hr131, go_sem, Nat.reduceAdd, Nat.reduceSub, Nat.reduceMul, Nat.reduceEqDiff, Nat.reduceBEq, Nat.reduceLT, Nat.reduceLeDiff, Nat.reducePow, Int.reduceToNat, Int.reduceLT, Int.reduceLE, Int.reduceGT, Int.reduceGE, Int.reduceEq, Int.reduceNeg, Int.reduceAdd, Int.reduceSub, ↓reduceIte, reduceCtorEq]
  · rw [if_neg ha]
    have hi : idx p l 0 = -1 := idx_none _ _ _ (by simpa using ha)
    simp only [hx131_0, go_sem, Nat.reduceAdd, Nat.reduceSub, Nat.reduceMul, Nat.reduceEqDiff, Nat.reduceBEq, Nat.reduceLT, Nat.reduceLeDiff, Nat.reducePow, Int.reduceToNat, Int.reduceLT, Int.reduceLE, Int.reduceGT, Int.reduceGE, Int.reduceEq, Int.reduceNeg, Int.reduceAdd, Int.reduceSub, ↓reduceIte, reduceCtorEq, hi]
theorem cf {α : Type} (en : α → D) (G : Specs) (T : Table) (hT : T 131 = some en131) (hU : T 95 = some en95) (s : Ev.Spec) (hN : Ev.look G 131 = none) (hG : Ev.look G 128 = some s) (c lv : Nat) (p : α → Bool) (q : D) (k : Key) (ver : Nat) (l : List α) (st : Store) (hs : Takes s en q p l) (hty : ∀ x, hasT Try.prog 37 (.d (en x)) = true) (h1 : (st k).ver = ver) (h2 : (st k).live = true) (h3 : (st k).vs = [.d q]) (hl : l.length ≤ 4611686018427387904) (L : Nat) (hL : l.length < L) :
    evF Try.prog G T L (c + 2) 95 [.d (.sl 37 (l.map en)), .fn 128 [.p k ver 0 []]] lv st = some (.d (.bool (l.any p)), st) := by
  rw [evF_s (hT := hU) (hb := rfl)]
  have hi := idx_any p l 0 (by omega)
  simp only [Try.f95, go_sem, Nat.reduceAdd, Nat.reduceSub, Nat.reduceMul, Nat.reduceEqDiff, Nat.reduceBEq, Nat.reduceLT, Nat.reduceLeDiff, Nat.reducePow, Int.reduceToNat, Int.reduceLT, Int.reduceLE, Int.reduceGT, Int.reduceGE, Int.reduceEq, Int.reduceNeg, Int.reduceAdd, Int.reduceSub, ↓reduceIte, reduceCtorEq, hN, ev en G T hT s hG c _ p q k ver l st hs hty h1 h2 h3 hl L hL, hi]
end Go.Proofs.YtmhjmjodchbhlaaR.Idx131Rate
end
section
set_option linter.unusedVariables false
set_option linter.unusedSimpArgs false
set_option maxRecDepth 100000
namespace Go.Proofs.YtmhjmjodchbhlaaR.StarRate
open Go.Ev Go.Ari Go.Proofs.YtmhjmjodchbhlaaR.FxRate Go.Proofs.YtmhjmjodchbhlaaR.PullPull Go.Proofs.YtmhjmjodchbhlaaR.TypesRate Go.Proofs.YtmhjmjodchbhlaaR.FaultRate Go.Proofs.YtmhjmjodchbhlaaR.OwnRate
open Go.Proofs.YtmhjmjodchbhlaaR.Idx131Rate (Takes cf)
attribute [local go_sem] Ev.putR_s Ev.putR_0 Ev.thenO_s Ev.thenO_0 Ev.seqR_n Ev.seqR_e Ev.seqR_r Ev.seqR_0 Ev.blkR_e Ev.blkR_n Ev.blkR_r Ev.blkR_0 Ev.normR_s Ev.normR_0 Ev.outR_r Ev.outR_n Ev.outR_0 Ev.retS_s Ev.retS_0 Ev.pureO_s Ev.pureO_0 Ev.topR_0 Ev.topR_t Ev.topR_t0 Ev.oneL_0 Ev.oneL_s Ev.topR_d Ev.topR_nils Ev.topR_agg Ev.topR_rs Ev.evOp_move Ev.evOp_assign Ev.evOp_pick Ev.evOp_alloc Ev.evOp_box Ev.evOp_build Ev.evOp_buildSlice Ev.evOp_load Ev.evOp_store Ev.evOp_makeMap Ev.evOp_lookup Ev.evOp_mapUpdate Ev.evOp_insert Ev.evOp_nilCheck Ev.evOp_binOp Ev.evOp_unOp Ev.evOp_convert Ev.evOp_makeFunc Ev.evOp_makeSlice Ev.evOp_slice Ev.evOp_fieldAddr Ev.evOp_field Ev.evOp_indexAddr Ev.evOp_index Ev.evOp_extract Ev.evOp_call Ev.evOp_append Ev.evOp_len Ev.evOp_min Ev.evOp_max Ev.condR_b Ev.condR_t Ev.evOps_nil Ev.evOps_plain Ev.evOps_guard Ev.runG_eq Ev.skipG_eq Ev.condL_tt Ev.condL_ff Ev.condL_tf Ev.condL_ft Ev.condL_u Ev.condC_t Ev.condC_f Ev.evC_skip Ev.evC_ret Ev.evC_exit Ev.evC_label Ev.evC_region Ev.evC_draw Ev.evC_seq Ev.evC_cond Ev.evC_block Ev.evC_loop Ev.fin_d Ev.fin_nils Ev.fin_agg_ Ev.fin_rs Ev.finS_s Ev.mapO_fin Ev.upd_upd Ev.argv_d Ev.argv_nils Ev.argv_agg Ev.argv_rs Ev.argv_p Ev.appendTo_nils Ev.appendTo_rs Ev.consV_d Ev.consV_agg Ev.consV_p Ev.consV_rs Ev.consV_nils Ev.consV_fn Ev.consV_und Ev.consV_jk Ev.consV_grown Ev.topR_grown Ev.len_grown Ev.consV_mp Ev.sameK_i Ev.sameK_s Ev.mget_0 Ev.mget_hit Ev.mget_miss Ev.mput_0 Ev.mput_hit Ev.mput_miss Ev.apartAll Ev.apartL Ev.apartV Ev.freeAll Ev.sel Ev.keyOfV Ev.evLookup Ev.evPut Ev.hintOk Ev.keyOk Ev.consP Ev.lookV Ev.guardV Ev.dstAt Ev.evPure Ev.evStore Ev.evPureB Ev.evBin Ev.evBinO Ev.evNil Ev.isNilC Ev.evUn Ev.evConv Ev.evSlice Ev.optI Ev.lenV Ev.elemT Ev.foldI Ev.capsOk Ev.noTup Ev.nth Ev.setN Ev.pad Ev.V.get Ev.V.put Ev.putD Ev.hasT Ev.newBlk Ev.upd Ev.keq Ev.empty Ev.evCall Ev.V.args Ev.argP Ev.callOf Ev.evNilP Ev.isNilP Ev.look Ev.V.view.views Ev.V.view Ev.V.toD Ev.V.toD.V.toDs Ev.V.pure.pures Ev.V.pure Ev.D.flat.flats Ev.D.flat Ev.mkAgg Ev.allD Ev.aggParts Ev.setParts Ev.setElems Ev.getPath Ev.setPath Ev.subL Ev.eqD Ev.eqD.eqDs Ev.and2 Ev.strCut Ev.evalT Ev.constT Ev.evArgs Ev.mask Ev.maskOf Ev.tableOf Ev.compT Ev.resV Ev.retV Ev.mapO Ev.elemsOf Int.cast_ofNat_Int IntWalk.i64_in IntWalk.u64_in IntWalk.u8_in beq_self_eq_true Bool.true_beq Bool.false_beq Bool.and_true Bool.true_and Bool.false_and Bool.and_false Bool.and_self Bool.not_true Bool.not_false Bool.not_eq_true cond_true cond_false if_true if_false and_true true_and and_self decide_true decide_false Bool.or_true Bool.true_or Bool.or_false Bool.false_or List.isEmpty List.isEmpty_nil List.size_toArray List.map List.length_map List.length_cons List.length_nil Option.map Option.bind Option.getD Option.isSome List.replicate Bool.false_eq_true implies_true forall_const Array.toList Array.isEmpty List.append List.nil_append List.cons_append List.drop_zero List.take_length List.take_succ_cons List.take_zero List.take_nil List.getElem?_map List.getElem?_cons_zero List.getElem?_cons_succ List.getElem?_nil List.append_nil
attribute [local go_sem] FxRate.tk2 FxRate.ik2 FxRate.ek2 FxRate.zv2 FxRate.tk3 FxRate.ik3 FxRate.ek3 FxRate.zv3 FxRate.by3 FxRate.so3 FxRate.tk4 FxRate.ub4 FxRate.zv4 FxRate.tk23 FxRate.ct23 FxRate.ek23 FxRate.zv23 FxRate.tk27 FxRate.ik27 FxRate.zv27 FxRate.tk37 FxRate.ik37 FxRate.zv37 FxRate.by37 FxRate.so37 FxRate.tk39 FxRate.ct39 FxRate.zv39 FxRate.by39 FxRate.so39 FxRate.tk43 FxRate.zv43 FxRate.tk44 FxRate.zv44 FxRate.tk45 FxRate.zv45 FxRate.tk47 FxRate.ct47 FxRate.zv47 FxRate.tk48 FxRate.ik48 FxRate.zv48 FxRate.by48 FxRate.so48 FxRate.tk74 FxRate.zv74 FxRate.tk76 FxRate.ct76 FxRate.zv76 FxRate.by76 FxRate.so76 FxRate.tk77 FxRate.zv77 FxRate.tk79 FxRate.ct79 FxRate.zv79 FxRate.by79 FxRate.so79 FxRate.tk108 FxRate.zv108 FxRate.tk110 FxRate.ek110 FxRate.zv110 FxRate.tk111 FxRate.ek111 FxRate.zv111 FxRate.tk112 FxRate.zv112 FxRate.tk114 FxRate.ct114 FxRate.zv114 FxRate.by114 FxRate.so114 FxRate.tk136 FxRate.mt136 FxRate.sm136 FxRate.zw4 FxRate.zv136 FxRate.tk141 FxRate.zv141 FxRate.tk145 FxRate.zv145 FxRate.tk161 FxRate.ct161 FxRate.zv161 FxRate.tk182 FxRate.zv182 FxRate.mk7_1000000 FxRate.mk24_0 FxRate.mk24_2 FxRate.mk24_4 FxRate.mk24_1000001 FxRate.mk24_1000002 FxRate.mk24_1000003 FxRate.mk24_1000004 FxRate.mk24_1000005 FxRate.mk24_1000006 FxRate.mk24_1000000 FxRate.dw25_19 FxRate.nc25_19 FxRate.mk25_0 FxRate.mk25_2 FxRate.mk25_1000001 FxRate.mk25_1000002 FxRate.mk25_1000003 FxRate.mk25_1000004 FxRate.mk25_1000000 FxRate.mk40_0 FxRate.mk40_2 FxRate.mk40_4 FxRate.mk40_1000001 FxRate.mk40_1000002 FxRate.mk40_1000003 FxRate.mk40_1000004 FxRate.mk40_1000005 FxRate.mk40_1000006 FxRate.mk40_1000007 FxRate.mk40_1000000 FxRate.mk41_0 FxRate.mk41_1000001 FxRate.mk41_1000002 FxRate.mk41_1000003 FxRate.mk41_1000004 FxRate.mk41_1000000 FxRate.mk66_1000000 FxRate.dw67_9 FxRate.nc67_9 FxRate.mk67_1000000 FxRate.dw68_5 FxRate.nc68_5 FxRate.dw68_10 FxRate.nc68_10 FxRate.dw68_15 FxRate.nc68_15 FxRate.mk68_0 FxRate.mk68_2 FxRate.mk68_4 FxRate.mk68_1000001 FxRate.mk68_1000002 FxRate.mk68_1000003 FxRate.mk68_1000004 FxRate.mk68_1000005 FxRate.mk68_1000006 FxRate.mk68_1000000 FxRate.mk87_1000001 FxRate.mk87_1000000 FxRate.mk88_1000001 FxRate.mk88_1000000 FxRate.mk89_0 FxRate.mk89_1000001 FxRate.mk89_1000002 FxRate.mk89_1000000 FxRate.mk90_1000000 FxRate.mk91_1000000 FxRate.dw92_10 FxRate.nc92_10 FxRate.mk92_0 FxRate.mk92_2 FxRate.mk92_1000001 FxRate.mk92_1000002 FxRate.mk92_1000003 FxRate.mk92_1000004 FxRate.mk92_1000000 FxRate.mk93_1000001 FxRate.mk93_1000000 FxRate.mk94_1000000 FxRate.mk95_1000000 FxRate.mk128_1000000 FxRate.mk129_0 FxRate.mk129_1000001 FxRate.mk129_1000002 FxRate.mk129_1000000 FxRate.mk130_1000000 FxRate.mk131_0 FxRate.mk131_1000001 FxRate.mk131_1000002 FxRate.mk131_1000000 FxRate.mk150_0 FxRate.mk150_1000001 FxRate.mk150_1000002 FxRate.mk150_1000000
/-! ### the closure of star -/
def cPs : Cod Star := ⟨fun s => .ptr s.D, fun x y h => cStar.inj x y (D.ptr.inj h)⟩
noncomputable def sWB : Ev.Spec := specC (cCons (cI .i64) (cOne cPs)) (fun x => 0 ≤ x.2.rate ∧ x.2.rate ≤ 1048576) fun x => [.bool (waveBad x.2.rate x.1)]
theorem sWB_run (q : Int) (s : Star) (h : 0 ≤ s.rate ∧ s.rate ≤ 1048576) : sWB.run [.int .i64 q, .ptr s.D] = some [.bool (waveBad s.rate q)] := specC_run (cCons (cI .i64) (cOne cPs)) _ _ (q, s) h
noncomputable def T1 : Table := tableOf [(128, en128)]
theorem T1_ok : TableOk Try.prog (([] : Specs).map (·.1)) T1 := (table_cons Try.func128 (by kernel_rfl) (by kernel_rfl) table_nil)
theorem eWB (q : Int) (s : Star) (h : 0 ≤ s.rate ∧ s.rate ≤ 1048576) : evTop Try.prog [] T1 0 1 128 [.int .i64 q, .ptr s.D] = some [.bool (waveBad s.rate q)] := by
  obtain ⟨i, ⟨x, y, z⟩, r, wv, p, f, t⟩ := s
  simp only at h
  unfold evTop
  simp only [List.map]
  rw [evF_s (fn := Try.f128) (msk := en128.ms) (hT := by rfl) (hb := by rfl)]
  have w : IntKind.i64.wrap (1048576 - r) = 1048576 - r := wi_in (by omega) (by omega)
  unfold waveBad
  by_cases c1 : q < 0
  · simp only [Try.f128, go_sem, Nat.reduceAdd, Nat.reduceSub, Nat.reduceMul, Nat.reduceEqDiff, Nat.reduceBEq, Nat.reduceLT, Nat.reduceLeDiff, Nat.reducePow, Int.reduceToNat, Int.reduceLT, Int.reduceLE, Int.reduceGT, Int.reduceGE, Int.reduceEq, Int.reduceNeg, Int.reduceAdd, Int.reduceSub, ↓reduceIte, reduceCtorEq, Star.D, vD, c1]
  · by_cases c2 : q > 1048576 - r
    · simp only [Try.f128, go_sem, Nat.reduceAdd, Nat.reduceSub, Nat.reduceMul, Nat.reduceEqDiff, Nat.reduceBEq, Nat.reduceLT, Nat.reduceLeDiff, Nat.reducePow, Int.reduceToNat, Int.reduceLT, Int.reduceLE, Int.reduceGT, Int.reduceGE, Int.reduceEq, Int.reduceNeg, Int.reduceAdd, Int.reduceSub, ↓reduceIte, reduceCtorEq, Star.D, vD, w, c1, c2]
    · simp only [Try.f128, go_sem, Nat.reduceAdd, Nat.reduceSub, Nat.reduceMul, Nat.reduceEqDiff, Nat.reduceBEq, Nat.reduceLT, Nat.reduceLeDiff, Nat.reducePow, Int.reduceToNat, Int.reduceLT, Int.reduceLE, Int.reduceGT, Int.reduceGE, Int.reduceEq, Int.reduceNeg, Int.reduceAdd, Int.reduceSub, ↓reduceIte, reduceCtorEq, Star.D, vD, w, c1, c2]
theorem wb_ok : SpecOk Try.prog 128 sWB := specC_ok mixed specs_nil T1_ok fun x h => ⟨0, 1, eWB x.1 x.2 h⟩
/-! ### star -/
def okStar (s : Star) : Prop := (0 ≤ s.rate ∧ s.rate ≤ 1048576) ∧ s.wave.length ≤ 4611686018427387904
noncomputable def sStar : Ev.Spec := specC (cOne cStar) okStar fun s => [.int .i64 (starF s)]
theorem sStar_run (s : Star) (h : okStar s) : sStar.run [s.D] = some [.int .i64 (starF s)] := specC_run (cOne cStar) _ _ s h
noncomputable def G2 : Specs := [(93, sChk), (128, sWB)]
noncomputable def T2 : Table := tableOf [(88, en88), (95, en95), (131, en131)]
theorem G2_ok : ∀ g s, Ev.look G2 g = some s → SpecOk Try.prog g s := specs_cons chk_ok (specs_cons wb_ok specs_nil)
theorem T2_ok : TableOk Try.prog (G2.map (·.1)) T2 := (table_cons Try.func88 (by kernel_rfl) (by kernel_rfl) (table_cons Try.func95 (by kernel_rfl) (by kernel_rfl) (table_cons Try.func131 (by kernel_rfl) (by kernel_rfl) table_nil)))
theorem ticks {f t : Int} : (tickBad f = true ∨ tickBad t = true) ↔ (minI f t < -17592186044416 ∨ maxI f t > 17592186044416) := by
  simp only [tickBad, Bool.or_eq_true, decide_eq_true_eq]
  unfold minI maxI
  split <;> split <;> omega
theorem eStar (s : Star) (h : okStar s) : evTop Try.prog G2 T2 (s.wave.length + 1) 3 88 [s.D] = some [.int .i64 (starF s)] := by
  obtain ⟨i, ⟨x, y, z⟩, r, wv, p, f, t⟩ := s
  obtain ⟨hr, hl⟩ := h
  simp only at hr hl
  have hS : Star.D ⟨i, (x, y, z), r, wv, p, f, t⟩ = .agg 79 [.int .i64 i, .agg 23 [.int .i64 x, .int .i64 y, .int .i64 z], .int .i64 r, .sl 37 (wv.map (.int .i64)), .int .i64 p, .int .i64 f, .int .i64 t] := rfl
  have hcf : ∀ (lv : Nat) (st : Store), (st (0, 1)).ver = 1 → (st (0, 1)).live = true → (st (0, 1)).vs = [.d (Star.D ⟨i, (x, y, z), r, wv, p, f, t⟩)] →
      evF Try.prog G2 T2 (wv.length + 1) 2 95 [.d (.sl 37 (wv.map (.int .i64))), .fn 128 [.p (0, 1) 1 0 []]] lv st = some (.d (.bool (wv.any (waveBad r))), st) := fun lv st q1 q2 q3 =>
    cf (.int .i64) G2 T2 rfl rfl sWB rfl rfl 0 lv (waveBad r) (Star.D ⟨i, (x, y, z), r, wv, p, f, t⟩) (0, 1) 1 wv st (fun q _ => sWB_run q _ hr) (fun q => by simp only [go_sem, Nat.reduceAdd, Nat.reduceSub, Nat.reduceMul, Nat.reduceEqDiff, Nat.reduceBEq, Nat.reduceLT, Nat.reduceLeDiff, Nat.reducePow, Int.reduceToNat, Int.reduceLT, Int.reduceLE, Int.reduceGT, Int.reduceGE, Int.reduceEq, Int.reduceNeg, Int.reduceAdd, Int.reduceSub, ↓reduceIte, reduceCtorEq]) q1 q2 q3 hl _ (by omega)
  simp only [hS, G2] at hcf
  simp only [hS]
  unfold evTop
  simp only [List.map]
  rw [evF_s (fn := Try.f88) (msk := en88.ms) (hT := by rfl) (hb := by rfl)]
  have rc := sChk_run x y z
  unfold starF
  by_cases c0 : chkV (x, y, z) = 0
  case neg =>
    rw [if_neg (by simpa using c0)]
    simp only [Try.f88, G2, go_sem, Nat.reduceAdd, Nat.reduceSub, Nat.reduceMul, Nat.reduceEqDiff, Nat.reduceBEq, Nat.reduceLT, Nat.reduceLeDiff, Nat.reducePow, Int.reduceToNat, Int.reduceLT, Int.reduceLE, Int.reduceGT, Int.reduceGE, Int.reduceEq, Int.reduceNeg, Int.reduceAdd, Int.reduceSub, ↓reduceIte, reduceCtorEq, rc, c0]
  rw [if_pos (by simpa using c0)]
  simp only
  by_cases c1 : wv.length > 16
  · have c1' : (wv.length : Int) > 16 := by omega
    rw [if_pos c1]
    simp only [Try.f88, G2, go_sem, Nat.reduceAdd, Nat.reduceSub, Nat.reduceMul, Nat.reduceEqDiff, Nat.reduceBEq, Nat.reduceLT, Nat.reduceLeDiff, Nat.reducePow, Int.reduceToNat, Int.reduceLT, Int.reduceLE, Int.reduceGT, Int.reduceGE, Int.reduceEq, Int.reduceNeg, Int.reduceAdd, Int.reduceSub, ↓reduceIte, reduceCtorEq, rc, c0, c1']
  rw [if_neg c1]
  have c1' : ¬ (wv.length : Int) > 16 := by omega
  by_cases c2 : wv.length = 0 ∧ ¬ p = 0
  · have d2 : (wv.length : Int) = 0 := by omega
    have d3 := c2.2
    rw [if_pos c2]
    simp only [Try.f88, G2, go_sem, Nat.reduceAdd, Nat.reduceSub, Nat.reduceMul, Nat.reduceEqDiff, Nat.reduceBEq, Nat.reduceLT, Nat.reduceLeDiff, Nat.reducePow, Int.reduceToNat, Int.reduceLT, Int.reduceLE, Int.reduceGT, Int.reduceGE, Int.reduceEq, Int.reduceNeg, Int.reduceAdd, Int.reduceSub, ↓reduceIte, reduceCtorEq, rc, c0, c1', decide_eq_true d2, decide_eq_false d3]
  rw [if_neg c2]
  by_cases c3 : 0 < wv.length ∧ perBad wv.length p = true
  · rw [if_pos c3]
    obtain ⟨c3, c4⟩ := c3
    have d2 : ¬ (wv.length : Int) = 0 := by omega
    have d3 : (wv.length : Int) > 0 := by omega
    simp only [perBad, Bool.or_eq_true, decide_eq_true_eq, Bool.not_eq_true', decide_eq_false_iff_not] at c4
    by_cases p1 : p < 1
    · simp only [Try.f88, G2, go_sem, Nat.reduceAdd, Nat.reduceSub, Nat.reduceMul, Nat.reduceEqDiff, Nat.reduceBEq, Nat.reduceLT, Nat.reduceLeDiff, Nat.reducePow, Int.reduceToNat, Int.reduceLT, Int.reduceLE, Int.reduceGT, Int.reduceGE, Int.reduceEq, Int.reduceNeg, Int.reduceAdd, Int.reduceSub, ↓reduceIte, reduceCtorEq, rc, c0, c1', decide_eq_false d2, d3, p1]
    by_cases p2 : p > 17592186044416
    · simp only [Try.f88, G2, go_sem, Nat.reduceAdd, Nat.reduceSub, Nat.reduceMul, Nat.reduceEqDiff, Nat.reduceBEq, Nat.reduceLT, Nat.reduceLeDiff, Nat.reducePow, Int.reduceToNat, Int.reduceLT, Int.reduceLE, Int.reduceGT, Int.reduceGE, Int.reduceEq, Int.reduceNeg, Int.reduceAdd, Int.reduceSub, ↓reduceIte, reduceCtorEq, rc, c0, c1', decide_eq_false d2, d3, p1, p2]
    have p3 : ¬ p.tmod wv.length = 0 := by
      rcases c4 with c4 | c4 | c4
      · exact absurd c4 p1
      · exact absurd c4 p2
      · exact c4
    simp only [Try.f88, G2, go_sem, Nat.reduceAdd, Nat.reduceSub, Nat.reduceMul, Nat.reduceEqDiff, Nat.reduceBEq, Nat.reduceLT, Nat.reduceLeDiff, Nat.reducePow, Int.reduceToNat, Int.reduceLT, Int.reduceLE, Int.reduceGT, Int.reduceGE, Int.reduceEq, Int.reduceNeg, Int.reduceAdd, Int.reduceSub, ↓reduceIte, reduceCtorEq, rc, c0, c1', d2, d3, p1, p2, decide_eq_false p3]
  rw [if_neg c3]
  have hc : (decide ((wv.length : Int) = 0) = true ∧ decide (p = 0) = true ∧ (¬ (wv.length : Int) > 0) ∧ True ∧ True ∧ True ∧ True) ∨ (decide ((wv.length : Int) = 0) = false ∧ True ∧ (wv.length : Int) > 0 ∧ (¬ p < 1) ∧ (¬ p > 17592186044416) ∧ decide (p.tmod wv.length = 0) = true ∧ ¬ (wv.length : Int) = 0) := by
    by_cases q : wv.length = 0
    · exact .inl ⟨decide_eq_true (by omega), decide_eq_true (Classical.byContradiction fun hp => c2 ⟨q, hp⟩), by omega, trivial, trivial, trivial, trivial⟩
    · have c4 : perBad wv.length p = false := by
        cases hb : perBad wv.length p with
        | false => rfl
        | true => exact absurd ⟨by omega, hb⟩ c3
      simp only [perBad, Bool.or_eq_false_iff, decide_eq_false_iff_not, Bool.not_eq_false'] at c4
      exact .inr ⟨decide_eq_false (by omega), trivial, by omega, c4.1, c4.2.1, c4.2.2, by omega⟩
  by_cases c5 : wv.any (waveBad r) = true
  · rw [if_pos c5]
    rcases hc with ⟨d1, d2, d3, d4, d5, d6, d7⟩ | ⟨d1, d2, d3, d4, d5, d6, d7⟩
    · simp only [Try.f88, G2, go_sem, Nat.reduceAdd, Nat.reduceSub, Nat.reduceMul, Nat.reduceEqDiff, Nat.reduceBEq, Nat.reduceLT, Nat.reduceLeDiff, Nat.reducePow, Int.reduceToNat, Int.reduceLT, Int.reduceLE, Int.reduceGT, Int.reduceGE, Int.reduceEq, Int.reduceNeg, Int.reduceAdd, Int.reduceSub, ↓reduceIte, reduceCtorEq, rc, c0, c1', d1, d2, d3, hcf, c5]
    · simp only [Try.f88, G2, go_sem, Nat.reduceAdd, Nat.reduceSub, Nat.reduceMul, Nat.reduceEqDiff, Nat.reduceBEq, Nat.reduceLT, Nat.reduceLeDiff, Nat.reducePow, Int.reduceToNat, Int.reduceLT, Int.reduceLE, Int.reduceGT, Int.reduceGE, Int.reduceEq, Int.reduceNeg, Int.reduceAdd, Int.reduceSub, ↓reduceIte, reduceCtorEq, rc, c0, c1', d1, d3, d4, d5, d6, d7, hcf, c5]
  rw [if_neg c5]
  have c5' : wv.any (waveBad r) = false := by simpa using c5
  by_cases c6 : tickBad f = true ∨ tickBad t = true
  · rw [if_pos c6]
    rw [ticks] at c6
    by_cases m1 : minI f t < -17592186044416
    · rcases hc with ⟨d1, d2, d3, d4, d5, d6, d7⟩ | ⟨d1, d2, d3, d4, d5, d6, d7⟩
      · simp only [Try.f88, G2, go_sem, Nat.reduceAdd, Nat.reduceSub, Nat.reduceMul, Nat.reduceEqDiff, Nat.reduceBEq, Nat.reduceLT, Nat.reduceLeDiff, Nat.reducePow, Int.reduceToNat, Int.reduceLT, Int.reduceLE, Int.reduceGT, Int.reduceGE, Int.reduceEq, Int.reduceNeg, Int.reduceAdd, Int.reduceSub, ↓reduceIte, reduceCtorEq, rc, c0, c1', d1, d2, d3, hcf, c5', m1]
      · simp only [Try.f88, G2, go_sem, Nat.reduceAdd, Nat.reduceSub, Nat.reduceMul, Nat.reduceEqDiff, Nat.reduceBEq, Nat.reduceLT, Nat.reduceLeDiff, Nat.reducePow, Int.reduceToNat, Int.reduceLT, Int.reduceLE, Int.reduceGT, Int.reduceGE, Int.reduceEq, Int.reduceNeg, Int.reduceAdd, Int.reduceSub, ↓reduceIte, reduceCtorEq, rc, c0, c1', d1, d3, d4, d5, d6, d7, hcf, c5', m1]
    have m2 : maxI f t > 17592186044416 := by
      rcases c6 with c6 | c6
      · exact absurd c6 m1
      · exact c6
    rcases hc with ⟨d1, d2, d3, d4, d5, d6, d7⟩ | ⟨d1, d2, d3, d4, d5, d6, d7⟩
    · simp only [Try.f88, G2, go_sem, Nat.reduceAdd, Nat.reduceSub, Nat.reduceMul, Nat.reduceEqDiff, Nat.reduceBEq, Nat.reduceLT, Nat.reduceLeDiff, Nat.reducePow, Int.reduceToNat, Int.reduceLT, Int.reduceLE, Int.reduceGT, Int.reduceGE, Int.reduceEq, Int.reduceNeg, Int.reduceAdd, Int.reduceSub, ↓reduceIte, reduceCtorEq, rc, c0, c1', d1, d2, d3, hcf, c5', m1, m2]
    · simp only [Try.f88, G2, go_sem, Nat.reduceAdd, Nat.reduceSub, Nat.reduceMul, Nat.reduceEqDiff, Nat.reduceBEq, Nat.reduceLT, Nat.reduceLeDiff, Nat.reducePow, Int.reduceToNat, Int.reduceLT, Int.reduceLE, Int.reduceGT, Int.reduceGE, Int.reduceEq, Int.reduceNeg, Int.reduceAdd, Int.reduceSub, ↓reduceIte, reduceCtorEq, rc, c0, c1', d1, d3, d4, d5, d6, d7, hcf, c5', m1, m2]
  rw [if_neg c6]
  rw [ticks] at c6
  have m1 : ¬ minI f t < -17592186044416 := fun h => c6 (.inl h)
  have m2 : ¬ maxI f t > 17592186044416 := fun h => c6 (.inr h)
  by_cases c7 : f > t
  · rw [if_pos c7]
    rcases hc with ⟨d1, d2, d3, d4, d5, d6, d7⟩ | ⟨d1, d2, d3, d4, d5, d6, d7⟩
    · simp only [Try.f88, G2, go_sem, Nat.reduceAdd, Nat.reduceSub, Nat.reduceMul, Nat.reduceEqDiff, Nat.reduceBEq, Nat.reduceLT, Nat.reduceLeDiff, Nat.reducePow, Int.reduceToNat, Int.reduceLT, Int.reduceLE, Int.reduceGT, Int.reduceGE, Int.reduceEq, Int.reduceNeg, Int.reduceAdd, Int.reduceSub, ↓reduceIte, reduceCtorEq, rc, c0, c1', d1, d2, d3, hcf, c5', m1, m2, c7]
    · simp only [Try.f88, G2, go_sem, Nat.reduceAdd, Nat.reduceSub, Nat.reduceMul, Nat.reduceEqDiff, Nat.reduceBEq, Nat.reduceLT, Nat.reduceLeDiff, Nat.reducePow, Int.reduceToNat, Int.reduceLT, Int.reduceLE, Int.reduceGT, Int.reduceGE, Int.reduceEq, Int.reduceNeg, Int.reduceAdd, Int.reduceSub, ↓reduceIte, reduceCtorEq, rc, c0, c1', d1, d3, d4, d5, d6, d7, hcf, c5', m1, m2, c7]
  · rw [if_neg c7]
    rcases hc with ⟨d1, d2, d3, d4, d5, d6, d7⟩ | ⟨d1, d2, d3, d4, d5, d6, d7⟩
    · simp only [Try.f88, G2, go_sem, Nat.reduceAdd, Nat.reduceSub, Nat.reduceMul, Nat.reduceEqDiff, Nat.reduceBEq, Nat.reduceLT, Nat.reduceLeDiff, Nat.reducePow, Int.reduceToNat, Int.reduceLT, Int.reduceLE, Int.reduceGT, Int.reduceGE, Int.reduceEq, Int.reduceNeg, Int.reduceAdd, Int.reduceSub, ↓reduceIte, reduceCtorEq, rc, c0, c1', d1, d2, d3, hcf, c5', m1, m2, c7]
    · simp only [Try.f88, G2, go_sem, Nat.reduceAdd, Nat.reduceSub, Nat.reduceMul, Nat.reduceEqDiff, Nat.reduceBEq, Nat.reduceLT, Nat.reduceLeDiff, Nat.reducePow, Int.reduceToNat, Int.reduceLT, Int.reduceLE, Int.reduceGT, Int.reduceGE, Int.reduceEq, Int.reduceNeg, Int.reduceAdd, Int.reduceSub, ↓reduceIte, reduceCtorEq, rc, c0, c1', d1, d3, d4, d5, d6, d7, hcf, c5', m1, m2, c7]
theorem star_ok : SpecOk Try.prog 88 sStar := specC_ok mixed G2_ok T2_ok fun s h => ⟨_, 3, eStar s h⟩
#print axioms star_ok
/-! ### starFault -/
noncomputable def G3 : Specs := [(93, sChk)]
noncomputable def T3 : Table := tableOf [(92, en92)]
theorem G3_ok : ∀ g s, Ev.look G3 g = some s → SpecOk Try.prog g s := specs_cons chk_ok specs_nil
theorem T3_ok : TableOk Try.prog (G3.map (·.1)) T3 := (table_cons Try.func92 (by kernel_rfl) (by kernel_rfl) table_nil)
def hd (l : List Int) (i : Nat) : List V := hd92_0 (.p (0, 1) 1 0 []) (.d (.sl 37 (l.map (.int .i64)))) (.d (.int .i64 l.length)) (.d (.int .i64 i))
def R (r : Int) (l : List Int) (st : Store) (i : Nat) : Out := if (l.drop i).any (waveBad r) = true then some (.ret, hr92 (.d (.int .i64 4)), st) else some (.exit 0, hx92_0 (.p (0, 1) 1 0 []), st)
theorem loop (L lv : Nat) (call : Caller) (s : Star) (hr : 0 ≤ s.rate ∧ s.rate ≤ 1048576) (st : Store) (hst : st (0, 1) = ⟨1, 79, [.d s.D], true⟩) (hl : s.wave.length ≤ 4611686018427387904) :
    ∀ (n i : Nat) (env : List V), i ≤ s.wave.length → s.wave.length - i < n → mask (maskOf en92.ms 0) env = hd s.wave i →
      iter (evC Try.prog G3 call L en92.ms lv 0 lb92_0) (maskOf en92.ms 0) n env st = R s.rate s.wave st i := by
  obtain ⟨ii, ⟨x, y, z⟩, r, l, p, f, t⟩ := s
  simp only at hr hl ⊢
  refine iter_wf _ _ (fun i => i ≤ l.length) (hd l) (fun _ => st) (R r l st) (fun i => l.length - i) ?_
  intro i hi kk hk
  by_cases hil : i < l.length
  case neg =>
    obtain rfl : i = l.length := by omega
    have hlt : ¬ (l.length : Int) < l.length := by omega
    simp only [lb92_0, loopN, loops, hd, hd92_0, R, hr92, hx92_0, Try.f92, go_sem, Nat.reduceAdd, Nat.reduceSub, Nat.reduceMul, Nat.reduceEqDiff, Nat.reduceBEq, Nat.reduceLT, Nat.reduceLeDiff, Nat.reducePow, Int.reduceToNat, Int.reduceLT, Int.reduceLE, Int.reduceGT, Int.reduceGE, Int.reduceEq, Int.reduceNeg, Int.reduceAdd, Int.reduceSub, ↓reduceIte, reduceCtorEq, hlt, List.drop_length, List.any_nil]
  have hlt : (i : Int) < l.length := by omega
  have hx : (l.map (D.int .i64))[i]? = some (.int .i64 l[i]) := by simp [hil]
  have hdr : l.drop i = l[i] :: l.drop (i + 1) := List.drop_eq_getElem_cons hil
  have hw : IntKind.i64.wrap ((i : Int) + 1) = ((i + 1 : Nat) : Int) := by rw [IntWalk.i64_in _ (by omega)]; rfl
  have h0 : (0 : Int) ≤ (i : Int) := by omega
  have ht : ((i : Int)).toNat = i := by omega
  by_cases c1 : l[i] < 0
  · have hR : R r l st i = some (.ret, hr92 (.d (.int .i64 4)), st) := by
      rw [R, hdr, List.any_cons, waveBad, decide_eq_true c1, Bool.true_or, Bool.true_or, if_pos rfl]
    rw [hR]
    simp only [lb92_0, loopN, loops, hd, hd92_0, hr92, Try.f92, go_sem, Nat.reduceAdd, Nat.reduceSub, Nat.reduceMul, Nat.reduceEqDiff, Nat.reduceBEq, Nat.reduceLT, Nat.reduceLeDiff, Nat.reducePow, Int.reduceToNat, Int.reduceLT, Int.reduceLE, Int.reduceGT, Int.reduceGE, Int.reduceEq, Int.reduceNeg, Int.reduceAdd, Int.reduceSub, ↓reduceIte, reduceCtorEq, hst, Star.D, vD, hlt, hx, h0, ht, c1]
  have hm0 : 0 ≤ minI l[i] 1099511627776 ∧ minI l[i] 1099511627776 ≤ 1099511627776 := by unfold minI; split <;> omega
  have w1 : IntKind.i64.wrap (r + minI l[i] 1099511627776) = r + minI l[i] 1099511627776 := wi_in (by omega) (by omega)
  have hmm : r + minI l[i] 1099511627776 > 1048576 ↔ l[i] > 1048576 - r := by unfold minI; split <;> omega
  by_cases c2 : r + minI l[i] 1099511627776 > 1048576
  · have hR : R r l st i = some (.ret, hr92 (.d (.int .i64 4)), st) := by
      rw [R, hdr, List.any_cons, waveBad, decide_eq_true (hmm.1 c2), Bool.or_true, Bool.true_or, if_pos rfl]
    rw [hR]
    simp only [lb92_0, loopN, loops, hd, hd92_0, hr92, Try.f92, go_sem, Nat.reduceAdd, Nat.reduceSub, Nat.reduceMul, Nat.reduceEqDiff, Nat.reduceBEq, Nat.reduceLT, Nat.reduceLeDiff, Nat.reducePow, Int.reduceToNat, Int.reduceLT, Int.reduceLE, Int.reduceGT, Int.reduceGE, Int.reduceEq, Int.reduceNeg, Int.reduceAdd, Int.reduceSub, ↓reduceIte, reduceCtorEq, hst, Star.D, vD, hlt, hx, h0, ht, c1, w1, c2]
  · have hR : R r l st i = R r l st (i + 1) := by
      rw [R, hdr, List.any_cons, waveBad, decide_eq_false c1, decide_eq_false (fun q => c2 (hmm.2 q)), Bool.false_or, Bool.false_or]; rfl
    rw [hR]
    simp only [lb92_0, loopN, loops, hd, hd92_0, Try.f92, go_sem, Nat.reduceAdd, Nat.reduceSub, Nat.reduceMul, Nat.reduceEqDiff, Nat.reduceBEq, Nat.reduceLT, Nat.reduceLeDiff, Nat.reducePow, Int.reduceToNat, Int.reduceLT, Int.reduceLE, Int.reduceGT, Int.reduceGE, Int.reduceEq, Int.reduceNeg, Int.reduceAdd, Int.reduceSub, ↓reduceIte, reduceCtorEq, hst, Star.D, vD, hlt, hx, h0, ht, c1, w1, c2, hw]
    exact hk (i + 1) _ (by omega) (by omega) (by simp only [hd, hd92_0, go_sem, Nat.reduceAdd, Nat.reduceSub, Nat.reduceMul, Nat.reduceEqDiff, Nat.reduceBEq, Nat.reduceLT, Nat.reduceLeDiff, Nat.reducePow, Int.reduceToNat, Int.reduceLT, Int.reduceLE, Int.reduceGT, Int.reduceGE, Int.reduceEq, Int.reduceNeg, Int.reduceAdd, Int.reduceSub, ↓reduceIte, reduceCtorEq, hw])
theorem eFault (s : Star) (h : okStar s) : evTop Try.prog G3 T3 (s.wave.length + 4) 1 92 [s.D] = some [.int .i64 (starF s)] := by
  have hloop := fun L lv call st hst => loop L lv call s h.1 st hst h.2
  obtain ⟨i, ⟨x, y, z⟩, r, wv, p, f, t⟩ := s
  obtain ⟨hr, hl⟩ := h
  simp only at hr hl hloop
  have hS : Star.D ⟨i, (x, y, z), r, wv, p, f, t⟩ = .agg 79 [.int .i64 i, .agg 23 [.int .i64 x, .int .i64 y, .int .i64 z], .int .i64 r, .sl 37 (wv.map (.int .i64)), .int .i64 p, .int .i64 f, .int .i64 t] := rfl
  simp only [hS] at hloop ⊢
  unfold evTop
  simp only [List.map]
  rw [evF_s (fn := Try.f92) (msk := en92.ms) (hT := by rfl) (hb := by rfl)]
  have rc := sChk_run x y z
  unfold starF
  by_cases c0 : chkV (x, y, z) = 0
  case neg =>
    rw [if_neg (by simpa using c0)]
    simp only [Try.f92, G3, go_sem, Nat.reduceAdd, Nat.reduceSub, Nat.reduceMul, Nat.reduceEqDiff, Nat.reduceBEq, Nat.reduceLT, Nat.reduceLeDiff, Nat.reducePow, Int.reduceToNat, Int.reduceLT, Int.reduceLE, Int.reduceGT, Int.reduceGE, Int.reduceEq, Int.reduceNeg, Int.reduceAdd, Int.reduceSub, ↓reduceIte, reduceCtorEq, rc, c0]
  rw [if_pos (by simpa using c0)]
  simp only
  by_cases c1 : wv.length > 16
  · have c1' : (wv.length : Int) > 16 := by omega
    rw [if_pos c1]
    simp only [Try.f92, G3, go_sem, Nat.reduceAdd, Nat.reduceSub, Nat.reduceMul, Nat.reduceEqDiff, Nat.reduceBEq, Nat.reduceLT, Nat.reduceLeDiff, Nat.reducePow, Int.reduceToNat, Int.reduceLT, Int.reduceLE, Int.reduceGT, Int.reduceGE, Int.reduceEq, Int.reduceNeg, Int.reduceAdd, Int.reduceSub, ↓reduceIte, reduceCtorEq, rc, c0, c1']
  rw [if_neg c1]
  have c1' : ¬ (wv.length : Int) > 16 := by omega
  by_cases c2 : wv.length = 0 ∧ ¬ p = 0
  · have d2 : (wv.length : Int) = 0 := by omega
    have d3 := c2.2
    rw [if_pos c2]
    simp only [Try.f92, G3, go_sem, Nat.reduceAdd, Nat.reduceSub, Nat.reduceMul, Nat.reduceEqDiff, Nat.reduceBEq, Nat.reduceLT, Nat.reduceLeDiff, Nat.reducePow, Int.reduceToNat, Int.reduceLT, Int.reduceLE, Int.reduceGT, Int.reduceGE, Int.reduceEq, Int.reduceNeg, Int.reduceAdd, Int.reduceSub, ↓reduceIte, reduceCtorEq, rc, c0, c1', decide_eq_true d2, decide_eq_false d3]
  rw [if_neg c2]
  have wq : ¬ p < wv.length → ¬ p > 17592186044416 → 0 < wv.length → IntKind.i64.wrap (p.tdiv wv.length) = p.tdiv wv.length ∧ IntKind.i64.wrap (p.tdiv wv.length * wv.length) = p.tdiv wv.length * wv.length := by
    intro h1 h2 h3
    have e := Int.tdiv_mul_add_tmod p wv.length
    have e1 : 0 ≤ p.tmod wv.length := Int.tmod_nonneg _ (by omega)
    have e2 : p.tmod wv.length < wv.length := Int.tmod_lt_of_pos _ (by omega)
    have e3 : 0 ≤ p.tdiv wv.length := Int.tdiv_nonneg (by omega) (by omega)
    have e4 : p.tdiv wv.length ≤ p.tdiv wv.length * wv.length := by
      have := Int.mul_le_mul_of_nonneg_left (show (1 : Int) ≤ wv.length by omega) e3
      omega
    exact ⟨wi_in (by omega) (by omega), wi_in (by omega) (by omega)⟩
  by_cases c3 : 0 < wv.length ∧ perBad wv.length p = true
  · rw [if_pos c3]
    obtain ⟨c3, c4⟩ := c3
    rw [per_b c3 (by omega)] at c4
    have d2 : ¬ (wv.length : Int) = 0 := by omega
    by_cases p1 : p < wv.length
    · simp only [Try.f92, G3, go_sem, Nat.reduceAdd, Nat.reduceSub, Nat.reduceMul, Nat.reduceEqDiff, Nat.reduceBEq, Nat.reduceLT, Nat.reduceLeDiff, Nat.reducePow, Int.reduceToNat, Int.reduceLT, Int.reduceLE, Int.reduceGT, Int.reduceGE, Int.reduceEq, Int.reduceNeg, Int.reduceAdd, Int.reduceSub, ↓reduceIte, reduceCtorEq, rc, c0, c1', d2, p1]
    by_cases p2 : p > 17592186044416
    · simp only [Try.f92, G3, go_sem, Nat.reduceAdd, Nat.reduceSub, Nat.reduceMul, Nat.reduceEqDiff, Nat.reduceBEq, Nat.reduceLT, Nat.reduceLeDiff, Nat.reducePow, Int.reduceToNat, Int.reduceLT, Int.reduceLE, Int.reduceGT, Int.reduceGE, Int.reduceEq, Int.reduceNeg, Int.reduceAdd, Int.reduceSub, ↓reduceIte, reduceCtorEq, rc, c0, c1', d2, p1, p2]
    have p3 : ¬ p.tdiv wv.length * wv.length = p := by
      rcases c4 with c4 | c4 | c4
      · exact absurd c4 p1
      · exact absurd c4 p2
      · exact c4
    obtain ⟨w1, w2⟩ := wq p1 p2 c3
    simp only [Try.f92, G3, go_sem, Nat.reduceAdd, Nat.reduceSub, Nat.reduceMul, Nat.reduceEqDiff, Nat.reduceBEq, Nat.reduceLT, Nat.reduceLeDiff, Nat.reducePow, Int.reduceToNat, Int.reduceLT, Int.reduceLE, Int.reduceGT, Int.reduceGE, Int.reduceEq, Int.reduceNeg, Int.reduceAdd, Int.reduceSub, ↓reduceIte, reduceCtorEq, rc, c0, c1', d2, p1, p2, w1, w2, decide_eq_false p3]
  rw [if_neg c3]
  have hc : (decide ((wv.length : Int) = 0) = true ∧ decide (p = 0) = true ∧ True ∧ True ∧ True ∧ True ∧ True ∧ True) ∨ (decide ((wv.length : Int) = 0) = false ∧ True ∧ (¬ p < wv.length) ∧ (¬ p > 17592186044416) ∧ decide (p.tdiv wv.length * wv.length = p) = true ∧ (¬ (wv.length : Int) = 0) ∧ IntKind.i64.wrap (p.tdiv wv.length) = p.tdiv wv.length ∧ IntKind.i64.wrap (p.tdiv wv.length * wv.length) = p.tdiv wv.length * wv.length) := by
    by_cases q : wv.length = 0
    · exact .inl ⟨decide_eq_true (by omega), decide_eq_true (Classical.byContradiction fun hp => c2 ⟨q, hp⟩), trivial, trivial, trivial, trivial, trivial, trivial⟩
    · have c4 : ¬ perBad wv.length p = true := fun hb => c3 ⟨by omega, hb⟩
      rw [per_b (by omega) (by omega)] at c4
      have p1 : ¬ p < wv.length := fun h => c4 (.inl h)
      have p2 : ¬ p > 17592186044416 := fun h => c4 (.inr (.inl h))
      have w := wq p1 p2 (by omega)
      exact .inr ⟨decide_eq_false (by omega), trivial, p1, p2, decide_eq_true (Classical.byContradiction fun h => c4 (.inr (.inr h))), by omega, w.1, w.2⟩
  have wa : IntKind.i64.wrap (0 + 1) = 1 := by decide
  have wb : IntKind.i64.wrap (1 + 1) = 2 := by decide
  rcases hc with ⟨d1, d2, d3, d4, d5, d6, d7, d8⟩ | ⟨d1, d2, d3, d4, d5, d6, d7, d8⟩
  all_goals
    simp only [Try.f92, G3, go_sem, Nat.reduceAdd, Nat.reduceSub, Nat.reduceMul, Nat.reduceEqDiff, Nat.reduceBEq, Nat.reduceLT, Nat.reduceLeDiff, Nat.reducePow, Int.reduceToNat, Int.reduceLT, Int.reduceLE, Int.reduceGT, Int.reduceGE, Int.reduceEq, Int.reduceNeg, Int.reduceAdd, Int.reduceSub, ↓reduceIte, reduceCtorEq, rc, c0, c1', d1, d2, d3, d4, d5, d6, d7, d8]
    conv in iter _ _ _ _ _ => change iter (evC _ G3 _ _ en92.ms _ _ lb92_0) (maskOf en92.ms 0) _ _ _
    rw [hloop _ _ _ _ (by simp only [go_sem, Nat.reduceAdd, Nat.reduceSub, Nat.reduceMul, Nat.reduceEqDiff, Nat.reduceBEq, Nat.reduceLT, Nat.reduceLeDiff, Nat.reducePow, Int.reduceToNat, Int.reduceLT, Int.reduceLE, Int.reduceGT, Int.reduceGE, Int.reduceEq, Int.reduceNeg, Int.reduceAdd, Int.reduceSub, ↓reduceIte, reduceCtorEq]) _ 0 _ (by omega) (by omega) (by simp only [hd, hd92_0, go_sem, Nat.reduceAdd, Nat.reduceSub, Nat.reduceMul, Nat.reduceEqDiff, Nat.reduceBEq, Nat.reduceLT, Nat.reduceLeDiff, Nat.reducePow, Int.reduceToNat, Int.reduceLT, Int.reduceLE, Int.reduceGT, Int.reduceGE, Int.reduceEq, Int.reduceNeg, Int.reduceAdd, Int.reduceSub, ↓reduceIte, reduceCtorEq])]
    rw [R, List.drop_zero]
    by_cases c5 : wv.any (waveBad r) = true
    · rw [if_pos c5, if_pos c5]
      simp only [hr92, go_sem, Nat.reduceAdd, Nat.reduceSub, Nat.reduceMul, Nat.reduceEqDiff, Nat.reduceBEq, Nat.reduceLT, Nat.reduceLeDiff, Nat.reducePow, Int.reduceToNat, Int.reduceLT, Int.reduceLE, Int.reduceGT, Int.reduceGE, Int.reduceEq, Int.reduceNeg, Int.reduceAdd, Int.reduceSub, ↓reduceIte, reduceCtorEq]
    rw [if_neg c5, if_neg c5]
    by_cases t1 : f < -17592186044416
    · rw [if_pos (.inl (by simp [tickBad, t1]))]
      simp only [hx92_0, Try.f92, G3, go_sem, Nat.reduceAdd, Nat.reduceSub, Nat.reduceMul, Nat.reduceEqDiff, Nat.reduceBEq, Nat.reduceLT, Nat.reduceLeDiff, Nat.reducePow, Int.reduceToNat, Int.reduceLT, Int.reduceLE, Int.reduceGT, Int.reduceGE, Int.reduceEq, Int.reduceNeg, Int.reduceAdd, Int.reduceSub, ↓reduceIte, reduceCtorEq, iter_s, t1]
    by_cases t2 : f > 17592186044416
    · rw [if_pos (.inl (by simp [tickBad, t2]))]
      simp only [hx92_0, Try.f92, G3, go_sem, Nat.reduceAdd, Nat.reduceSub, Nat.reduceMul, Nat.reduceEqDiff, Nat.reduceBEq, Nat.reduceLT, Nat.reduceLeDiff, Nat.reducePow, Int.reduceToNat, Int.reduceLT, Int.reduceLE, Int.reduceGT, Int.reduceGE, Int.reduceEq, Int.reduceNeg, Int.reduceAdd, Int.reduceSub, ↓reduceIte, reduceCtorEq, iter_s, t1, t2]
    by_cases t3 : t < -17592186044416
    · rw [if_pos (.inr (by simp [tickBad, t3]))]
      simp only [hx92_0, Try.f92, G3, go_sem, Nat.reduceAdd, Nat.reduceSub, Nat.reduceMul, Nat.reduceEqDiff, Nat.reduceBEq, Nat.reduceLT, Nat.reduceLeDiff, Nat.reducePow, Int.reduceToNat, Int.reduceLT, Int.reduceLE, Int.reduceGT, Int.reduceGE, Int.reduceEq, Int.reduceNeg, Int.reduceAdd, Int.reduceSub, ↓reduceIte, reduceCtorEq, iter_s, t1, t2, t3]
    by_cases t4 : t > 17592186044416
    · rw [if_pos (.inr (by simp [tickBad, t4]))]
      simp only [hx92_0, Try.f92, G3, go_sem, Nat.reduceAdd, Nat.reduceSub, Nat.reduceMul, Nat.reduceEqDiff, Nat.reduceBEq, Nat.reduceLT, Nat.reduceLeDiff, Nat.reducePow, Int.reduceToNat, Int.reduceLT, Int.reduceLE, Int.reduceGT, Int.reduceGE, Int.reduceEq, Int.reduceNeg, Int.reduceAdd, Int.reduceSub, ↓reduceIte, reduceCtorEq, iter_s, t1, t2, t3, t4]
    rw [if_neg (by simp only [tickBad, t1, t2, t3, t4, decide_false, Bool.or_false, Bool.false_eq_true, or_self, not_false_iff])]
    by_cases c7 : t < f
    · rw [if_pos c7]
      simp only [hx92_0, Try.f92, G3, go_sem, Nat.reduceAdd, Nat.reduceSub, Nat.reduceMul, Nat.reduceEqDiff, Nat.reduceBEq, Nat.reduceLT, Nat.reduceLeDiff, Nat.reducePow, Int.reduceToNat, Int.reduceLT, Int.reduceLE, Int.reduceGT, Int.reduceGE, Int.reduceEq, Int.reduceNeg, Int.reduceAdd, Int.reduceSub, ↓reduceIte, reduceCtorEq, iter_s, t1, t2, t3, t4, c7]
    · rw [if_neg c7]
      simp only [hx92_0, Try.f92, G3, go_sem, Nat.reduceAdd, Nat.reduceSub, Nat.reduceMul, Nat.reduceEqDiff, Nat.reduceBEq, Nat.reduceLT, Nat.reduceLeDiff, Nat.reducePow, Int.reduceToNat, Int.reduceLT, Int.reduceLE, Int.reduceGT, Int.reduceGE, Int.reduceEq, Int.reduceNeg, Int.reduceAdd, Int.reduceSub, ↓reduceIte, reduceCtorEq, iter_s, t1, t2, t3, t4, c7]
theorem fault_ok : SpecOk Try.prog 92 sStar := specC_ok mixed G3_ok T3_ok fun s h => ⟨_, 1, eFault s h⟩
#print axioms fault_ok
end Go.Proofs.YtmhjmjodchbhlaaR.StarRate
end
section
set_option linter.unusedVariables false
set_option linter.unusedSimpArgs false
set_option maxRecDepth 100000
namespace Go.Proofs.YtmhjmjodchbhlaaR.ThingsRate
open Go.Ev Go.Ari Go.Proofs.YtmhjmjodchbhlaaR.FxRate Go.Proofs.YtmhjmjodchbhlaaR.PullPull Go.Proofs.YtmhjmjodchbhlaaR.TypesRate Go.Proofs.YtmhjmjodchbhlaaR.FaultRate
open Go.Proofs.YtmhjmjodchbhlaaR.PathPath (Bod bD cBod)
attribute [local go_sem] Ev.putR_s Ev.putR_0 Ev.thenO_s Ev.thenO_0 Ev.seqR_n Ev.seqR_e Ev.seqR_r Ev.seqR_0 Ev.blkR_e Ev.blkR_n Ev.blkR_r Ev.blkR_0 Ev.normR_s Ev.normR_0 Ev.outR_r Ev.outR_n Ev.outR_0 Ev.retS_s Ev.retS_0 Ev.pureO_s Ev.pureO_0 Ev.topR_0 Ev.topR_t Ev.topR_t0 Ev.oneL_0 Ev.oneL_s Ev.topR_d Ev.topR_nils Ev.topR_agg Ev.topR_rs Ev.evOp_move Ev.evOp_assign Ev.evOp_pick Ev.evOp_alloc Ev.evOp_box Ev.evOp_build Ev.evOp_buildSlice Ev.evOp_load Ev.evOp_store Ev.evOp_makeMap Ev.evOp_lookup Ev.evOp_mapUpdate Ev.evOp_insert Ev.evOp_nilCheck Ev.evOp_binOp Ev.evOp_unOp Ev.evOp_convert Ev.evOp_makeFunc Ev.evOp_makeSlice Ev.evOp_slice Ev.evOp_fieldAddr Ev.evOp_field Ev.evOp_indexAddr Ev.evOp_index Ev.evOp_extract Ev.evOp_call Ev.evOp_append Ev.evOp_len Ev.evOp_min Ev.evOp_max Ev.condR_b Ev.condR_t Ev.evOps_nil Ev.evOps_plain Ev.evOps_guard Ev.runG_eq Ev.skipG_eq Ev.condL_tt Ev.condL_ff Ev.condL_tf Ev.condL_ft Ev.condL_u Ev.condC_t Ev.condC_f Ev.evC_skip Ev.evC_ret Ev.evC_exit Ev.evC_label Ev.evC_region Ev.evC_draw Ev.evC_seq Ev.evC_cond Ev.evC_block Ev.evC_loop Ev.fin_d Ev.fin_nils Ev.fin_agg_ Ev.fin_rs Ev.finS_s Ev.mapO_fin Ev.upd_upd Ev.argv_d Ev.argv_nils Ev.argv_agg Ev.argv_rs Ev.argv_p Ev.appendTo_nils Ev.appendTo_rs Ev.consV_d Ev.consV_agg Ev.consV_p Ev.consV_rs Ev.consV_nils Ev.consV_fn Ev.consV_und Ev.consV_jk Ev.consV_grown Ev.topR_grown Ev.len_grown Ev.consV_mp Ev.sameK_i Ev.sameK_s Ev.mget_0 Ev.mget_hit Ev.mget_miss Ev.mput_0 Ev.mput_hit Ev.mput_miss Ev.apartAll Ev.apartL Ev.apartV Ev.freeAll Ev.sel Ev.keyOfV Ev.evLookup Ev.evPut Ev.hintOk Ev.keyOk Ev.consP Ev.lookV Ev.guardV Ev.dstAt Ev.evPure Ev.evStore Ev.evPureB Ev.evBin Ev.evBinO Ev.evNil Ev.isNilC Ev.evUn Ev.evConv Ev.evSlice Ev.optI Ev.lenV Ev.elemT Ev.foldI Ev.capsOk Ev.noTup Ev.nth Ev.setN Ev.pad Ev.V.get Ev.V.put Ev.putD Ev.hasT Ev.newBlk Ev.upd Ev.keq Ev.empty Ev.evCall Ev.V.args Ev.argP Ev.callOf Ev.evNilP Ev.isNilP Ev.look Ev.V.view.views Ev.V.view Ev.V.toD Ev.V.toD.V.toDs Ev.V.pure.pures Ev.V.pure Ev.D.flat.flats Ev.D.flat Ev.mkAgg Ev.allD Ev.aggParts Ev.setParts Ev.setElems Ev.getPath Ev.setPath Ev.subL Ev.eqD Ev.eqD.eqDs Ev.and2 Ev.strCut Ev.evalT Ev.constT Ev.evArgs Ev.mask Ev.maskOf Ev.tableOf Ev.compT Ev.resV Ev.retV Ev.mapO Ev.elemsOf Int.cast_ofNat_Int IntWalk.i64_in IntWalk.u64_in IntWalk.u8_in beq_self_eq_true Bool.true_beq Bool.false_beq Bool.and_true Bool.true_and Bool.false_and Bool.and_false Bool.and_self Bool.not_true Bool.not_false Bool.not_eq_true cond_true cond_false if_true if_false and_true true_and and_self decide_true decide_false Bool.or_true Bool.true_or Bool.or_false Bool.false_or List.isEmpty List.isEmpty_nil List.size_toArray List.map List.length_map List.length_cons List.length_nil Option.map Option.bind Option.getD Option.isSome List.replicate Bool.false_eq_true implies_true forall_const Array.toList Array.isEmpty List.append List.nil_append List.cons_append List.drop_zero List.take_length List.take_succ_cons List.take_zero List.take_nil List.getElem?_map List.getElem?_cons_zero List.getElem?_cons_succ List.getElem?_nil List.append_nil
attribute [local go_sem] FxRate.tk2 FxRate.ik2 FxRate.ek2 FxRate.zv2 FxRate.tk3 FxRate.ik3 FxRate.ek3 FxRate.zv3 FxRate.by3 FxRate.so3 FxRate.tk4 FxRate.ub4 FxRate.zv4 FxRate.tk23 FxRate.ct23 FxRate.ek23 FxRate.zv23 FxRate.tk27 FxRate.ik27 FxRate.zv27 FxRate.tk37 FxRate.ik37 FxRate.zv37 FxRate.by37 FxRate.so37 FxRate.tk39 FxRate.ct39 FxRate.zv39 FxRate.by39 FxRate.so39 FxRate.tk43 FxRate.zv43 FxRate.tk44 FxRate.zv44 FxRate.tk45 FxRate.zv45 FxRate.tk47 FxRate.ct47 FxRate.zv47 FxRate.tk48 FxRate.ik48 FxRate.zv48 FxRate.by48 FxRate.so48 FxRate.tk74 FxRate.zv74 FxRate.tk76 FxRate.ct76 FxRate.zv76 FxRate.by76 FxRate.so76 FxRate.tk77 FxRate.zv77 FxRate.tk79 FxRate.ct79 FxRate.zv79 FxRate.by79 FxRate.so79 FxRate.tk108 FxRate.zv108 FxRate.tk110 FxRate.ek110 FxRate.zv110 FxRate.tk111 FxRate.ek111 FxRate.zv111 FxRate.tk112 FxRate.zv112 FxRate.tk114 FxRate.ct114 FxRate.zv114 FxRate.by114 FxRate.so114 FxRate.tk136 FxRate.mt136 FxRate.sm136 FxRate.zw4 FxRate.zv136 FxRate.tk141 FxRate.zv141 FxRate.tk145 FxRate.zv145 FxRate.tk161 FxRate.ct161 FxRate.zv161 FxRate.tk182 FxRate.zv182 FxRate.mk7_1000000 FxRate.mk24_0 FxRate.mk24_2 FxRate.mk24_4 FxRate.mk24_1000001 FxRate.mk24_1000002 FxRate.mk24_1000003 FxRate.mk24_1000004 FxRate.mk24_1000005 FxRate.mk24_1000006 FxRate.mk24_1000000 FxRate.dw25_19 FxRate.nc25_19 FxRate.mk25_0 FxRate.mk25_2 FxRate.mk25_1000001 FxRate.mk25_1000002 FxRate.mk25_1000003 FxRate.mk25_1000004 FxRate.mk25_1000000 FxRate.mk40_0 FxRate.mk40_2 FxRate.mk40_4 FxRate.mk40_1000001 FxRate.mk40_1000002 FxRate.mk40_1000003 FxRate.mk40_1000004 FxRate.mk40_1000005 FxRate.mk40_1000006 FxRate.mk40_1000007 FxRate.mk40_1000000 FxRate.mk41_0 FxRate.mk41_1000001 FxRate.mk41_1000002 FxRate.mk41_1000003 FxRate.mk41_1000004 FxRate.mk41_1000000 FxRate.mk66_1000000 FxRate.dw67_9 FxRate.nc67_9 FxRate.mk67_1000000 FxRate.dw68_5 FxRate.nc68_5 FxRate.dw68_10 FxRate.nc68_10 FxRate.dw68_15 FxRate.nc68_15 FxRate.mk68_0 FxRate.mk68_2 FxRate.mk68_4 FxRate.mk68_1000001 FxRate.mk68_1000002 FxRate.mk68_1000003 FxRate.mk68_1000004 FxRate.mk68_1000005 FxRate.mk68_1000006 FxRate.mk68_1000000 FxRate.mk87_1000001 FxRate.mk87_1000000 FxRate.mk88_1000001 FxRate.mk88_1000000 FxRate.mk89_0 FxRate.mk89_1000001 FxRate.mk89_1000002 FxRate.mk89_1000000 FxRate.mk90_1000000 FxRate.mk91_1000000 FxRate.dw92_10 FxRate.nc92_10 FxRate.mk92_0 FxRate.mk92_2 FxRate.mk92_1000001 FxRate.mk92_1000002 FxRate.mk92_1000003 FxRate.mk92_1000004 FxRate.mk92_1000000 FxRate.mk93_1000001 FxRate.mk93_1000000 FxRate.mk94_1000000 FxRate.mk95_1000000 FxRate.mk128_1000000 FxRate.mk129_0 FxRate.mk129_1000001 FxRate.mk129_1000002 FxRate.mk129_1000000 FxRate.mk130_1000000 FxRate.mk131_0 FxRate.mk131_1000001 FxRate.mk131_1000002 FxRate.mk131_1000000 FxRate.mk150_0 FxRate.mk150_1000001 FxRate.mk150_1000002 FxRate.mk150_1000000
def thD : Thing → D
  | .st s => .agg 114 [.int .i64 s.id, .int .i64 s.rate, .ptr s.D, .np, .np]
  | .ga g => .agg 114 [.int .i64 g.id, .int .i64 g.rate, .np, .ptr g.D, .np]
  | .bo b => .agg 114 [.int .i64 b.1, .int .i64 b.2.2.2, .np, .np, .ptr (bD b)]
def small (s : Sky) : Prop := s.stars.length ≤ 1048576 ∧ s.gals.length ≤ 1048576 ∧ s.bods.length ≤ 1048576
noncomputable def sThings : Ev.Spec := specC (cOne cSky) small fun s => [.sl 114 ((things s).map thD)]
noncomputable def T : Table := tableOf [(68, en68)]
theorem T_ok : TableOk Try.prog (([] : Specs).map (·.1)) T := (table_cons Try.func68 (by kernel_rfl) (by kernel_rfl) table_nil)
def pre (s : Sky) (n : Nat) : List V := ((things s).take n).map fun o => .d (thD o)
theorem pre_len {s : Sky} {n : Nat} (h : n ≤ (things s).length) : (pre s n).length = n := by unfold pre; rw [List.length_map, List.length_take]; omega
theorem pre_step {s : Sky} {n : Nat} {o : Thing} (h : (things s)[n]? = some o) : pre s n ++ [.d (thD o)] = pre s (n + 1) := by
  unfold pre
  rw [List.take_add_one, h]; simp
theorem th_st {s : Sky} {i : Nat} (h : i < s.stars.length) : (things s)[i]? = some (.st s.stars[i]) := by
  unfold things
  rw [List.getElem?_append_left (by simp; omega)]; simp [h]
theorem th_ga {s : Sky} {i : Nat} (h : i < s.gals.length) : (things s)[s.stars.length + i]? = some (.ga s.gals[i]) := by
  unfold things
  rw [List.getElem?_append_right (by simp), List.getElem?_append_left (by simp; omega)]; simp [h]
theorem th_bo {s : Sky} {i : Nat} (h : i < s.bods.length) : (things s)[s.stars.length + s.gals.length + i]? = some (.bo s.bods[i]) := by
  unfold things
  rw [List.getElem?_append_right (by simp; omega), List.getElem?_append_right (by simp; omega)]
  simp only [List.length_map]
  rw [show s.stars.length + s.gals.length + i - s.stars.length - s.gals.length = i by omega]; simp [h]
def box (s : Sky) : Blk := ⟨1, 47, [.d s.D], true⟩
def p1 : V := .p (0, 1) 1 0 []
/-! ### the stars -/
def J0 (s : Sky) (x : Nat × Store) : Prop := x.1 ≤ s.stars.length ∧ x.2 (0, 1) = box s ∧ GrownB (x.2 (0, 29)) 114 (pre s x.1) ∧ (x.2 (0, 50)).ver = 0 ∧ (x.2 (0, 71)).ver = 0
def h0 (s : Sky) (i : Nat) : List V := hd68_0 p1 (grown 114 (0, 29) i) (.d (.sl 79 (s.stars.map Star.D))) (.d (.int .i64 s.stars.length)) (.d (.int .i64 i))
def Q0 (s : Sky) (x : Nat × Store) (o : Out) : Prop := ∃ st', o = some (.exit 0, hx68_0 p1 (grown 114 (0, 29) s.stars.length), st') ∧ J0 s (s.stars.length, st')
theorem loop0 (L : Nat) (call : Caller) (s : Sky) (hs : small s) :
    ∀ (m : Nat) (x : Nat × Store) (env : List V), J0 s x → s.stars.length - x.1 < m → mask (maskOf en68.ms 0) env = h0 s x.1 →
      Q0 s x (iter (evC Try.prog [] call L en68.ms 0 0 lb68_0) (maskOf en68.ms 0) m env x.2) := by
  refine iter_rel _ _ (J0 s) (fun x => h0 s x.1) (fun x => x.2) (Q0 s) (fun x => s.stars.length - x.1) ?_
  rintro ⟨i, st⟩ ⟨hi, q1, qg, q50, q71⟩ k hk
  obtain ⟨hs1, hs2, hs3⟩ := hs
  simp only at hi q1 qg q50 q71
  have hlen := things_len s
  by_cases hin : i < s.stars.length
  case neg =>
    obtain rfl : i = s.stars.length := by omega
    have hlt : ¬ (s.stars.length : Int) < s.stars.length := by omega
    refine ⟨st, ?_, hi, q1, qg, q50, q71⟩
    simp only [lb68_0, loopN, loops, h0, p1, hd68_0, hx68_0, Try.f68, go_sem, Nat.reduceAdd, Nat.reduceSub, Nat.reduceMul, Nat.reduceEqDiff, Nat.reduceBEq, Nat.reduceLT, Nat.reduceLeDiff, Nat.reducePow, Int.reduceToNat, Int.reduceLT, Int.reduceLE, Int.reduceGT, Int.reduceGE, Int.reduceEq, Int.reduceNeg, Int.reduceAdd, Int.reduceSub, ↓reduceIte, reduceCtorEq, hlt]
  have hlt : (i : Int) < s.stars.length := by omega
  have hx : s.stars[i]? = some s.stars[i] := by simp [hin]
  have g0 : (0 : Int) ≤ (i : Int) := by omega
  have ht : ((i : Int)).toNat = i := by omega
  have hw : IntKind.i64.wrap ((i : Int) + 1) = ((i + 1 : Nat) : Int) := by rw [IntWalk.i64_in _ (by omega)]; rfl
  have hm1 : 1 ≤ maxRow := by unfold maxRow; omega
  have hstp := pre_step (th_st hin)
  simp only [thD, Star.D] at hstp
  have ha := fun st' => appendTo_g (P := Try.prog) (lv := 0) (d := 29) (e := 114) (vs := pre s i) (new := [.d (thD (.st s.stars[i]))]) (n := i) (pre_len (by omega)) rfl (by unfold maxRow; omega) (by simp only [go_sem, Nat.reduceAdd, Nat.reduceSub, Nat.reduceMul, Nat.reduceEqDiff, Nat.reduceBEq, Nat.reduceLT, Nat.reduceLeDiff, Nat.reducePow, Int.reduceToNat, Int.reduceLT, Int.reduceLE, Int.reduceGT, Int.reduceGE, Int.reduceEq, Int.reduceNeg, Int.reduceAdd, Int.reduceSub, ↓reduceIte, reduceCtorEq]; unfold maxRow; omega) st'
  simp only [thD, Star.D, hstp] at ha
  have hstep := fun st1 env h1 h2 h3 => (hk (i + 1, st1) env h1 h2 h3 : Q0 s (i + 1, st1) _)
  simp only [lb68_0, loopN, loops, h0, p1, hd68_0, Try.f68, go_sem, Nat.reduceAdd, Nat.reduceSub, Nat.reduceMul, Nat.reduceEqDiff, Nat.reduceBEq, Nat.reduceLT, Nat.reduceLeDiff, Nat.reducePow, Int.reduceToNat, Int.reduceLT, Int.reduceLE, Int.reduceGT, Int.reduceGE, Int.reduceEq, Int.reduceNeg, Int.reduceAdd, Int.reduceSub, ↓reduceIte, reduceCtorEq, hlt, q1, box, Sky.D, Star.D, hx, g0, ht, hm1, ha, qg, hw]
  exact hstep _ _ ⟨by simp only; omega, by simp only [go_sem, Nat.reduceAdd, Nat.reduceSub, Nat.reduceMul, Nat.reduceEqDiff, Nat.reduceBEq, Nat.reduceLT, Nat.reduceLeDiff, Nat.reducePow, Int.reduceToNat, Int.reduceLT, Int.reduceLE, Int.reduceGT, Int.reduceGE, Int.reduceEq, Int.reduceNeg, Int.reduceAdd, Int.reduceSub, ↓reduceIte, reduceCtorEq, q1, box], by simp only [go_sem, Nat.reduceAdd, Nat.reduceSub, Nat.reduceMul, Nat.reduceEqDiff, Nat.reduceBEq, Nat.reduceLT, Nat.reduceLeDiff, Nat.reducePow, Int.reduceToNat, Int.reduceLT, Int.reduceLE, Int.reduceGT, Int.reduceGE, Int.reduceEq, Int.reduceNeg, Int.reduceAdd, Int.reduceSub, ↓reduceIte, reduceCtorEq]; exact GrownB_put _ _ _ (pre_len (by omega)), by simp only [go_sem, Nat.reduceAdd, Nat.reduceSub, Nat.reduceMul, Nat.reduceEqDiff, Nat.reduceBEq, Nat.reduceLT, Nat.reduceLeDiff, Nat.reducePow, Int.reduceToNat, Int.reduceLT, Int.reduceLE, Int.reduceGT, Int.reduceGE, Int.reduceEq, Int.reduceNeg, Int.reduceAdd, Int.reduceSub, ↓reduceIte, reduceCtorEq, q50], by simp only [go_sem, Nat.reduceAdd, Nat.reduceSub, Nat.reduceMul, Nat.reduceEqDiff, Nat.reduceBEq, Nat.reduceLT, Nat.reduceLeDiff, Nat.reducePow, Int.reduceToNat, Int.reduceLT, Int.reduceLE, Int.reduceGT, Int.reduceGE, Int.reduceEq, Int.reduceNeg, Int.reduceAdd, Int.reduceSub, ↓reduceIte, reduceCtorEq, q71]⟩ (by simp only; omega) (by simp only [h0, p1, hd68_0, Star.D, go_sem, Nat.reduceAdd, Nat.reduceSub, Nat.reduceMul, Nat.reduceEqDiff, Nat.reduceBEq, Nat.reduceLT, Nat.reduceLeDiff, Nat.reducePow, Int.reduceToNat, Int.reduceLT, Int.reduceLE, Int.reduceGT, Int.reduceGE, Int.reduceEq, Int.reduceNeg, Int.reduceAdd, Int.reduceSub, ↓reduceIte, reduceCtorEq, hw])
/-! ### the gals -/
def J1 (s : Sky) (k : Key) (x : Nat × Store) : Prop := x.1 ≤ s.gals.length ∧ x.2 (0, 1) = box s ∧ GrownB (x.2 k) 114 (pre s (s.stars.length + x.1)) ∧ (x.2 (0, 71)).ver = 0
def h1 (s : Sky) (k : Key) (i : Nat) : List V := hd68_2 p1 (grown 114 k (s.stars.length + i)) (.d (.sl 76 (s.gals.map Gal.D))) (.d (.int .i64 s.gals.length)) (.d (.int .i64 i))
def Q1 (s : Sky) (k : Key) (x : Nat × Store) (o : Out) : Prop := ∃ st', o = some (.exit 2, hx68_2 p1 (grown 114 k (s.stars.length + s.gals.length)), st') ∧ J1 s k (s.gals.length, st')
theorem loop1 (L : Nat) (call : Caller) (s : Sky) (hs : small s) (k : Key) (hk : k = (0, 29) ∨ k = (0, 50)) (hk0 : s.stars.length = 0 → k = (0, 50)) :
    ∀ (m : Nat) (x : Nat × Store) (env : List V), J1 s k x → s.gals.length - x.1 < m → mask (maskOf en68.ms 2) env = h1 s k x.1 →
      Q1 s k x (iter (evC Try.prog [] call L en68.ms 0 2 lb68_2) (maskOf en68.ms 2) m env x.2) := by
  refine iter_rel _ _ (J1 s k) (fun x => h1 s k x.1) (fun x => x.2) (Q1 s k) (fun x => s.gals.length - x.1) ?_
  rintro ⟨i, st⟩ ⟨hi, q1, qg, q71⟩ kk hkk
  obtain ⟨hs1, hs2, hs3⟩ := hs
  simp only at hi q1 qg q71
  have hlen := things_len s
  by_cases hin : i < s.gals.length
  case neg =>
    obtain rfl : i = s.gals.length := by omega
    have hlt : ¬ (s.gals.length : Int) < s.gals.length := by omega
    refine ⟨st, ?_, hi, q1, qg, q71⟩
    simp only [lb68_2, loopN, loops, h1, p1, hd68_2, hx68_2, Try.f68, go_sem, Nat.reduceAdd, Nat.reduceSub, Nat.reduceMul, Nat.reduceEqDiff, Nat.reduceBEq, Nat.reduceLT, Nat.reduceLeDiff, Nat.reducePow, Int.reduceToNat, Int.reduceLT, Int.reduceLE, Int.reduceGT, Int.reduceGE, Int.reduceEq, Int.reduceNeg, Int.reduceAdd, Int.reduceSub, ↓reduceIte, reduceCtorEq, hlt]
  have hlt : (i : Int) < s.gals.length := by omega
  have hx : s.gals[i]? = some s.gals[i] := by simp [hin]
  have g0 : (0 : Int) ≤ (i : Int) := by omega
  have ht : ((i : Int)).toNat = i := by omega
  have hw : IntKind.i64.wrap ((i : Int) + 1) = ((i + 1 : Nat) : Int) := by rw [IntWalk.i64_in _ (by omega)]; rfl
  have hm1 : 1 ≤ maxRow := by unfold maxRow; omega
  have hstp : pre s (s.stars.length + i) ++ [.d (thD (.ga s.gals[i]))] = pre s (s.stars.length + (i + 1)) := pre_step (th_ga hin)
  have ha : ∀ st' : Store, GrownB (st' k) 114 (pre s (s.stars.length + i)) → appendTo Try.prog 0 50 st' 114 (grown 114 k (s.stars.length + i)) [.d (thD (.ga s.gals[i]))] = some (grown 114 k (s.stars.length + (i + 1)), upd st' k ⟨s.stars.length + (i + 1), 114, pre s (s.stars.length + i) ++ [.d (thD (.ga s.gals[i]))], true⟩) := fun st' hg =>
    appendTo_k (pre_len (by omega)) (fun h => hk0 (by omega)) rfl (by unfold maxRow; omega) (by simp only [go_sem, Nat.reduceAdd, Nat.reduceSub, Nat.reduceMul, Nat.reduceEqDiff, Nat.reduceBEq, Nat.reduceLT, Nat.reduceLeDiff, Nat.reducePow, Int.reduceToNat, Int.reduceLT, Int.reduceLE, Int.reduceGT, Int.reduceGE, Int.reduceEq, Int.reduceNeg, Int.reduceAdd, Int.reduceSub, ↓reduceIte, reduceCtorEq]; unfold maxRow; omega) st' hg
  simp only [hstp] at ha
  simp only [thD, Gal.D] at ha
  have hgl : GrownB ⟨s.stars.length + (i + 1), 114, pre s (s.stars.length + (i + 1)), true⟩ 114 (pre s (s.stars.length + (i + 1))) := GrownB_put _ _ _ (pre_len (by omega))
  have hstep := fun st1 env h1 h2 h3 => (hkk (i + 1, st1) env h1 h2 h3 : Q1 s k (i + 1, st1) _)
  rcases hk with rfl | rfl
  all_goals
    simp only [lb68_2, loopN, loops, h1, p1, hd68_2, Try.f68, go_sem, Nat.reduceAdd, Nat.reduceSub, Nat.reduceMul, Nat.reduceEqDiff, Nat.reduceBEq, Nat.reduceLT, Nat.reduceLeDiff, Nat.reducePow, Int.reduceToNat, Int.reduceLT, Int.reduceLE, Int.reduceGT, Int.reduceGE, Int.reduceEq, Int.reduceNeg, Int.reduceAdd, Int.reduceSub, ↓reduceIte, reduceCtorEq, hlt, q1, box, Sky.D, Gal.D, hx, g0, ht, hm1, ha, qg, hw]
    exact hstep _ _ ⟨by simp only; omega, by simp only [go_sem, Nat.reduceAdd, Nat.reduceSub, Nat.reduceMul, Nat.reduceEqDiff, Nat.reduceBEq, Nat.reduceLT, Nat.reduceLeDiff, Nat.reducePow, Int.reduceToNat, Int.reduceLT, Int.reduceLE, Int.reduceGT, Int.reduceGE, Int.reduceEq, Int.reduceNeg, Int.reduceAdd, Int.reduceSub, ↓reduceIte, reduceCtorEq, q1, box], by simp only [go_sem, Nat.reduceAdd, Nat.reduceSub, Nat.reduceMul, Nat.reduceEqDiff, Nat.reduceBEq, Nat.reduceLT, Nat.reduceLeDiff, Nat.reducePow, Int.reduceToNat, Int.reduceLT, Int.reduceLE, Int.reduceGT, Int.reduceGE, Int.reduceEq, Int.reduceNeg, Int.reduceAdd, Int.reduceSub, ↓reduceIte, reduceCtorEq]; exact hgl, by simp only [go_sem, Nat.reduceAdd, Nat.reduceSub, Nat.reduceMul, Nat.reduceEqDiff, Nat.reduceBEq, Nat.reduceLT, Nat.reduceLeDiff, Nat.reducePow, Int.reduceToNat, Int.reduceLT, Int.reduceLE, Int.reduceGT, Int.reduceGE, Int.reduceEq, Int.reduceNeg, Int.reduceAdd, Int.reduceSub, ↓reduceIte, reduceCtorEq, q71]⟩ (by simp only; omega) (by simp only [h1, p1, hd68_2, Gal.D, go_sem, Nat.reduceAdd, Nat.reduceSub, Nat.reduceMul, Nat.reduceEqDiff, Nat.reduceBEq, Nat.reduceLT, Nat.reduceLeDiff, Nat.reducePow, Int.reduceToNat, Int.reduceLT, Int.reduceLE, Int.reduceGT, Int.reduceGE, Int.reduceEq, Int.reduceNeg, Int.reduceAdd, Int.reduceSub, ↓reduceIte, reduceCtorEq, hw])
/-! ### the bods -/
def J2 (s : Sky) (k : Key) (x : Nat × Store) : Prop := x.1 ≤ s.bods.length ∧ x.2 (0, 1) = box s ∧ GrownB (x.2 k) 114 (pre s (s.stars.length + s.gals.length + x.1))
def h2 (s : Sky) (k : Key) (i : Nat) : List V := hd68_4 p1 (grown 114 k (s.stars.length + s.gals.length + i)) (.d (.sl 39 (s.bods.map bD))) (.d (.int .i64 s.bods.length)) (.d (.int .i64 i))
def Q2 (s : Sky) (k : Key) (x : Nat × Store) (o : Out) : Prop := ∃ st', o = some (.exit 4, hx68_4 (grown 114 k (s.stars.length + s.gals.length + s.bods.length)), st') ∧ J2 s k (s.bods.length, st')
theorem loop2 (L : Nat) (call : Caller) (s : Sky) (hs : small s) (k : Key) (hk : k = (0, 29) ∨ k = (0, 50) ∨ k = (0, 71)) (hk0 : s.stars.length + s.gals.length = 0 → k = (0, 71)) :
    ∀ (m : Nat) (x : Nat × Store) (env : List V), J2 s k x → s.bods.length - x.1 < m → mask (maskOf en68.ms 4) env = h2 s k x.1 →
      Q2 s k x (iter (evC Try.prog [] call L en68.ms 0 4 lb68_4) (maskOf en68.ms 4) m env x.2) := by
  refine iter_rel _ _ (J2 s k) (fun x => h2 s k x.1) (fun x => x.2) (Q2 s k) (fun x => s.bods.length - x.1) ?_
  rintro ⟨i, st⟩ ⟨hi, q1, qg⟩ kk hkk
  obtain ⟨hs1, hs2, hs3⟩ := hs
  simp only at hi q1 qg
  have hlen := things_len s
  by_cases hin : i < s.bods.length
  case neg =>
    obtain rfl : i = s.bods.length := by omega
    have hlt : ¬ (s.bods.length : Int) < s.bods.length := by omega
    refine ⟨st, ?_, hi, q1, qg⟩
    simp only [lb68_4, loopN, loops, h2, p1, hd68_4, hx68_4, Try.f68, go_sem, Nat.reduceAdd, Nat.reduceSub, Nat.reduceMul, Nat.reduceEqDiff, Nat.reduceBEq, Nat.reduceLT, Nat.reduceLeDiff, Nat.reducePow, Int.reduceToNat, Int.reduceLT, Int.reduceLE, Int.reduceGT, Int.reduceGE, Int.reduceEq, Int.reduceNeg, Int.reduceAdd, Int.reduceSub, ↓reduceIte, reduceCtorEq, hlt]
  have hlt : (i : Int) < s.bods.length := by omega
  have hx : s.bods[i]? = some s.bods[i] := by simp [hin]
  have g0 : (0 : Int) ≤ (i : Int) := by omega
  have ht : ((i : Int)).toNat = i := by omega
  have hw : IntKind.i64.wrap ((i : Int) + 1) = ((i + 1 : Nat) : Int) := by rw [IntWalk.i64_in _ (by omega)]; rfl
  have hm1 : 1 ≤ maxRow := by unfold maxRow; omega
  have hstp : pre s (s.stars.length + s.gals.length + i) ++ [.d (thD (.bo s.bods[i]))] = pre s (s.stars.length + s.gals.length + (i + 1)) := pre_step (th_bo hin)
  have ha : ∀ st' : Store, GrownB (st' k) 114 (pre s (s.stars.length + s.gals.length + i)) → appendTo Try.prog 0 71 st' 114 (grown 114 k (s.stars.length + s.gals.length + i)) [.d (thD (.bo s.bods[i]))] = some (grown 114 k (s.stars.length + s.gals.length + (i + 1)), upd st' k ⟨s.stars.length + s.gals.length + (i + 1), 114, pre s (s.stars.length + s.gals.length + i) ++ [.d (thD (.bo s.bods[i]))], true⟩) := fun st' hg =>
    appendTo_k (pre_len (by omega)) (fun h => hk0 (by omega)) rfl (by unfold maxRow; omega) (by simp only [go_sem, Nat.reduceAdd, Nat.reduceSub, Nat.reduceMul, Nat.reduceEqDiff, Nat.reduceBEq, Nat.reduceLT, Nat.reduceLeDiff, Nat.reducePow, Int.reduceToNat, Int.reduceLT, Int.reduceLE, Int.reduceGT, Int.reduceGE, Int.reduceEq, Int.reduceNeg, Int.reduceAdd, Int.reduceSub, ↓reduceIte, reduceCtorEq]; unfold maxRow; omega) st' hg
  simp only [hstp] at ha
  simp only [thD, bD] at ha
  have hgl : GrownB ⟨s.stars.length + s.gals.length + (i + 1), 114, pre s (s.stars.length + s.gals.length + (i + 1)), true⟩ 114 (pre s (s.stars.length + s.gals.length + (i + 1))) := GrownB_put _ _ _ (pre_len (by omega))
  have hstep := fun st1 env h1 h2 h3 => (hkk (i + 1, st1) env h1 h2 h3 : Q2 s k (i + 1, st1) _)
  rcases hk with rfl | rfl | rfl
  all_goals
    simp only [lb68_4, loopN, loops, h2, p1, hd68_4, Try.f68, go_sem, Nat.reduceAdd, Nat.reduceSub, Nat.reduceMul, Nat.reduceEqDiff, Nat.reduceBEq, Nat.reduceLT, Nat.reduceLeDiff, Nat.reducePow, Int.reduceToNat, Int.reduceLT, Int.reduceLE, Int.reduceGT, Int.reduceGE, Int.reduceEq, Int.reduceNeg, Int.reduceAdd, Int.reduceSub, ↓reduceIte, reduceCtorEq, hlt, q1, box, Sky.D, bD, hx, g0, ht, hm1, ha, qg, hw]
    exact hstep _ _ ⟨by simp only; omega, by simp only [go_sem, Nat.reduceAdd, Nat.reduceSub, Nat.reduceMul, Nat.reduceEqDiff, Nat.reduceBEq, Nat.reduceLT, Nat.reduceLeDiff, Nat.reducePow, Int.reduceToNat, Int.reduceLT, Int.reduceLE, Int.reduceGT, Int.reduceGE, Int.reduceEq, Int.reduceNeg, Int.reduceAdd, Int.reduceSub, ↓reduceIte, reduceCtorEq, q1, box], by simp only [go_sem, Nat.reduceAdd, Nat.reduceSub, Nat.reduceMul, Nat.reduceEqDiff, Nat.reduceBEq, Nat.reduceLT, Nat.reduceLeDiff, Nat.reducePow, Int.reduceToNat, Int.reduceLT, Int.reduceLE, Int.reduceGT, Int.reduceGE, Int.reduceEq, Int.reduceNeg, Int.reduceAdd, Int.reduceSub, ↓reduceIte, reduceCtorEq]; exact hgl⟩ (by simp only; omega) (by simp only [h2, p1, hd68_4, bD, go_sem, Nat.reduceAdd, Nat.reduceSub, Nat.reduceMul, Nat.reduceEqDiff, Nat.reduceBEq, Nat.reduceLT, Nat.reduceLeDiff, Nat.reducePow, Int.reduceToNat, Int.reduceLT, Int.reduceLE, Int.reduceGT, Int.reduceGE, Int.reduceEq, Int.reduceNeg, Int.reduceAdd, Int.reduceSub, ↓reduceIte, reduceCtorEq, hw])
/-! ### all of them -/
theorem loop_then {R : Out → Prop} {o : Out} {P : Program} {rs : List ResultVar} {id : Nat} {k : Run} {res : Option (List D)} (hR : R o) (h : ∀ o, R o → topR (outR P rs (seqR (blkR id o) k)) = res) : topR (outR P rs (seqR (blkR id o) k)) = res := h o hR
theorem grown_0 (e : TypeId) (k k' : Key) : grown e k 0 = grown e k' 0 := rfl
theorem e (s : Sky) (hs : small s) : evTop Try.prog [] T (s.stars.length + s.gals.length + s.bods.length + 1) 1 68 [s.D] = some [.sl 114 ((things s).map thD)] := by
  have hlen := things_len s
  unfold evTop
  simp only [List.map]
  rw [evF_s (fn := Try.f68) (msk := en68.ms) (hT := by rfl) (hb := by rfl)]
  simp only [Try.f68, go_sem, Nat.reduceAdd, Nat.reduceSub, Nat.reduceMul, Nat.reduceEqDiff, Nat.reduceBEq, Nat.reduceLT, Nat.reduceLeDiff, Nat.reducePow, Int.reduceToNat, Int.reduceLT, Int.reduceLE, Int.reduceGT, Int.reduceGE, Int.reduceEq, Int.reduceNeg, Int.reduceAdd, Int.reduceSub, ↓reduceIte, reduceCtorEq, Sky.D]
  refine loop_then (R := Q0 s (0, _)) (loop0 _ _ s hs _ (0, _) _ ⟨by simp only; omega, by simp only [go_sem, Nat.reduceAdd, Nat.reduceSub, Nat.reduceMul, Nat.reduceEqDiff, Nat.reduceBEq, Nat.reduceLT, Nat.reduceLeDiff, Nat.reducePow, Int.reduceToNat, Int.reduceLT, Int.reduceLE, Int.reduceGT, Int.reduceGE, Int.reduceEq, Int.reduceNeg, Int.reduceAdd, Int.reduceSub, ↓reduceIte, reduceCtorEq, box, Sky.D], by simp only [go_sem, Nat.reduceAdd, Nat.reduceSub, Nat.reduceMul, Nat.reduceEqDiff, Nat.reduceBEq, Nat.reduceLT, Nat.reduceLeDiff, Nat.reducePow, Int.reduceToNat, Int.reduceLT, Int.reduceLE, Int.reduceGT, Int.reduceGE, Int.reduceEq, Int.reduceNeg, Int.reduceAdd, Int.reduceSub, ↓reduceIte, reduceCtorEq]; exact GrownB_0 _ rfl, by simp only [go_sem, Nat.reduceAdd, Nat.reduceSub, Nat.reduceMul, Nat.reduceEqDiff, Nat.reduceBEq, Nat.reduceLT, Nat.reduceLeDiff, Nat.reducePow, Int.reduceToNat, Int.reduceLT, Int.reduceLE, Int.reduceGT, Int.reduceGE, Int.reduceEq, Int.reduceNeg, Int.reduceAdd, Int.reduceSub, ↓reduceIte, reduceCtorEq, empty], by simp only [go_sem, Nat.reduceAdd, Nat.reduceSub, Nat.reduceMul, Nat.reduceEqDiff, Nat.reduceBEq, Nat.reduceLT, Nat.reduceLeDiff, Nat.reducePow, Int.reduceToNat, Int.reduceLT, Int.reduceLE, Int.reduceGT, Int.reduceGE, Int.reduceEq, Int.reduceNeg, Int.reduceAdd, Int.reduceSub, ↓reduceIte, reduceCtorEq, empty]⟩ (by simp only; omega) (by simp only [h0, p1, hd68_0, grown, go_sem, Nat.reduceAdd, Nat.reduceSub, Nat.reduceMul, Nat.reduceEqDiff, Nat.reduceBEq, Nat.reduceLT, Nat.reduceLeDiff, Nat.reducePow, Int.reduceToNat, Int.reduceLT, Int.reduceLE, Int.reduceGT, Int.reduceGE, Int.reduceEq, Int.reduceNeg, Int.reduceAdd, Int.reduceSub, ↓reduceIte, reduceCtorEq])) ?_
  rintro o ⟨st1, rfl, _, q1, qg, q50, q71⟩
  simp only at q1 qg q50 q71
  obtain ⟨k, hk, hk0, hgr, qk⟩ : ∃ k : Key, (k = (0, 29) ∨ k = (0, 50)) ∧ (s.stars.length = 0 → k = (0, 50)) ∧ grown 114 (0, 29) s.stars.length = grown 114 k s.stars.length ∧ GrownB (st1 k) 114 (pre s s.stars.length) := by
    by_cases h : s.stars.length = 0
    · refine ⟨(0, 50), .inr rfl, fun _ => rfl, by rw [h]; rfl, ?_⟩
      have : pre s s.stars.length = [] := by rw [h]; rfl
      rw [this]; exact GrownB_0 _ q50
    · exact ⟨(0, 29), .inl rfl, fun q => absurd q h, rfl, qg⟩
  rw [hgr]
  simp only [hx68_0, p1, go_sem, Nat.reduceAdd, Nat.reduceSub, Nat.reduceMul, Nat.reduceEqDiff, Nat.reduceBEq, Nat.reduceLT, Nat.reduceLeDiff, Nat.reducePow, Int.reduceToNat, Int.reduceLT, Int.reduceLE, Int.reduceGT, Int.reduceGE, Int.reduceEq, Int.reduceNeg, Int.reduceAdd, Int.reduceSub, ↓reduceIte, reduceCtorEq, q1, box, Sky.D]
  refine loop_then (R := Q1 s k (0, _)) (loop1 _ _ s hs k hk hk0 _ (0, _) _ ⟨by simp only; omega, q1, qk, q71⟩ (by simp only; omega) (by simp only [h1, p1, hd68_2, Nat.add_zero, go_sem, Nat.reduceAdd, Nat.reduceSub, Nat.reduceMul, Nat.reduceEqDiff, Nat.reduceBEq, Nat.reduceLT, Nat.reduceLeDiff, Nat.reducePow, Int.reduceToNat, Int.reduceLT, Int.reduceLE, Int.reduceGT, Int.reduceGE, Int.reduceEq, Int.reduceNeg, Int.reduceAdd, Int.reduceSub, ↓reduceIte, reduceCtorEq])) ?_
  rintro o ⟨st2, rfl, _, q1, qg, q71⟩
  simp only at q1 qg q71
  obtain ⟨k', hk', hk0', hgr', qk'⟩ : ∃ k' : Key, (k' = (0, 29) ∨ k' = (0, 50) ∨ k' = (0, 71)) ∧ (s.stars.length + s.gals.length = 0 → k' = (0, 71)) ∧ grown 114 k (s.stars.length + s.gals.length) = grown 114 k' (s.stars.length + s.gals.length) ∧ GrownB (st2 k') 114 (pre s (s.stars.length + s.gals.length)) := by
    by_cases h : s.stars.length + s.gals.length = 0
    · refine ⟨(0, 71), .inr (.inr rfl), fun _ => rfl, by rw [h]; rfl, ?_⟩
      have : pre s (s.stars.length + s.gals.length) = [] := by rw [h]; rfl
      rw [this]; exact GrownB_0 _ q71
    · exact ⟨k, hk.elim .inl fun h => .inr (.inl h), fun q => absurd q h, rfl, qg⟩
  rw [hgr']
  simp only [hx68_2, p1, go_sem, Nat.reduceAdd, Nat.reduceSub, Nat.reduceMul, Nat.reduceEqDiff, Nat.reduceBEq, Nat.reduceLT, Nat.reduceLeDiff, Nat.reducePow, Int.reduceToNat, Int.reduceLT, Int.reduceLE, Int.reduceGT, Int.reduceGE, Int.reduceEq, Int.reduceNeg, Int.reduceAdd, Int.reduceSub, ↓reduceIte, reduceCtorEq, q1, box, Sky.D]
  refine loop_then (R := Q2 s k' (0, _)) (loop2 _ _ s hs k' hk' hk0' _ (0, _) _ ⟨by simp only; omega, q1, qk'⟩ (by simp only; omega) (by simp only [h2, p1, hd68_4, Nat.add_zero, go_sem, Nat.reduceAdd, Nat.reduceSub, Nat.reduceMul, Nat.reduceEqDiff, Nat.reduceBEq, Nat.reduceLT, Nat.reduceLeDiff, Nat.reducePow, Int.reduceToNat, Int.reduceLT, Int.reduceLE, Int.reduceGT, Int.reduceGE, Int.reduceEq, Int.reduceNeg, Int.reduceAdd, Int.reduceSub, ↓reduceIte, reduceCtorEq])) ?_
  rintro o ⟨st3, rfl, _, q1, qg⟩
  simp only at qg
  rw [← hlen] at qg ⊢
  have hN : pre s (things s).length = (things s).map fun o => V.d (thD o) := by unfold pre; rw [List.take_length]
  have hfin := fin_grown (st := st3) (k := k') (vs := pre s (things s).length) (n := (things s).length) (m := 8) (pre_len (Nat.le_refl _)) qg
  rw [hN, mapO_fin] at hfin
  simp only [hx68_4, go_sem, Nat.reduceAdd, Nat.reduceSub, Nat.reduceMul, Nat.reduceEqDiff, Nat.reduceBEq, Nat.reduceLT, Nat.reduceLeDiff, Nat.reducePow, Int.reduceToNat, Int.reduceLT, Int.reduceLE, Int.reduceGT, Int.reduceGE, Int.reduceEq, Int.reduceNeg, Int.reduceAdd, Int.reduceSub, ↓reduceIte, reduceCtorEq, hfin]
theorem things_ok : SpecOk Try.prog 68 sThings := specC_ok mixed specs_nil T_ok fun s h => ⟨_, 1, e s h⟩
#print axioms things_ok
end Go.Proofs.YtmhjmjodchbhlaaR.ThingsRate
end
