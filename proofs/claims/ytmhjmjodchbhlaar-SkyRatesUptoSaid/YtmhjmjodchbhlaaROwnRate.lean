/- What is wrong with a direction, and with a galaxy: sphere.Check, half, galaxy. -/
import Derived.Test.YtmhjmjodchbhlaaRFaultRate
import Derived.Test.YtmhjmjodchbhlaaRFxRate
set_option linter.unusedVariables false
set_option linter.unusedSimpArgs false
set_option maxRecDepth 100000
namespace Go.Proofs.YtmhjmjodchbhlaaR.OwnRate
open Go.Ev Go.Ari Go.Proofs.YtmhjmjodchbhlaaR.FxRate Go.Proofs.YtmhjmjodchbhlaaR.PullPull Go.Proofs.YtmhjmjodchbhlaaR.TypesRate Go.Proofs.YtmhjmjodchbhlaaR.FaultRate
attribute [local go_sem] Ev.putR_s Ev.putR_0 Ev.thenO_s Ev.thenO_0 Ev.seqR_n Ev.seqR_e Ev.seqR_r Ev.seqR_0 Ev.blkR_e Ev.blkR_n Ev.blkR_r Ev.blkR_0 Ev.normR_s Ev.normR_0 Ev.outR_r Ev.outR_n Ev.outR_0 Ev.retS_s Ev.retS_0 Ev.pureO_s Ev.pureO_0 Ev.topR_0 Ev.topR_t Ev.topR_t0 Ev.oneL_0 Ev.oneL_s Ev.topR_d Ev.topR_nils Ev.topR_agg Ev.topR_rs Ev.evOp_move Ev.evOp_assign Ev.evOp_pick Ev.evOp_alloc Ev.evOp_box Ev.evOp_build Ev.evOp_buildSlice Ev.evOp_load Ev.evOp_store Ev.evOp_makeMap Ev.evOp_lookup Ev.evOp_mapUpdate Ev.evOp_insert Ev.evOp_nilCheck Ev.evOp_binOp Ev.evOp_unOp Ev.evOp_convert Ev.evOp_makeFunc Ev.evOp_makeSlice Ev.evOp_slice Ev.evOp_fieldAddr Ev.evOp_field Ev.evOp_indexAddr Ev.evOp_index Ev.evOp_extract Ev.evOp_call Ev.evOp_append Ev.evOp_len Ev.evOp_min Ev.evOp_max Ev.condR_b Ev.condR_t Ev.evOps_nil Ev.evOps_plain Ev.evOps_guard Ev.runG_eq Ev.skipG_eq Ev.condL_tt Ev.condL_ff Ev.condL_tf Ev.condL_ft Ev.condL_u Ev.condC_t Ev.condC_f Ev.evC_skip Ev.evC_ret Ev.evC_exit Ev.evC_label Ev.evC_region Ev.evC_draw Ev.evC_seq Ev.evC_cond Ev.evC_block Ev.evC_loop Ev.fin_d Ev.fin_nils Ev.fin_agg_ Ev.fin_rs Ev.finS_s Ev.mapO_fin Ev.upd_upd Ev.argv_d Ev.argv_nils Ev.argv_agg Ev.argv_rs Ev.argv_p Ev.appendTo_nils Ev.appendTo_rs Ev.consV_d Ev.consV_agg Ev.consV_p Ev.consV_rs Ev.consV_nils Ev.consV_fn Ev.consV_und Ev.consV_jk Ev.consV_grown Ev.topR_grown Ev.len_grown Ev.consV_mp Ev.sameK_i Ev.sameK_s Ev.mget_0 Ev.mget_hit Ev.mget_miss Ev.mput_0 Ev.mput_hit Ev.mput_miss Ev.apartAll Ev.apartL Ev.apartV Ev.freeAll Ev.sel Ev.keyOfV Ev.evLookup Ev.evPut Ev.hintOk Ev.keyOk Ev.consP Ev.lookV Ev.guardV Ev.dstAt Ev.evPure Ev.evStore Ev.evPureB Ev.evBin Ev.evBinO Ev.evNil Ev.isNilC Ev.evUn Ev.evConv Ev.evSlice Ev.optI Ev.lenV Ev.elemT Ev.foldI Ev.capsOk Ev.noTup Ev.nth Ev.setN Ev.pad Ev.V.get Ev.V.put Ev.putD Ev.hasT Ev.newBlk Ev.upd Ev.keq Ev.empty Ev.evCall Ev.V.args Ev.argP Ev.callOf Ev.evNilP Ev.isNilP Ev.look Ev.V.view.views Ev.V.view Ev.V.toD Ev.V.toD.V.toDs Ev.V.pure.pures Ev.V.pure Ev.D.flat.flats Ev.D.flat Ev.mkAgg Ev.allD Ev.aggParts Ev.setParts Ev.setElems Ev.getPath Ev.setPath Ev.subL Ev.eqD Ev.eqD.eqDs Ev.and2 Ev.strCut Ev.evalT Ev.constT Ev.evArgs Ev.mask Ev.maskOf Ev.tableOf Ev.compT Ev.resV Ev.retV Ev.mapO Ev.elemsOf Int.cast_ofNat_Int IntWalk.i64_in IntWalk.u64_in IntWalk.u8_in beq_self_eq_true Bool.true_beq Bool.false_beq Bool.and_true Bool.true_and Bool.false_and Bool.and_false Bool.and_self Bool.not_true Bool.not_false Bool.not_eq_true cond_true cond_false if_true if_false and_true true_and and_self decide_true decide_false Bool.or_true Bool.true_or Bool.or_false Bool.false_or List.isEmpty List.isEmpty_nil List.size_toArray List.map List.length_map List.length_cons List.length_nil Option.map Option.bind Option.getD Option.isSome List.replicate Bool.false_eq_true implies_true forall_const Array.toList Array.isEmpty List.append List.nil_append List.cons_append List.drop_zero List.take_length List.take_succ_cons List.take_zero List.take_nil List.getElem?_map List.getElem?_cons_zero List.getElem?_cons_succ List.getElem?_nil List.append_nil
attribute [local go_sem] FxRate.tk2 FxRate.ik2 FxRate.ek2 FxRate.zv2 FxRate.tk3 FxRate.ik3 FxRate.ek3 FxRate.zv3 FxRate.by3 FxRate.so3 FxRate.tk4 FxRate.ub4 FxRate.zv4 FxRate.tk23 FxRate.ct23 FxRate.ek23 FxRate.zv23 FxRate.tk27 FxRate.ik27 FxRate.zv27 FxRate.tk37 FxRate.ik37 FxRate.zv37 FxRate.by37 FxRate.so37 FxRate.tk39 FxRate.ct39 FxRate.zv39 FxRate.by39 FxRate.so39 FxRate.tk43 FxRate.zv43 FxRate.tk44 FxRate.zv44 FxRate.tk45 FxRate.zv45 FxRate.tk47 FxRate.ct47 FxRate.zv47 FxRate.tk48 FxRate.ik48 FxRate.zv48 FxRate.by48 FxRate.so48 FxRate.tk74 FxRate.zv74 FxRate.tk76 FxRate.ct76 FxRate.zv76 FxRate.by76 FxRate.so76 FxRate.tk77 FxRate.zv77 FxRate.tk79 FxRate.ct79 FxRate.zv79 FxRate.by79 FxRate.so79 FxRate.tk108 FxRate.zv108 FxRate.tk110 FxRate.ek110 FxRate.zv110 FxRate.tk111 FxRate.ek111 FxRate.zv111 FxRate.tk112 FxRate.zv112 FxRate.tk114 FxRate.ct114 FxRate.zv114 FxRate.by114 FxRate.so114 FxRate.tk136 FxRate.mt136 FxRate.sm136 FxRate.zw4 FxRate.zv136 FxRate.tk141 FxRate.zv141 FxRate.tk145 FxRate.zv145 FxRate.tk161 FxRate.ct161 FxRate.zv161 FxRate.tk182 FxRate.zv182 FxRate.mk7_1000000 FxRate.mk24_0 FxRate.mk24_2 FxRate.mk24_4 FxRate.mk24_1000001 FxRate.mk24_1000002 FxRate.mk24_1000003 FxRate.mk24_1000004 FxRate.mk24_1000005 FxRate.mk24_1000006 FxRate.mk24_1000000 FxRate.dw25_19 FxRate.nc25_19 FxRate.mk25_0 FxRate.mk25_2 FxRate.mk25_1000001 FxRate.mk25_1000002 FxRate.mk25_1000003 FxRate.mk25_1000004 FxRate.mk25_1000000 FxRate.mk40_0 FxRate.mk40_2 FxRate.mk40_4 FxRate.mk40_1000001 FxRate.mk40_1000002 FxRate.mk40_1000003 FxRate.mk40_1000004 FxRate.mk40_1000005 FxRate.mk40_1000006 FxRate.mk40_1000007 FxRate.mk40_1000000 FxRate.mk41_0 FxRate.mk41_1000001 FxRate.mk41_1000002 FxRate.mk41_1000003 FxRate.mk41_1000004 FxRate.mk41_1000000 FxRate.mk66_1000000 FxRate.dw67_9 FxRate.nc67_9 FxRate.mk67_1000000 FxRate.dw68_5 FxRate.nc68_5 FxRate.dw68_10 FxRate.nc68_10 FxRate.dw68_15 FxRate.nc68_15 FxRate.mk68_0 FxRate.mk68_2 FxRate.mk68_4 FxRate.mk68_1000001 FxRate.mk68_1000002 FxRate.mk68_1000003 FxRate.mk68_1000004 FxRate.mk68_1000005 FxRate.mk68_1000006 FxRate.mk68_1000000 FxRate.mk87_1000001 FxRate.mk87_1000000 FxRate.mk88_1000001 FxRate.mk88_1000000 FxRate.mk89_0 FxRate.mk89_1000001 FxRate.mk89_1000002 FxRate.mk89_1000000 FxRate.mk90_1000000 FxRate.mk91_1000000 FxRate.dw92_10 FxRate.nc92_10 FxRate.mk92_0 FxRate.mk92_2 FxRate.mk92_1000001 FxRate.mk92_1000002 FxRate.mk92_1000003 FxRate.mk92_1000004 FxRate.mk92_1000000 FxRate.mk93_1000001 FxRate.mk93_1000000 FxRate.mk94_1000000 FxRate.mk95_1000000 FxRate.mk128_1000000 FxRate.mk129_0 FxRate.mk129_1000001 FxRate.mk129_1000002 FxRate.mk129_1000000 FxRate.mk130_1000000 FxRate.mk131_0 FxRate.mk131_1000001 FxRate.mk131_1000002 FxRate.mk131_1000000 FxRate.mk150_0 FxRate.mk150_1000001 FxRate.mk150_1000002 FxRate.mk150_1000000
/-! ### sphere.Check -/
noncomputable def T1 : Table := tableOf [(93, en93)]
theorem T1_ok : TableOk Try.prog (([] : Specs).map (·.1)) T1 := (table_cons Try.func93 (by kernel_rfl) (by kernel_rfl) table_nil)
noncomputable def sChk : Ev.Spec := specC (cOne cV) (fun _ => True) fun v => [.int .i64 (chkV v)]
theorem sChk_run (x y z : Int) : sChk.run [.agg 23 [.int .i64 x, .int .i64 y, .int .i64 z]] = some [.int .i64 (chkV (x, y, z))] := specC_run (cOne cV) _ _ (x, y, z) trivial
theorem okV_of {m x y z : Int} (h1 : ¬ maxI (maxI x y) z > m) (h2 : ¬ minI (minI x y) z < -m) : okV m (x, y, z) = true := by
  unfold maxI at h1
  unfold minI at h2
  simp only [okV, inn, Bool.and_eq_true, decide_eq_true_eq]
  split at h1 <;> split at h1 <;> split at h2 <;> split at h2 <;> omega
theorem okV_f1 {m x y z : Int} (h1 : maxI (maxI x y) z > m) : okV m (x, y, z) = false := by
  cases h : okV m (x, y, z) with
  | false => rfl
  | true =>
    simp only [okV, inn, Bool.and_eq_true, decide_eq_true_eq] at h
    unfold maxI at h1
    split at h1 <;> split at h1 <;> omega
theorem okV_f2 {m x y z : Int} (h1 : minI (minI x y) z < -m) : okV m (x, y, z) = false := by
  cases h : okV m (x, y, z) with
  | false => rfl
  | true =>
    simp only [okV, inn, Bool.and_eq_true, decide_eq_true_eq] at h
    unfold minI at h1
    split at h1 <;> split at h1 <;> omega
theorem eChk (x y z : Int) : evTop Try.prog [] T1 0 1 93 [.agg 23 [.int .i64 x, .int .i64 y, .int .i64 z]] = some [.int .i64 (chkV (x, y, z))] := by
  unfold evTop
  simp only [List.map]
  rw [evF_s (fn := Try.f93) (msk := en93.ms) (hT := by rfl) (hb := by rfl)]
  unfold chkV
  by_cases a1 : maxI (maxI x y) z > 1048576
  · rw [if_neg (by simp [okV_f1 a1])]
    simp only [Try.f93, go_sem, Nat.reduceAdd, Nat.reduceSub, Nat.reduceMul, Nat.reduceEqDiff, Nat.reduceBEq, Nat.reduceLT, Nat.reduceLeDiff, Nat.reducePow, Int.reduceToNat, Int.reduceLT, Int.reduceLE, Int.reduceGT, Int.reduceGE, Int.reduceEq, Int.reduceNeg, Int.reduceAdd, Int.reduceSub, ↓reduceIte, reduceCtorEq, a1]
  by_cases a2 : minI (minI x y) z < -1048576
  · rw [if_neg (by simp [okV_f2 a2])]
    simp only [Try.f93, go_sem, Nat.reduceAdd, Nat.reduceSub, Nat.reduceMul, Nat.reduceEqDiff, Nat.reduceBEq, Nat.reduceLT, Nat.reduceLeDiff, Nat.reducePow, Int.reduceToNat, Int.reduceLT, Int.reduceLE, Int.reduceGT, Int.reduceGE, Int.reduceEq, Int.reduceNeg, Int.reduceAdd, Int.reduceSub, ↓reduceIte, reduceCtorEq, a1, a2]
  rw [if_pos (okV_of a1 a2)]
  by_cases c1 : x = 0
  case neg =>
    have d1 : decide (x = 0) = false := decide_eq_false c1
    rw [if_neg (by simp [c1])]
    by_cases c2 : y = 0
    · by_cases c3 : z = 0
      · simp only [Try.f93, go_sem, Nat.reduceAdd, Nat.reduceSub, Nat.reduceMul, Nat.reduceEqDiff, Nat.reduceBEq, Nat.reduceLT, Nat.reduceLeDiff, Nat.reducePow, Int.reduceToNat, Int.reduceLT, Int.reduceLE, Int.reduceGT, Int.reduceGE, Int.reduceEq, Int.reduceNeg, Int.reduceAdd, Int.reduceSub, ↓reduceIte, reduceCtorEq, a1, a2, d1, decide_eq_true c2, decide_eq_true c3]
      · simp only [Try.f93, go_sem, Nat.reduceAdd, Nat.reduceSub, Nat.reduceMul, Nat.reduceEqDiff, Nat.reduceBEq, Nat.reduceLT, Nat.reduceLeDiff, Nat.reducePow, Int.reduceToNat, Int.reduceLT, Int.reduceLE, Int.reduceGT, Int.reduceGE, Int.reduceEq, Int.reduceNeg, Int.reduceAdd, Int.reduceSub, ↓reduceIte, reduceCtorEq, a1, a2, d1, decide_eq_true c2, decide_eq_false c3]
    · by_cases c3 : z = 0
      · simp only [Try.f93, go_sem, Nat.reduceAdd, Nat.reduceSub, Nat.reduceMul, Nat.reduceEqDiff, Nat.reduceBEq, Nat.reduceLT, Nat.reduceLeDiff, Nat.reducePow, Int.reduceToNat, Int.reduceLT, Int.reduceLE, Int.reduceGT, Int.reduceGE, Int.reduceEq, Int.reduceNeg, Int.reduceAdd, Int.reduceSub, ↓reduceIte, reduceCtorEq, a1, a2, d1, decide_eq_false c2, decide_eq_true c3]
      · simp only [Try.f93, go_sem, Nat.reduceAdd, Nat.reduceSub, Nat.reduceMul, Nat.reduceEqDiff, Nat.reduceBEq, Nat.reduceLT, Nat.reduceLeDiff, Nat.reducePow, Int.reduceToNat, Int.reduceLT, Int.reduceLE, Int.reduceGT, Int.reduceGE, Int.reduceEq, Int.reduceNeg, Int.reduceAdd, Int.reduceSub, ↓reduceIte, reduceCtorEq, a1, a2, d1, decide_eq_false c2, decide_eq_false c3]
  have d1 : decide (x = 0) = true := decide_eq_true c1
  by_cases c2 : y = 0
  case neg =>
    have d2 : decide (y = 0) = false := decide_eq_false c2
    rw [if_neg (by simp [c2])]
    by_cases c3 : z = 0
    · simp only [Try.f93, go_sem, Nat.reduceAdd, Nat.reduceSub, Nat.reduceMul, Nat.reduceEqDiff, Nat.reduceBEq, Nat.reduceLT, Nat.reduceLeDiff, Nat.reducePow, Int.reduceToNat, Int.reduceLT, Int.reduceLE, Int.reduceGT, Int.reduceGE, Int.reduceEq, Int.reduceNeg, Int.reduceAdd, Int.reduceSub, ↓reduceIte, reduceCtorEq, a1, a2, d1, d2, decide_eq_true c3]
    · simp only [Try.f93, go_sem, Nat.reduceAdd, Nat.reduceSub, Nat.reduceMul, Nat.reduceEqDiff, Nat.reduceBEq, Nat.reduceLT, Nat.reduceLeDiff, Nat.reducePow, Int.reduceToNat, Int.reduceLT, Int.reduceLE, Int.reduceGT, Int.reduceGE, Int.reduceEq, Int.reduceNeg, Int.reduceAdd, Int.reduceSub, ↓reduceIte, reduceCtorEq, a1, a2, d1, d2, decide_eq_false c3]
  have d2 : decide (y = 0) = true := decide_eq_true c2
  by_cases c3 : z = 0
  · rw [if_pos (by rw [c1, c2, c3])]
    simp only [Try.f93, go_sem, Nat.reduceAdd, Nat.reduceSub, Nat.reduceMul, Nat.reduceEqDiff, Nat.reduceBEq, Nat.reduceLT, Nat.reduceLeDiff, Nat.reducePow, Int.reduceToNat, Int.reduceLT, Int.reduceLE, Int.reduceGT, Int.reduceGE, Int.reduceEq, Int.reduceNeg, Int.reduceAdd, Int.reduceSub, ↓reduceIte, reduceCtorEq, a1, a2, d1, d2, decide_eq_true c3]
  · rw [if_neg (by simp [c3])]
    simp only [Try.f93, go_sem, Nat.reduceAdd, Nat.reduceSub, Nat.reduceMul, Nat.reduceEqDiff, Nat.reduceBEq, Nat.reduceLT, Nat.reduceLeDiff, Nat.reducePow, Int.reduceToNat, Int.reduceLT, Int.reduceLE, Int.reduceGT, Int.reduceGE, Int.reduceEq, Int.reduceNeg, Int.reduceAdd, Int.reduceSub, ↓reduceIte, reduceCtorEq, a1, a2, d1, d2, decide_eq_false c3]
theorem chk_ok : SpecOk Try.prog 93 sChk := specC_ok mixed specs_nil T1_ok fun x _ => ⟨0, 1, eChk x.1 x.2.1 x.2.2⟩
#print axioms chk_ok
/-! ### half -/
def idx3 (k : Int) : Int := if k = 1 then 0 else if k = 2 then 1 else if k = 4 then 2 else -1
noncomputable def sIdx3 : Ev.Spec := specC (cOne (cI .i64)) (fun _ => True) fun k => [.int .i64 (idx3 k)]
def l3 : D := .sl 3 [.int .i64 1, .int .i64 2, .int .i64 4]
noncomputable def c3 : CodL Int := ⟨fun k => [.sl 3 [.int .i64 1, .int .i64 2, .int .i64 4], .int .i64 k], fun x y h => by cases h; rfl⟩
noncomputable def sI3 : Ev.Spec := specC c3 (fun _ => True) fun k => [.int .i64 (idx3 k)]
noncomputable def sC3 : Ev.Spec := specC c3 (fun _ => True) fun k => [.bool (sizeOk k)]
theorem sI3_run (k : Int) : sI3.run [.sl 3 [.int .i64 1, .int .i64 2, .int .i64 4], .int .i64 k] = some [.int .i64 (idx3 k)] := specC_run c3 _ _ k trivial
theorem sC3_run (k : Int) : sC3.run [.sl 3 [.int .i64 1, .int .i64 2, .int .i64 4], .int .i64 k] = some [.bool (sizeOk k)] := specC_run c3 _ _ k trivial
noncomputable def T2 : Table := tableOf [(150, en150)]
theorem T2_ok : TableOk Try.prog (([] : Specs).map (·.1)) T2 := (table_cons Try.func150 (by kernel_rfl) (by kernel_rfl) table_nil)
theorem eI3 (k : Int) : evTop Try.prog [] T2 4 1 150 [.sl 3 [.int .i64 1, .int .i64 2, .int .i64 4], .int .i64 k] = some [.int .i64 (idx3 k)] := by
  unfold evTop
  simp only [List.map]
  rw [evF_s (fn := Try.f150) (msk := en150.ms) (hT := by rfl) (hb := by rfl)]
  have wa : IntKind.i64.wrap (0 + 1) = 1 := by decide
  have wb : IntKind.i64.wrap (1 + 1) = 2 := by decide
  have wc : IntKind.i64.wrap (2 + 1) = 3 := by decide
  unfold idx3
  by_cases c1 : k = 1
  · rw [if_pos c1]
    simp only [Try.f150, go_sem, Nat.reduceAdd, Nat.reduceSub, Nat.reduceMul, Nat.reduceEqDiff, Nat.reduceBEq, Nat.reduceLT, Nat.reduceLeDiff, Nat.reducePow, Int.reduceToNat, Int.reduceLT, Int.reduceLE, Int.reduceGT, Int.reduceGE, Int.reduceEq, Int.reduceNeg, Int.reduceAdd, Int.reduceSub, ↓reduceIte, reduceCtorEq, iter_s, decide_eq_true c1]
  rw [if_neg c1]
  by_cases c2 : k = 2
  · rw [if_pos c2]
    simp only [Try.f150, go_sem, Nat.reduceAdd, Nat.reduceSub, Nat.reduceMul, Nat.reduceEqDiff, Nat.reduceBEq, Nat.reduceLT, Nat.reduceLeDiff, Nat.reducePow, Int.reduceToNat, Int.reduceLT, Int.reduceLE, Int.reduceGT, Int.reduceGE, Int.reduceEq, Int.reduceNeg, Int.reduceAdd, Int.reduceSub, ↓reduceIte, reduceCtorEq, iter_s, decide_eq_false c1, decide_eq_true c2]
  rw [if_neg c2]
  by_cases c4 : k = 4
  · rw [if_pos c4]
    simp only [Try.f150, go_sem, Nat.reduceAdd, Nat.reduceSub, Nat.reduceMul, Nat.reduceEqDiff, Nat.reduceBEq, Nat.reduceLT, Nat.reduceLeDiff, Nat.reducePow, Int.reduceToNat, Int.reduceLT, Int.reduceLE, Int.reduceGT, Int.reduceGE, Int.reduceEq, Int.reduceNeg, Int.reduceAdd, Int.reduceSub, ↓reduceIte, reduceCtorEq, iter_s, decide_eq_false c1, decide_eq_false c2, decide_eq_true c4]
  rw [if_neg c4]
  simp only [Try.f150, go_sem, Nat.reduceAdd, Nat.reduceSub, Nat.reduceMul, Nat.reduceEqDiff, Nat.reduceBEq, Nat.reduceLT, Nat.reduceLeDiff, Nat.reducePow, Int.reduceToNat, Int.reduceLT, Int.reduceLE, Int.reduceGT, Int.reduceGE, Int.reduceEq, Int.reduceNeg, Int.reduceAdd, Int.reduceSub, ↓reduceIte, reduceCtorEq, iter_s, decide_eq_false c1, decide_eq_false c2, decide_eq_false c4]
theorem i3_ok : SpecOk Try.prog 150 sI3 := specC_ok mixed specs_nil T2_ok fun k _ => ⟨4, 1, eI3 k⟩
noncomputable def G3 : Specs := [(150, sI3)]
noncomputable def T3 : Table := tableOf [(130, en130)]
theorem G3_ok : ∀ g s, Ev.look G3 g = some s → SpecOk Try.prog g s := specs_cons i3_ok specs_nil
theorem T3_ok : TableOk Try.prog (G3.map (·.1)) T3 := (table_cons Try.func130 (by kernel_rfl) (by kernel_rfl) table_nil)
theorem idx3_ge (k : Int) : decide (idx3 k ≥ 0) = sizeOk k := by
  unfold idx3 sizeOk
  by_cases c1 : k = 1
  · simp [c1]
  by_cases c2 : k = 2
  · simp [c2]
  by_cases c4 : k = 4
  · simp [c4]
  simp [c1, c2, c4]
theorem eC3 (k : Int) : evTop Try.prog G3 T3 0 1 130 [.sl 3 [.int .i64 1, .int .i64 2, .int .i64 4], .int .i64 k] = some [.bool (sizeOk k)] := by
  unfold evTop
  simp only [List.map]
  rw [evF_s (fn := Try.f130) (msk := en130.ms) (hT := by rfl) (hb := by rfl)]
  simp only [Try.f130, G3, go_sem, Nat.reduceAdd, Nat.reduceSub, Nat.reduceMul, Nat.reduceEqDiff, Nat.reduceBEq, Nat.reduceLT, Nat.reduceLeDiff, Nat.reducePow, Int.reduceToNat, Int.reduceLT, Int.reduceLE, Int.reduceGT, Int.reduceGE, Int.reduceEq, Int.reduceNeg, Int.reduceAdd, Int.reduceSub, ↓reduceIte, reduceCtorEq, sI3_run k, idx3_ge k]
theorem con3_ok : SpecOk Try.prog 130 sC3 := specC_ok mixed G3_ok T3_ok fun k _ => ⟨0, 1, eC3 k⟩
noncomputable def G4 : Specs := [(130, sC3)]
noncomputable def T4 : Table := tableOf [(94, en94)]
theorem G4_ok : ∀ g s, Ev.look G4 g = some s → SpecOk Try.prog g s := specs_cons con3_ok specs_nil
theorem T4_ok : TableOk Try.prog (G4.map (·.1)) T4 := (table_cons Try.func94 (by kernel_rfl) (by kernel_rfl) table_nil)
noncomputable def sHalf : Ev.Spec := specC (cOne (cI .i64)) (fun _ => True) fun k => [.bool (sizeOk k)]
theorem sHalf_run (k : Int) : sHalf.run [.int .i64 k] = some [.bool (sizeOk k)] := specC_run (cOne (cI .i64)) _ _ k trivial
theorem eHalf (k : Int) : evTop Try.prog G4 T4 0 1 94 [.int .i64 k] = some [.bool (sizeOk k)] := by
  unfold evTop
  simp only [List.map]
  rw [evF_s (fn := Try.f94) (msk := en94.ms) (hT := by rfl) (hb := by rfl)]
  simp only [Try.f94, G4, go_sem, Nat.reduceAdd, Nat.reduceSub, Nat.reduceMul, Nat.reduceEqDiff, Nat.reduceBEq, Nat.reduceLT, Nat.reduceLeDiff, Nat.reducePow, Int.reduceToNat, Int.reduceLT, Int.reduceLE, Int.reduceGT, Int.reduceGE, Int.reduceEq, Int.reduceNeg, Int.reduceAdd, Int.reduceSub, ↓reduceIte, reduceCtorEq, sC3_run k]
theorem half_ok : SpecOk Try.prog 94 sHalf := specC_ok mixed G4_ok T4_ok fun k _ => ⟨0, 1, eHalf k⟩
#print axioms half_ok
/-! ### galaxy -/
noncomputable def sGal : Ev.Spec := specC (cOne cGal) (fun _ => True) fun g => [.int .i64 (galF g)]
theorem sGal_run (i x y z r w h : Int) : sGal.run [.agg 76 [.int .i64 i, .agg 23 [.int .i64 x, .int .i64 y, .int .i64 z], .int .i64 r, .int .i64 w, .int .i64 h]] = some [.int .i64 (galF ⟨i, (x, y, z), r, w, h⟩)] := specC_run (cOne cGal) _ _ (⟨i, (x, y, z), r, w, h⟩ : Gal) trivial
noncomputable def G5 : Specs := [(93, sChk)]
noncomputable def T5 : Table := tableOf [(89, en89)]
theorem G5_ok : ∀ g s, Ev.look G5 g = some s → SpecOk Try.prog g s := specs_cons chk_ok specs_nil
theorem T5_ok : TableOk Try.prog (G5.map (·.1)) T5 := (table_cons Try.func89 (by kernel_rfl) (by kernel_rfl) table_nil)
theorem sizeOk_t {k : Int} (h : sizeOk k = true) : decide (k = 1) = true ∨ (decide (k = 1) = false ∧ decide (k = 2) = true) ∨ (decide (k = 1) = false ∧ decide (k = 2) = false ∧ decide (k = 4) = true) := by
  unfold sizeOk at h
  cases h1 : decide (k = 1) <;> cases h2 : decide (k = 2) <;> cases h4 : decide (k = 4) <;> simp_all
theorem sizeOk_f {k : Int} (h : ¬ sizeOk k = true) : decide (k = 1) = false ∧ decide (k = 2) = false ∧ decide (k = 4) = false := by
  unfold sizeOk at h
  cases h1 : decide (k = 1) <;> cases h2 : decide (k = 2) <;> cases h4 : decide (k = 4) <;> simp_all
theorem eGal (i x y z r w h : Int) : evTop Try.prog G5 T5 3 1 89 [.agg 76 [.int .i64 i, .agg 23 [.int .i64 x, .int .i64 y, .int .i64 z], .int .i64 r, .int .i64 w, .int .i64 h]] = some [.int .i64 (galF ⟨i, (x, y, z), r, w, h⟩)] := by
  unfold evTop
  simp only [List.map]
  rw [evF_s (fn := Try.f89) (msk := en89.ms) (hT := by rfl) (hb := by rfl)]
  have rc := sChk_run x y z
  have wa : IntKind.i64.wrap (0 + 1) = 1 := by decide
  have wb : IntKind.i64.wrap (1 + 1) = 2 := by decide
  unfold galF
  by_cases c0 : chkV (x, y, z) = 0
  case neg =>
    rw [if_neg (by simpa using c0)]
    simp only [Try.f89, G5, go_sem, Nat.reduceAdd, Nat.reduceSub, Nat.reduceMul, Nat.reduceEqDiff, Nat.reduceBEq, Nat.reduceLT, Nat.reduceLeDiff, Nat.reducePow, Int.reduceToNat, Int.reduceLT, Int.reduceLE, Int.reduceGT, Int.reduceGE, Int.reduceEq, Int.reduceNeg, Int.reduceAdd, Int.reduceSub, ↓reduceIte, reduceCtorEq, rc, c0]
  rw [if_pos (by simpa using c0)]
  by_cases cw : sizeOk w = true
  case neg =>
    rw [if_neg (by simp [cw])]
    obtain ⟨w1, w2, w4⟩ := sizeOk_f cw
    simp only [Try.f89, G5, go_sem, Nat.reduceAdd, Nat.reduceSub, Nat.reduceMul, Nat.reduceEqDiff, Nat.reduceBEq, Nat.reduceLT, Nat.reduceLeDiff, Nat.reducePow, Int.reduceToNat, Int.reduceLT, Int.reduceLE, Int.reduceGT, Int.reduceGE, Int.reduceEq, Int.reduceNeg, Int.reduceAdd, Int.reduceSub, ↓reduceIte, reduceCtorEq, rc, c0, iter_s, w1, w2, w4]
  by_cases ch : sizeOk h = true
  case neg =>
    rw [if_neg (by simp [ch])]
    obtain ⟨h1, h2, h4⟩ := sizeOk_f ch
    rcases sizeOk_t cw with w1 | ⟨w1, w2⟩ | ⟨w1, w2, w4⟩
    · simp only [Try.f89, G5, go_sem, Nat.reduceAdd, Nat.reduceSub, Nat.reduceMul, Nat.reduceEqDiff, Nat.reduceBEq, Nat.reduceLT, Nat.reduceLeDiff, Nat.reducePow, Int.reduceToNat, Int.reduceLT, Int.reduceLE, Int.reduceGT, Int.reduceGE, Int.reduceEq, Int.reduceNeg, Int.reduceAdd, Int.reduceSub, ↓reduceIte, reduceCtorEq, rc, c0, iter_s, w1, h1, h2, h4]
    · simp only [Try.f89, G5, go_sem, Nat.reduceAdd, Nat.reduceSub, Nat.reduceMul, Nat.reduceEqDiff, Nat.reduceBEq, Nat.reduceLT, Nat.reduceLeDiff, Nat.reducePow, Int.reduceToNat, Int.reduceLT, Int.reduceLE, Int.reduceGT, Int.reduceGE, Int.reduceEq, Int.reduceNeg, Int.reduceAdd, Int.reduceSub, ↓reduceIte, reduceCtorEq, rc, c0, iter_s, w1, w2, h1, h2, h4]
    · simp only [Try.f89, G5, go_sem, Nat.reduceAdd, Nat.reduceSub, Nat.reduceMul, Nat.reduceEqDiff, Nat.reduceBEq, Nat.reduceLT, Nat.reduceLeDiff, Nat.reducePow, Int.reduceToNat, Int.reduceLT, Int.reduceLE, Int.reduceGT, Int.reduceGE, Int.reduceEq, Int.reduceNeg, Int.reduceAdd, Int.reduceSub, ↓reduceIte, reduceCtorEq, rc, c0, iter_s, w1, w2, w4, h1, h2, h4]
  rw [if_pos ⟨cw, ch⟩]
  rcases sizeOk_t cw with w1 | ⟨w1, w2⟩ | ⟨w1, w2, w4⟩
  · rcases sizeOk_t ch with h1 | ⟨h1, h2⟩ | ⟨h1, h2, h4⟩
    · simp only [Try.f89, G5, go_sem, Nat.reduceAdd, Nat.reduceSub, Nat.reduceMul, Nat.reduceEqDiff, Nat.reduceBEq, Nat.reduceLT, Nat.reduceLeDiff, Nat.reducePow, Int.reduceToNat, Int.reduceLT, Int.reduceLE, Int.reduceGT, Int.reduceGE, Int.reduceEq, Int.reduceNeg, Int.reduceAdd, Int.reduceSub, ↓reduceIte, reduceCtorEq, rc, c0, iter_s, w1, h1]
    · simp only [Try.f89, G5, go_sem, Nat.reduceAdd, Nat.reduceSub, Nat.reduceMul, Nat.reduceEqDiff, Nat.reduceBEq, Nat.reduceLT, Nat.reduceLeDiff, Nat.reducePow, Int.reduceToNat, Int.reduceLT, Int.reduceLE, Int.reduceGT, Int.reduceGE, Int.reduceEq, Int.reduceNeg, Int.reduceAdd, Int.reduceSub, ↓reduceIte, reduceCtorEq, rc, c0, iter_s, w1, h1, h2]
    · simp only [Try.f89, G5, go_sem, Nat.reduceAdd, Nat.reduceSub, Nat.reduceMul, Nat.reduceEqDiff, Nat.reduceBEq, Nat.reduceLT, Nat.reduceLeDiff, Nat.reducePow, Int.reduceToNat, Int.reduceLT, Int.reduceLE, Int.reduceGT, Int.reduceGE, Int.reduceEq, Int.reduceNeg, Int.reduceAdd, Int.reduceSub, ↓reduceIte, reduceCtorEq, rc, c0, iter_s, w1, h1, h2, h4]
  · rcases sizeOk_t ch with h1 | ⟨h1, h2⟩ | ⟨h1, h2, h4⟩
    · simp only [Try.f89, G5, go_sem, Nat.reduceAdd, Nat.reduceSub, Nat.reduceMul, Nat.reduceEqDiff, Nat.reduceBEq, Nat.reduceLT, Nat.reduceLeDiff, Nat.reducePow, Int.reduceToNat, Int.reduceLT, Int.reduceLE, Int.reduceGT, Int.reduceGE, Int.reduceEq, Int.reduceNeg, Int.reduceAdd, Int.reduceSub, ↓reduceIte, reduceCtorEq, rc, c0, iter_s, w1, w2, h1]
    · simp only [Try.f89, G5, go_sem, Nat.reduceAdd, Nat.reduceSub, Nat.reduceMul, Nat.reduceEqDiff, Nat.reduceBEq, Nat.reduceLT, Nat.reduceLeDiff, Nat.reducePow, Int.reduceToNat, Int.reduceLT, Int.reduceLE, Int.reduceGT, Int.reduceGE, Int.reduceEq, Int.reduceNeg, Int.reduceAdd, Int.reduceSub, ↓reduceIte, reduceCtorEq, rc, c0, iter_s, w1, w2, h1, h2]
    · simp only [Try.f89, G5, go_sem, Nat.reduceAdd, Nat.reduceSub, Nat.reduceMul, Nat.reduceEqDiff, Nat.reduceBEq, Nat.reduceLT, Nat.reduceLeDiff, Nat.reducePow, Int.reduceToNat, Int.reduceLT, Int.reduceLE, Int.reduceGT, Int.reduceGE, Int.reduceEq, Int.reduceNeg, Int.reduceAdd, Int.reduceSub, ↓reduceIte, reduceCtorEq, rc, c0, iter_s, w1, w2, h1, h2, h4]
  · rcases sizeOk_t ch with h1 | ⟨h1, h2⟩ | ⟨h1, h2, h4⟩
    · simp only [Try.f89, G5, go_sem, Nat.reduceAdd, Nat.reduceSub, Nat.reduceMul, Nat.reduceEqDiff, Nat.reduceBEq, Nat.reduceLT, Nat.reduceLeDiff, Nat.reducePow, Int.reduceToNat, Int.reduceLT, Int.reduceLE, Int.reduceGT, Int.reduceGE, Int.reduceEq, Int.reduceNeg, Int.reduceAdd, Int.reduceSub, ↓reduceIte, reduceCtorEq, rc, c0, iter_s, w1, w2, w4, h1]
    · simp only [Try.f89, G5, go_sem, Nat.reduceAdd, Nat.reduceSub, Nat.reduceMul, Nat.reduceEqDiff, Nat.reduceBEq, Nat.reduceLT, Nat.reduceLeDiff, Nat.reducePow, Int.reduceToNat, Int.reduceLT, Int.reduceLE, Int.reduceGT, Int.reduceGE, Int.reduceEq, Int.reduceNeg, Int.reduceAdd, Int.reduceSub, ↓reduceIte, reduceCtorEq, rc, c0, iter_s, w1, w2, w4, h1, h2]
    · simp only [Try.f89, G5, go_sem, Nat.reduceAdd, Nat.reduceSub, Nat.reduceMul, Nat.reduceEqDiff, Nat.reduceBEq, Nat.reduceLT, Nat.reduceLeDiff, Nat.reducePow, Int.reduceToNat, Int.reduceLT, Int.reduceLE, Int.reduceGT, Int.reduceGE, Int.reduceEq, Int.reduceNeg, Int.reduceAdd, Int.reduceSub, ↓reduceIte, reduceCtorEq, rc, c0, iter_s, w1, w2, w4, h1, h2, h4]
theorem gal_ok : SpecOk Try.prog 89 sGal := specC_ok mixed G5_ok T5_ok fun g _ => ⟨3, 1, eGal g.id g.p.1 g.p.2.1 g.p.2.2 g.rate g.wide g.high⟩
#print axioms gal_ok
end Go.Proofs.YtmhjmjodchbhlaaR.OwnRate
