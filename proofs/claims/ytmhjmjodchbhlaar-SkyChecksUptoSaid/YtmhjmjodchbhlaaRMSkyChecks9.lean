/- Parts of one proof, joined: Pull2Pull, FxPath, PathPath, TypesRate, FaultRate. -/
import Derived.Test.YtmhjmjodchbhlaaRMSkyChecks8
import Derived.Test.YtmhjmjodchbhlaaRProg
section
set_option linter.unusedVariables false
set_option linter.unusedSimpArgs false
set_option maxRecDepth 100000
namespace Go.Proofs.YtmhjmjodchbhlaaR.Pull2Pull
open Go.Ev Go.Ari Go.Proofs.YtmhjmjodchbhlaaR.FxPull Go.Proofs.YtmhjmjodchbhlaaR.Num1Pull Go.Proofs.YtmhjmjodchbhlaaR.Num3Pull Go.Proofs.YtmhjmjodchbhlaaR.Num4Pull Go.Proofs.YtmhjmjodchbhlaaR.Num5Pull Go.Proofs.YtmhjmjodchbhlaaR.Num6Pull Go.Proofs.YtmhjmjodchbhlaaR.PullPull
attribute [local go_sem] Ev.putR_s Ev.putR_0 Ev.thenO_s Ev.thenO_0 Ev.seqR_n Ev.seqR_e Ev.seqR_r Ev.seqR_0 Ev.blkR_e Ev.blkR_n Ev.blkR_r Ev.blkR_0 Ev.normR_s Ev.normR_0 Ev.outR_r Ev.outR_n Ev.outR_0 Ev.retS_s Ev.retS_0 Ev.pureO_s Ev.pureO_0 Ev.topR_0 Ev.topR_t Ev.topR_t0 Ev.oneL_0 Ev.oneL_s Ev.topR_d Ev.topR_nils Ev.topR_agg Ev.topR_rs Ev.evOp_move Ev.evOp_assign Ev.evOp_pick Ev.evOp_alloc Ev.evOp_box Ev.evOp_build Ev.evOp_buildSlice Ev.evOp_load Ev.evOp_store Ev.evOp_makeMap Ev.evOp_lookup Ev.evOp_mapUpdate Ev.evOp_insert Ev.evOp_nilCheck Ev.evOp_binOp Ev.evOp_unOp Ev.evOp_convert Ev.evOp_makeFunc Ev.evOp_makeSlice Ev.evOp_slice Ev.evOp_fieldAddr Ev.evOp_field Ev.evOp_indexAddr Ev.evOp_index Ev.evOp_extract Ev.evOp_call Ev.evOp_append Ev.evOp_len Ev.evOp_min Ev.evOp_max Ev.condR_b Ev.condR_t Ev.evOps_nil Ev.evOps_plain Ev.evOps_guard Ev.runG_eq Ev.skipG_eq Ev.condL_tt Ev.condL_ff Ev.condL_tf Ev.condL_ft Ev.condL_u Ev.condC_t Ev.condC_f Ev.evC_skip Ev.evC_ret Ev.evC_exit Ev.evC_label Ev.evC_region Ev.evC_draw Ev.evC_seq Ev.evC_cond Ev.evC_block Ev.evC_loop Ev.fin_d Ev.fin_nils Ev.fin_agg_ Ev.fin_rs Ev.finS_s Ev.mapO_fin Ev.upd_upd Ev.argv_d Ev.argv_nils Ev.argv_agg Ev.argv_rs Ev.argv_p Ev.appendTo_nils Ev.appendTo_rs Ev.consV_d Ev.consV_agg Ev.consV_p Ev.consV_rs Ev.consV_nils Ev.consV_fn Ev.consV_und Ev.consV_jk Ev.consV_grown Ev.topR_grown Ev.len_grown Ev.consV_mp Ev.sameK_i Ev.sameK_s Ev.mget_0 Ev.mget_hit Ev.mget_miss Ev.mput_0 Ev.mput_hit Ev.mput_miss Ev.apartAll Ev.apartL Ev.apartV Ev.freeAll Ev.sel Ev.keyOfV Ev.evLookup Ev.evPut Ev.hintOk Ev.keyOk Ev.consP Ev.lookV Ev.guardV Ev.dstAt Ev.evPure Ev.evStore Ev.evPureB Ev.evBin Ev.evBinO Ev.evNil Ev.isNilC Ev.evUn Ev.evConv Ev.evSlice Ev.optI Ev.lenV Ev.elemT Ev.foldI Ev.capsOk Ev.noTup Ev.nth Ev.setN Ev.pad Ev.V.get Ev.V.put Ev.putD Ev.hasT Ev.newBlk Ev.upd Ev.keq Ev.empty Ev.evCall Ev.V.args Ev.argP Ev.callOf Ev.evNilP Ev.isNilP Ev.look Ev.V.view.views Ev.V.view Ev.V.toD Ev.V.toD.V.toDs Ev.V.pure.pures Ev.V.pure Ev.D.flat.flats Ev.D.flat Ev.mkAgg Ev.allD Ev.aggParts Ev.setParts Ev.setElems Ev.getPath Ev.setPath Ev.subL Ev.eqD Ev.eqD.eqDs Ev.and2 Ev.strCut Ev.evalT Ev.constT Ev.evArgs Ev.mask Ev.maskOf Ev.tableOf Ev.compT Ev.resV Ev.retV Ev.mapO Ev.elemsOf Int.cast_ofNat_Int IntWalk.i64_in IntWalk.u64_in IntWalk.u8_in beq_self_eq_true Bool.true_beq Bool.false_beq Bool.and_true Bool.true_and Bool.false_and Bool.and_false Bool.and_self Bool.not_true Bool.not_false Bool.not_eq_true cond_true cond_false if_true if_false and_true true_and and_self decide_true decide_false Bool.or_true Bool.true_or Bool.or_false Bool.false_or List.isEmpty List.isEmpty_nil List.size_toArray List.map List.length_map List.length_cons List.length_nil Option.map Option.bind Option.getD Option.isSome List.replicate Bool.false_eq_true implies_true forall_const Array.toList Array.isEmpty List.append List.nil_append List.cons_append List.drop_zero List.take_length List.take_succ_cons List.take_zero List.take_nil List.getElem?_map List.getElem?_cons_zero List.getElem?_cons_succ List.getElem?_nil List.append_nil
attribute [local go_sem] FxPull.tk2 FxPull.ik2 FxPull.ek2 FxPull.zv2 FxPull.tk3 FxPull.ik3 FxPull.ek3 FxPull.zv3 FxPull.tk4 FxPull.ub4 FxPull.zv4 FxPull.tk5 FxPull.ik5 FxPull.zv5 FxPull.tk9 FxPull.ek9 FxPull.tk23 FxPull.ct23 FxPull.ek23 FxPull.zv23 FxPull.tk27 FxPull.ik27 FxPull.zv27 FxPull.tk37 FxPull.ik37 FxPull.zv37 FxPull.by37 FxPull.so37 FxPull.tk39 FxPull.ct39 FxPull.zv39 FxPull.by39 FxPull.so39 FxPull.tk43 FxPull.zv43 FxPull.tk44 FxPull.zv44 FxPull.tk45 FxPull.zv45 FxPull.tk47 FxPull.ct47 FxPull.zv47 FxPull.tk48 FxPull.ik48 FxPull.zv48 FxPull.tk76 FxPull.ct76 FxPull.zv76 FxPull.by76 FxPull.so76 FxPull.tk77 FxPull.zv77 FxPull.tk79 FxPull.ct79 FxPull.zv79 FxPull.by79 FxPull.so79 FxPull.tk88 FxPull.zv88 FxPull.tk92 FxPull.ik92 FxPull.zv92 FxPull.tk135 FxPull.ik135 FxPull.zv135 FxPull.tk136 FxPull.mt136 FxPull.sm136 FxPull.zw4 FxPull.zv136 FxPull.tk145 FxPull.zv145 FxPull.tk148 FxPull.ct148 FxPull.zv148 FxPull.tk150 FxPull.ct150 FxPull.zv150 FxPull.tk161 FxPull.ct161 FxPull.zv161 FxPull.tk203 FxPull.dw3_1 FxPull.nc3_1 FxPull.mk3_1000000 FxPull.mk4_1000000 FxPull.mk14_1000000 FxPull.dw15_7 FxPull.nc15_7 FxPull.mk15_1000000 FxPull.dw16_7 FxPull.nc16_7 FxPull.mk16_1000000 FxPull.mk17_1000000 FxPull.mk18_1000000 FxPull.mk30_1000000 FxPull.mk40_0 FxPull.mk40_2 FxPull.mk40_4 FxPull.mk40_1000001 FxPull.mk40_1000002 FxPull.mk40_1000003 FxPull.mk40_1000004 FxPull.mk40_1000005 FxPull.mk40_1000006 FxPull.mk40_1000007 FxPull.mk40_1000000 FxPull.mk46_0 FxPull.mk46_1000001 FxPull.mk46_1000002 FxPull.mk46_1000000 FxPull.mk47_1000000 FxPull.mk48_1000000 FxPull.mk49_1000000 FxPull.mk50_1000000 FxPull.mk51_0 FxPull.mk51_1000001 FxPull.mk51_1000002 FxPull.mk51_1000000 FxPull.dw52_2 FxPull.nc52_2 FxPull.mk52_1000000 FxPull.mk53_1000000 FxPull.mk54_1000000 FxPull.mk55_1000001 FxPull.mk55_1000000 FxPull.mk64_1000000 FxPull.mk78_0 FxPull.mk78_1000001 FxPull.mk78_1000002 FxPull.mk78_1000000 FxPull.mk87_1000001 FxPull.mk87_1000000 FxPull.mk88_1000001 FxPull.mk88_1000000 FxPull.mk89_0 FxPull.mk89_1000001 FxPull.mk89_1000002 FxPull.mk89_1000000 FxPull.mk93_1000001 FxPull.mk93_1000000 FxPull.mk95_1000000 FxPull.mk98_0 FxPull.mk98_1000001 FxPull.mk98_1000002 FxPull.mk98_1000000 FxPull.mk99_1000000 FxPull.mk100_1000001 FxPull.mk100_1000000 FxPull.mk101_1000000 FxPull.mk102_1000000 FxPull.mk103_0 FxPull.mk103_1000001 FxPull.mk103_1000002 FxPull.mk103_1000000 FxPull.mk127_1000000 FxPull.mk128_1000000 FxPull.mk131_0 FxPull.mk131_1000001 FxPull.mk131_1000002 FxPull.mk131_1000000 FxPull.mk134_1000000 FxPull.mk135_1000000 FxPull.dw136_6 FxPull.nc136_6 FxPull.mk136_0 FxPull.mk136_2 FxPull.mk136_1000001 FxPull.mk136_1000002 FxPull.mk136_1000003 FxPull.mk136_1000004 FxPull.mk136_1000000 FxPull.mk152_1000000
/-! ### the document part -/
noncomputable def T3 : Table := tableOf [(53, en53), (55, en55), (47, en47)]
noncomputable def G3 : Specs := [(98, sSqrtMul)]
theorem G3_ok : ∀ g s, Ev.look G3 g = some s → SpecOk Try.prog g s := specs_cons sSqrtMul_ok specs_nil
theorem T3_ok : TableOk Try.prog (G3.map (·.1)) T3 := (table_cons Try.func53 (by kernel_rfl) (by kernel_rfl) (table_cons Try.func55 (by kernel_rfl) (by kernel_rfl) (table_cons Try.func47 (by kernel_rfl) (by kernel_rfl) table_nil)))
theorem eSize3 (a : Int) (h : I a) : evTop Try.prog G3 T3 0 1 53 [.int .i64 a] = some [.int .u64 (ab a)] := by
  unfold evTop
  simp only [List.map]
  rw [evF_s (fn := Try.f53) (msk := en53.ms) (hT := by rfl) (hb := by rfl)]
  by_cases hn : a < 0
  · simp only [Try.f53, go_sem, Nat.reduceAdd, Nat.reduceSub, Nat.reduceMul, Nat.reduceEqDiff, Nat.reduceBEq, Nat.reduceLT, Nat.reduceLeDiff, Nat.reducePow, Int.reduceToNat, Int.reduceLT, Int.reduceLE, Int.reduceGT, Int.reduceGE, Int.reduceEq, Int.reduceNeg, Int.reduceAdd, Int.reduceSub, ↓reduceIte, reduceCtorEq, hn, conv_neg h hn, ab]
  · simp only [Try.f53, go_sem, Nat.reduceAdd, Nat.reduceSub, Nat.reduceMul, Nat.reduceEqDiff, Nat.reduceBEq, Nat.reduceLT, Nat.reduceLeDiff, Nat.reducePow, Int.reduceToNat, Int.reduceLT, Int.reduceLE, Int.reduceGT, Int.reduceGE, Int.reduceEq, Int.reduceNeg, Int.reduceAdd, Int.reduceSub, ↓reduceIte, reduceCtorEq, hn, conv_pos h hn, ab]
theorem size3_ok : SpecOk Try.prog 53 sSize := specC_ok mixed G3_ok T3_ok fun x hp => ⟨0, 1, eSize3 x hp⟩
def sgn (a : Int) : Int := if a < 0 then -1 else if a > 0 then 1 else 0
noncomputable def sSign : Ev.Spec := specC (c1 .i64) (fun _ => True) fun x => [.int .i64 (sgn x)]
theorem sSign_run (a : Int) : sSign.run [.int .i64 a] = some [.int .i64 (sgn a)] := specC_run (c1 .i64) _ _ a trivial
theorem eSign (a : Int) : evTop Try.prog G3 T3 0 1 55 [.int .i64 a] = some [.int .i64 (sgn a)] := by
  unfold evTop
  simp only [List.map]
  rw [evF_s (fn := Try.f55) (msk := en55.ms) (hT := by rfl) (hb := by rfl)]
  by_cases h1 : a < 0
  · simp only [Try.f55, go_sem, Nat.reduceAdd, Nat.reduceSub, Nat.reduceMul, Nat.reduceEqDiff, Nat.reduceBEq, Nat.reduceLT, Nat.reduceLeDiff, Nat.reducePow, Int.reduceToNat, Int.reduceLT, Int.reduceLE, Int.reduceGT, Int.reduceGE, Int.reduceEq, Int.reduceNeg, Int.reduceAdd, Int.reduceSub, ↓reduceIte, reduceCtorEq, h1, sgn]
  · by_cases h2 : a > 0
    · simp only [Try.f55, go_sem, Nat.reduceAdd, Nat.reduceSub, Nat.reduceMul, Nat.reduceEqDiff, Nat.reduceBEq, Nat.reduceLT, Nat.reduceLeDiff, Nat.reducePow, Int.reduceToNat, Int.reduceLT, Int.reduceLE, Int.reduceGT, Int.reduceGE, Int.reduceEq, Int.reduceNeg, Int.reduceAdd, Int.reduceSub, ↓reduceIte, reduceCtorEq, h1, h2, sgn]
    · simp only [Try.f55, go_sem, Nat.reduceAdd, Nat.reduceSub, Nat.reduceMul, Nat.reduceEqDiff, Nat.reduceBEq, Nat.reduceLT, Nat.reduceLeDiff, Nat.reducePow, Int.reduceToNat, Int.reduceLT, Int.reduceLE, Int.reduceGT, Int.reduceGE, Int.reduceEq, Int.reduceNeg, Int.reduceAdd, Int.reduceSub, ↓reduceIte, reduceCtorEq, h1, h2, sgn]
theorem sSign_ok : SpecOk Try.prog 55 sSign := specC_ok mixed G3_ok T3_ok fun x hp => ⟨0, 1, eSign x⟩
noncomputable def sSqrt : Ev.Spec := specC (c1 .i64) I fun x => [.int .i64 (rootR x 1)]
theorem sSqrt_run (a : Int) (h : I a) : sSqrt.run [.int .i64 a] = some [.int .i64 (rootR a 1)] := specC_run (c1 .i64) _ _ a h
theorem eSqrt (a : Int) (h : I a) : evTop Try.prog G3 T3 0 1 47 [.int .i64 a] = some [.int .i64 (rootR a 1)] := by
  unfold evTop
  simp only [List.map]
  rw [evF_s (fn := Try.f47) (msk := en47.ms) (hT := by rfl) (hb := by rfl)]
  simp only [Try.f47, G3, go_sem, Nat.reduceAdd, Nat.reduceSub, Nat.reduceMul, Nat.reduceEqDiff, Nat.reduceBEq, Nat.reduceLT, Nat.reduceLeDiff, Nat.reducePow, Int.reduceToNat, Int.reduceLT, Int.reduceLE, Int.reduceGT, Int.reduceGE, Int.reduceEq, Int.reduceNeg, Int.reduceAdd, Int.reduceSub, ↓reduceIte, reduceCtorEq, sSqrtMul_run a 1 h ⟨by decide, by decide⟩]
theorem sSqrt_ok : SpecOk Try.prog 47 sSqrt := specC_ok mixed G3_ok T3_ok fun x hp => ⟨0, 1, eSqrt x hp⟩
noncomputable def G4 : Specs := [(53, sSize), (55, sSign), (54, sDown)]
noncomputable def T4 : Table := tableOf [(52, en52)]
theorem G4_ok : ∀ g s, Ev.look G4 g = some s → SpecOk Try.prog g s := specs_cons size3_ok (specs_cons sSign_ok (specs_cons sDown_ok specs_nil))
theorem T4_ok : TableOk Try.prog (G4.map (·.1)) T4 := (table_cons Try.func52 (by kernel_rfl) (by kernel_rfl) table_nil)
theorem ePart3 (x r : Int) (h : PP x r) : evTop Try.prog G4 T4 0 1 52 [.int .i64 x, .ptr (.int .i64 r)] = some [.int .i64 (plx r x)] := by
  unfold evTop
  simp only [List.map]
  rw [evF_s (fn := Try.f52) (msk := en52.ms) (hT := by rfl) (hb := by rfl)]
  obtain ⟨x0, x1, r0, r1⟩ := h
  have rs := sSize_run x ⟨by omega, by omega⟩
  have a0 : 0 ≤ ab x ∧ ab x ≤ 4194304 := by unfold ab; split <;> omega
  obtain ⟨b0, b1, b2, b3, b4, b5⟩ := part_bounds (a := ab x) a0.1 a0.2 r0 r1
  have wa : IntKind.i64.wrap (ab x) = ab x := wi_in (by omega) (by omega)
  have rd := sDown_run 9007199254740992 (ab x) r ⟨by decide, by decide, a0.1, by omega, by omega, by omega, by omega, by omega⟩
  have hz : ¬ r = 0 := by omega
  have d0 : 0 ≤ 9007199254740992 * ab x / r / r := Int.ediv_nonneg b0 (by omega)
  have d1 : 9007199254740992 * ab x / r / r ≤ 576460752303423488 := by have := Int.ediv_le_self r b0; omega
  have dd : 9007199254740992 * ab x / r / r / r = 9007199254740992 * ab x / r / (r * r) := Int.ediv_ediv_of_nonneg (by omega)
  have t1 : (9007199254740992 * ab x / r).tdiv r = 9007199254740992 * ab x / r / r := Int.tdiv_eq_ediv_of_nonneg b0
  have t2 : (9007199254740992 * ab x / r / r).tdiv r = 9007199254740992 * ab x / r / r / r := Int.tdiv_eq_ediv_of_nonneg d0
  have w1 : IntKind.i64.wrap (9007199254740992 * ab x / r / r) = 9007199254740992 * ab x / r / r := wi_in (by omega) (by omega)
  have w2 : IntKind.i64.wrap (9007199254740992 * ab x / r / (r * r)) = 9007199254740992 * ab x / r / (r * r) := wi_in (by omega) (by omega)
  have hsg : IntKind.i64.wrap (0 - sgn x) = -sgn x := by unfold sgn; split <;> first | rfl | (split <;> rfl)
  have hf : IntKind.i64.wrap (-sgn x * (9007199254740992 * ab x / r / (r * r))) = plx r x := by
    unfold plx sgn
    by_cases h1 : x < 0
    · have e : ab x = -x := by unfold ab; rw [if_pos h1]
      rw [e] at b4 b5 ⊢
      rw [if_pos h1, if_neg (by omega)]
      rw [show -(-1 : Int) = 1 from rfl, Int.one_mul]
      exact wi_in (by omega) (by omega)
    · have e : ab x = x := by unfold ab; rw [if_neg h1]
      rw [e] at b4 b5 ⊢
      rw [if_neg h1]
      by_cases h2 : x > 0
      · rw [if_pos h2, if_pos h2, Int.neg_mul, Int.one_mul]
        exact wi_in (by omega) (by omega)
      · have : x = 0 := by omega
        subst this
        simp [IntKind.wrap, IntKind.bits, IntKind.signed]
  simp only [Try.f52, G4, go_sem, Nat.reduceAdd, Nat.reduceSub, Nat.reduceMul, Nat.reduceEqDiff, Nat.reduceBEq, Nat.reduceLT, Nat.reduceLeDiff, Nat.reducePow, Int.reduceToNat, Int.reduceLT, Int.reduceLE, Int.reduceGT, Int.reduceGE, Int.reduceEq, Int.reduceNeg, Int.reduceAdd, Int.reduceSub, ↓reduceIte, reduceCtorEq, rs, wa, rd, hz, t1, w1, t2, dd, w2, sSign_run x, hsg, hf]
theorem part3_ok : SpecOk Try.prog 52 sPart := specC_ok mixed G4_ok T4_ok fun x hp => ⟨0, 1, ePart3 x.1 x.2 hp⟩
/-! ### Pull -/
noncomputable def pull (v : Vec) : Vec := if okV 4194304 v = true then (if isqrt (v.1 * v.1 + v.2.1 * v.2.1 + v.2.2 * v.2.2) < 65536 then (0, 0, 0) else (plx (isqrt (v.1 * v.1 + v.2.1 * v.2.1 + v.2.2 * v.2.2)) v.1, plx (isqrt (v.1 * v.1 + v.2.1 * v.2.1 + v.2.2 * v.2.2)) v.2.1, plx (isqrt (v.1 * v.1 + v.2.1 * v.2.1 + v.2.2 * v.2.2)) v.2.2)) else (0, 0, 0)
noncomputable def sPull : Ev.Spec := specC (cOne cV) (fun _ => True) fun v => [vD (pull v)]
theorem sPull_run (x y z : Int) : sPull.run [.agg 23 [.int .i64 x, .int .i64 y, .int .i64 z]] = some [vD (pull (x, y, z))] := specC_run (cOne cV) _ _ (x, y, z) trivial
theorem okV_spec {m : Int} {v : Vec} (h : okV m v = true) : (-m ≤ v.1 ∧ v.1 ≤ m) ∧ (-m ≤ v.2.1 ∧ v.2.1 ≤ m) ∧ (-m ≤ v.2.2 ∧ v.2.2 ≤ m) := by
  simp [okV, inn] at h; omega
theorem sq_bound {x : Int} (h0 : -4194304 ≤ x) (h1 : x ≤ 4194304) : 0 ≤ x * x ∧ x * x ≤ 17592186044416 := by
  refine ⟨?_, ?_⟩
  · rcases Int.le_total 0 x with h | h
    · exact Int.mul_nonneg h h
    · exact Int.mul_nonneg_of_nonpos_of_nonpos h h
  · rcases Int.le_total 0 x with h | h
    · exact Int.mul_le_mul h1 h1 h (by omega)
    · have : (-x) * (-x) ≤ 4194304 * 4194304 := Int.mul_le_mul (by omega) (by omega) (by omega) (by omega)
      rw [Int.neg_mul_neg] at this; exact this
noncomputable def G5A : Specs := [(46, sIn), (47, sSqrt), (48, sPart)]
noncomputable def T5A : Table := tableOf [(15, en15)]
theorem G5A_ok : ∀ g s, Ev.look G5A g = some s → SpecOk Try.prog g s := specs_cons within_ok (specs_cons sSqrt_ok (specs_cons sPart_ok specs_nil))
theorem T5A_ok : TableOk Try.prog (G5A.map (·.1)) T5A := (table_cons Try.func15 (by kernel_rfl) (by kernel_rfl) table_nil)
theorem ePullA (x y z : Int) : evTop Try.prog G5A T5A 0 1 15 [.agg 23 [.int .i64 x, .int .i64 y, .int .i64 z]] = some [vD (pull (x, y, z))] := by
  unfold evTop
  simp only [List.map]
  rw [evF_s (fn := Try.f15) (msk := en15.ms) (hT := by rfl) (hb := by rfl)]
  have ri := sIn_run x y z 4194304 (by decide) (by decide)
  by_cases h1 : okV 4194304 (x, y, z) = true
  · obtain ⟨⟨x0, x1⟩, ⟨y0, y1⟩, z0, z1⟩ := okV_spec h1
    simp only at x0 x1 y0 y1 z0 z1
    obtain ⟨p0, p1⟩ := sq_bound x0 x1
    obtain ⟨q0, q1⟩ := sq_bound y0 y1
    obtain ⟨r0, r1⟩ := sq_bound z0 z1
    have w1 : IntKind.i64.wrap (x * x) = x * x := wi_in (by omega) (by omega)
    have w2 : IntKind.i64.wrap (y * y) = y * y := wi_in (by omega) (by omega)
    have w3 : IntKind.i64.wrap (z * z) = z * z := wi_in (by omega) (by omega)
    have w4 : IntKind.i64.wrap (x * x + y * y) = x * x + y * y := wi_in (by omega) (by omega)
    have w5 : IntKind.i64.wrap (x * x + y * y + z * z) = x * x + y * y + z * z := wi_in (by omega) (by omega)
    have rq := sSqrt_run (x * x + y * y + z * z) ⟨by omega, by omega⟩
    rw [show rootR (x * x + y * y + z * z) 1 = isqrt (x * x + y * y + z * z) by rw [rootR, if_neg (by omega), if_neg (by decide), Int.mul_one]] at rq
    have hs := isqrt_spec (n := x * x + y * y + z * z) (by omega)
    have hlt : isqrt (x * x + y * y + z * z) < 1073741824 := sq_lt hs.1 (by have := hs.2.1; omega) (by decide)
    rw [pull, if_pos h1]
    generalize hr : isqrt (x * x + y * y + z * z) = r at *
    by_cases h2 : r < 65536
    · rw [if_pos h2]
      simp only [Try.f15, G5A, go_sem, Nat.reduceAdd, Nat.reduceSub, Nat.reduceMul, Nat.reduceEqDiff, Nat.reduceBEq, Nat.reduceLT, Nat.reduceLeDiff, Nat.reducePow, Int.reduceToNat, Int.reduceLT, Int.reduceLE, Int.reduceGT, Int.reduceGE, Int.reduceEq, Int.reduceNeg, Int.reduceAdd, Int.reduceSub, ↓reduceIte, reduceCtorEq, ri, h1, w1, w2, w3, w4, w5, rq, h2, vD]
    · rw [if_neg h2]
      have c1 := sPart_run x r ⟨by omega, by omega, by omega, hlt⟩
      have c2 := sPart_run y r ⟨by omega, by omega, by omega, hlt⟩
      have c3 := sPart_run z r ⟨by omega, by omega, by omega, hlt⟩
      simp only [Try.f15, G5A, go_sem, Nat.reduceAdd, Nat.reduceSub, Nat.reduceMul, Nat.reduceEqDiff, Nat.reduceBEq, Nat.reduceLT, Nat.reduceLeDiff, Nat.reducePow, Int.reduceToNat, Int.reduceLT, Int.reduceLE, Int.reduceGT, Int.reduceGE, Int.reduceEq, Int.reduceNeg, Int.reduceAdd, Int.reduceSub, ↓reduceIte, reduceCtorEq, ri, h1, w1, w2, w3, w4, w5, rq, h2, c1, c2, c3, vD]
  · rw [pull, if_neg h1]
    have h1' : okV 4194304 (x, y, z) = false := by simpa using h1
    simp only [Try.f15, G5A, go_sem, Nat.reduceAdd, Nat.reduceSub, Nat.reduceMul, Nat.reduceEqDiff, Nat.reduceBEq, Nat.reduceLT, Nat.reduceLeDiff, Nat.reducePow, Int.reduceToNat, Int.reduceLT, Int.reduceLE, Int.reduceGT, Int.reduceGE, Int.reduceEq, Int.reduceNeg, Int.reduceAdd, Int.reduceSub, ↓reduceIte, reduceCtorEq, ri, h1', vD]
theorem pullA_ok : SpecOk Try.prog 15 sPull := specC_ok mixed G5A_ok T5A_ok fun x _ => ⟨0, 1, ePullA x.1 x.2.1 x.2.2⟩
#print axioms pullA_ok
noncomputable def G5B : Specs := [(50, sIn), (51, sRoot), (52, sPart)]
noncomputable def T5B : Table := tableOf [(16, en16)]
theorem G5B_ok : ∀ g s, Ev.look G5B g = some s → SpecOk Try.prog g s := specs_cons inside_ok (specs_cons sRoot_ok (specs_cons part3_ok specs_nil))
theorem T5B_ok : TableOk Try.prog (G5B.map (·.1)) T5B := (table_cons Try.func16 (by kernel_rfl) (by kernel_rfl) table_nil)
theorem ePullB (x y z : Int) : evTop Try.prog G5B T5B 0 1 16 [.agg 23 [.int .i64 x, .int .i64 y, .int .i64 z]] = some [vD (pull (x, y, z))] := by
  unfold evTop
  simp only [List.map]
  rw [evF_s (fn := Try.f16) (msk := en16.ms) (hT := by rfl) (hb := by rfl)]
  have ri := sIn_run x y z 4194304 (by decide) (by decide)
  by_cases h1 : okV 4194304 (x, y, z) = true
  · obtain ⟨⟨x0, x1⟩, ⟨y0, y1⟩, z0, z1⟩ := okV_spec h1
    simp only at x0 x1 y0 y1 z0 z1
    obtain ⟨p0, p1⟩ := sq_bound x0 x1
    obtain ⟨q0, q1⟩ := sq_bound y0 y1
    obtain ⟨r0, r1⟩ := sq_bound z0 z1
    have w1 : IntKind.i64.wrap (x * x) = x * x := wi_in (by omega) (by omega)
    have w2 : IntKind.i64.wrap (y * y) = y * y := wi_in (by omega) (by omega)
    have w3 : IntKind.i64.wrap (z * z) = z * z := wi_in (by omega) (by omega)
    have w4 : IntKind.i64.wrap (x * x + y * y) = x * x + y * y := wi_in (by omega) (by omega)
    have w5 : IntKind.i64.wrap (x * x + y * y + z * z) = x * x + y * y + z * z := wi_in (by omega) (by omega)
    have rq := sRoot_run (x * x + y * y + z * z) 1 ⟨by omega, by omega, by decide, by decide⟩
    rw [Int.mul_one] at rq
    have hs := isqrt_spec (n := x * x + y * y + z * z) (by omega)
    have hlt : isqrt (x * x + y * y + z * z) < 1073741824 := sq_lt hs.1 (by have := hs.2.1; omega) (by decide)
    rw [pull, if_pos h1]
    generalize hr : isqrt (x * x + y * y + z * z) = r at *
    by_cases h2 : r < 65536
    · rw [if_pos h2]
      simp only [Try.f16, G5B, go_sem, Nat.reduceAdd, Nat.reduceSub, Nat.reduceMul, Nat.reduceEqDiff, Nat.reduceBEq, Nat.reduceLT, Nat.reduceLeDiff, Nat.reducePow, Int.reduceToNat, Int.reduceLT, Int.reduceLE, Int.reduceGT, Int.reduceGE, Int.reduceEq, Int.reduceNeg, Int.reduceAdd, Int.reduceSub, ↓reduceIte, reduceCtorEq, ri, h1, w1, w2, w3, w4, w5, rq, h2, vD]
    · rw [if_neg h2]
      have c1 := sPart_run x r ⟨by omega, by omega, by omega, hlt⟩
      have c2 := sPart_run y r ⟨by omega, by omega, by omega, hlt⟩
      have c3 := sPart_run z r ⟨by omega, by omega, by omega, hlt⟩
      simp only [Try.f16, G5B, go_sem, Nat.reduceAdd, Nat.reduceSub, Nat.reduceMul, Nat.reduceEqDiff, Nat.reduceBEq, Nat.reduceLT, Nat.reduceLeDiff, Nat.reducePow, Int.reduceToNat, Int.reduceLT, Int.reduceLE, Int.reduceGT, Int.reduceGE, Int.reduceEq, Int.reduceNeg, Int.reduceAdd, Int.reduceSub, ↓reduceIte, reduceCtorEq, ri, h1, w1, w2, w3, w4, w5, rq, h2, c1, c2, c3, vD]
  · rw [pull, if_neg h1]
    have h1' : okV 4194304 (x, y, z) = false := by simpa using h1
    simp only [Try.f16, G5B, go_sem, Nat.reduceAdd, Nat.reduceSub, Nat.reduceMul, Nat.reduceEqDiff, Nat.reduceBEq, Nat.reduceLT, Nat.reduceLeDiff, Nat.reducePow, Int.reduceToNat, Int.reduceLT, Int.reduceLE, Int.reduceGT, Int.reduceGE, Int.reduceEq, Int.reduceNeg, Int.reduceAdd, Int.reduceSub, ↓reduceIte, reduceCtorEq, ri, h1', vD]
theorem pullB_ok : SpecOk Try.prog 16 sPull := specC_ok mixed G5B_ok T5B_ok fun x _ => ⟨0, 1, ePullB x.1 x.2.1 x.2.2⟩
#print axioms pullB_ok
/-! ### Step -/
theorem plx_bounds {x r : Int} (h : PP x r) : -576460752303423488 ≤ plx r x ∧ plx r x ≤ 576460752303423488 := by
  obtain ⟨x0, x1, r0, r1⟩ := h
  unfold plx
  split
  · obtain ⟨b0, b1, b2, b3, b4, b5⟩ := part_bounds (a := x) (by omega) x1 r0 r1
    omega
  · obtain ⟨b0, b1, b2, b3, b4, b5⟩ := part_bounds (a := -x) (by omega) (by omega) r0 r1
    omega
theorem pull_bounds (v : Vec) : -576460752303423488 ≤ (pull v).1 ∧ (pull v).1 ≤ 576460752303423488 ∧ -576460752303423488 ≤ (pull v).2.1 ∧ (pull v).2.1 ≤ 576460752303423488 ∧ -576460752303423488 ≤ (pull v).2.2 ∧ (pull v).2.2 ≤ 576460752303423488 := by
  obtain ⟨x, y, z⟩ := v
  unfold pull
  by_cases h1 : okV 4194304 (x, y, z) = true
  · rw [if_pos h1]
    obtain ⟨⟨x0, x1⟩, ⟨y0, y1⟩, z0, z1⟩ := okV_spec h1
    simp only at x0 x1 y0 y1 z0 z1
    obtain ⟨p0, p1⟩ := sq_bound x0 x1
    obtain ⟨q0, q1⟩ := sq_bound y0 y1
    obtain ⟨r0, r1⟩ := sq_bound z0 z1
    have hs := isqrt_spec (n := x * x + y * y + z * z) (by omega)
    have hlt : isqrt (x * x + y * y + z * z) < 1073741824 := sq_lt hs.1 (by have := hs.2.1; omega) (by decide)
    simp only
    generalize isqrt (x * x + y * y + z * z) = r at *
    by_cases h2 : r < 65536
    · rw [if_pos h2]; simp
    · rw [if_neg h2]
      have e1 := plx_bounds (x := x) (r := r) ⟨by omega, by omega, by omega, hlt⟩
      have e2 := plx_bounds (x := y) (r := r) ⟨by omega, by omega, by omega, hlt⟩
      have e3 := plx_bounds (x := z) (r := r) ⟨by omega, by omega, by omega, hlt⟩
      exact ⟨e1.1, e1.2, e2.1, e2.2, e3.1, e3.2⟩
  · rw [if_neg h1]; simp
/-- The place a day on, and the error. -/
noncomputable def stepR (was here : Vec) : Vec × Int := if okV 4194304 was = true then (if okV 4194304 here = true then (if okV 4194304 (2 * here.1 - was.1 + (pull here).1, 2 * here.2.1 - was.2.1 + (pull here).2.1, 2 * here.2.2 - was.2.2 + (pull here).2.2) = true then ((2 * here.1 - was.1 + (pull here).1, 2 * here.2.1 - was.2.1 + (pull here).2.1, 2 * here.2.2 - was.2.2 + (pull here).2.2), 0) else ((0, 0, 0), 18)) else ((0, 0, 0), 4)) else ((0, 0, 0), 4)
noncomputable def sStep : Ev.Spec := specC (cCons cV (cOne cV)) (fun _ => True) fun v => [vD (stepR v.1 v.2).1, .int .i64 (stepR v.1 v.2).2]
theorem sStep_run (a b c x y z : Int) : sStep.run [.agg 23 [.int .i64 a, .int .i64 b, .int .i64 c], .agg 23 [.int .i64 x, .int .i64 y, .int .i64 z]] = some [vD (stepR (a, b, c) (x, y, z)).1, .int .i64 (stepR (a, b, c) (x, y, z)).2] := specC_run (cCons cV (cOne cV)) _ _ ((a, b, c), (x, y, z)) trivial
noncomputable def G6A : Specs := [(46, sIn), (15, sPull)]
noncomputable def T6A : Table := tableOf [(17, en17)]
theorem G6A_ok : ∀ g s, Ev.look G6A g = some s → SpecOk Try.prog g s := specs_cons within_ok (specs_cons pullA_ok specs_nil)
theorem T6A_ok : TableOk Try.prog (G6A.map (·.1)) T6A := (table_cons Try.func17 (by kernel_rfl) (by kernel_rfl) table_nil)
theorem eStepA (a b c x y z : Int) : evTop Try.prog G6A T6A 0 1 17 [.agg 23 [.int .i64 a, .int .i64 b, .int .i64 c], .agg 23 [.int .i64 x, .int .i64 y, .int .i64 z]] = some [vD (stepR (a, b, c) (x, y, z)).1, .int .i64 (stepR (a, b, c) (x, y, z)).2] := by
  unfold evTop
  simp only [List.map]
  rw [evF_s (fn := Try.f17) (msk := en17.ms) (hT := by rfl) (hb := by rfl)]
  have r1 := sIn_run a b c 4194304 (by decide) (by decide)
  have r2 := sIn_run x y z 4194304 (by decide) (by decide)
  by_cases h1 : okV 4194304 (a, b, c) = true
  case neg =>
    have e : stepR (a, b, c) (x, y, z) = ((0, 0, 0), 4) := by rw [stepR, if_neg h1]
    have h1' : okV 4194304 (a, b, c) = false := by simpa using h1
    rw [e]
    simp only [Try.f17, G6A, go_sem, Nat.reduceAdd, Nat.reduceSub, Nat.reduceMul, Nat.reduceEqDiff, Nat.reduceBEq, Nat.reduceLT, Nat.reduceLeDiff, Nat.reducePow, Int.reduceToNat, Int.reduceLT, Int.reduceLE, Int.reduceGT, Int.reduceGE, Int.reduceEq, Int.reduceNeg, Int.reduceAdd, Int.reduceSub, ↓reduceIte, reduceCtorEq, r1, h1', vD]
  by_cases h2 : okV 4194304 (x, y, z) = true
  case neg =>
    have e : stepR (a, b, c) (x, y, z) = ((0, 0, 0), 4) := by rw [stepR, if_pos h1, if_neg h2]
    have h2' : okV 4194304 (x, y, z) = false := by simpa using h2
    rw [e]
    simp only [Try.f17, G6A, go_sem, Nat.reduceAdd, Nat.reduceSub, Nat.reduceMul, Nat.reduceEqDiff, Nat.reduceBEq, Nat.reduceLT, Nat.reduceLeDiff, Nat.reducePow, Int.reduceToNat, Int.reduceLT, Int.reduceLE, Int.reduceGT, Int.reduceGE, Int.reduceEq, Int.reduceNeg, Int.reduceAdd, Int.reduceSub, ↓reduceIte, reduceCtorEq, r1, h1, r2, h2', vD]
  obtain ⟨⟨x0, x1⟩, ⟨y0, y1⟩, z0, z1⟩ := okV_spec h2
  obtain ⟨⟨a0, a1⟩, ⟨b0, b1⟩, c0, c1⟩ := okV_spec h1
  simp only at x0 x1 y0 y1 z0 z1 a0 a1 b0 b1 c0 c1
  have rp := sPull_run x y z
  have pb := pull_bounds (x, y, z)
  unfold stepR
  rw [if_pos h1, if_pos h2]
  generalize hp : pull (x, y, z) = P at *
  obtain ⟨p, q, r⟩ := P
  simp only at pb
  obtain ⟨p0, p1, q0, q1, r0, r1'⟩ := pb
  have w1 : IntKind.i64.wrap (2 * x) = 2 * x := wi_in (by omega) (by omega)
  have v1 : IntKind.i64.wrap (2 * x - a) = 2 * x - a := wi_in (by omega) (by omega)
  have u1 : IntKind.i64.wrap (2 * x - a + p) = 2 * x - a + p := wi_in (by omega) (by omega)
  have w2 : IntKind.i64.wrap (2 * y) = 2 * y := wi_in (by omega) (by omega)
  have v2 : IntKind.i64.wrap (2 * y - b) = 2 * y - b := wi_in (by omega) (by omega)
  have u2 : IntKind.i64.wrap (2 * y - b + q) = 2 * y - b + q := wi_in (by omega) (by omega)
  have w3 : IntKind.i64.wrap (2 * z) = 2 * z := wi_in (by omega) (by omega)
  have v3 : IntKind.i64.wrap (2 * z - c) = 2 * z - c := wi_in (by omega) (by omega)
  have u3 : IntKind.i64.wrap (2 * z - c + r) = 2 * z - c + r := wi_in (by omega) (by omega)
  have r3 := sIn_run (2 * x - a + p) (2 * y - b + q) (2 * z - c + r) 4194304 (by decide) (by decide)
  unfold vD at rp
  by_cases h3 : okV 4194304 (2 * x - a + p, 2 * y - b + q, 2 * z - c + r) = true
  · rw [if_pos h3]
    simp only [Try.f17, G6A, go_sem, Nat.reduceAdd, Nat.reduceSub, Nat.reduceMul, Nat.reduceEqDiff, Nat.reduceBEq, Nat.reduceLT, Nat.reduceLeDiff, Nat.reducePow, Int.reduceToNat, Int.reduceLT, Int.reduceLE, Int.reduceGT, Int.reduceGE, Int.reduceEq, Int.reduceNeg, Int.reduceAdd, Int.reduceSub, ↓reduceIte, reduceCtorEq, r1, h1, r2, h2, rp, w1, v1, u1, w2, v2, u2, w3, v3, u3, r3, h3, vD]
  · rw [if_neg h3]
    have h3' : okV 4194304 (2 * x - a + p, 2 * y - b + q, 2 * z - c + r) = false := by simpa using h3
    simp only [Try.f17, G6A, go_sem, Nat.reduceAdd, Nat.reduceSub, Nat.reduceMul, Nat.reduceEqDiff, Nat.reduceBEq, Nat.reduceLT, Nat.reduceLeDiff, Nat.reducePow, Int.reduceToNat, Int.reduceLT, Int.reduceLE, Int.reduceGT, Int.reduceGE, Int.reduceEq, Int.reduceNeg, Int.reduceAdd, Int.reduceSub, ↓reduceIte, reduceCtorEq, r1, h1, r2, h2, rp, w1, v1, u1, w2, v2, u2, w3, v3, u3, r3, h3', vD]
theorem stepA_ok : SpecOk Try.prog 17 sStep := specC_ok mixed G6A_ok T6A_ok fun x _ => ⟨0, 1, eStepA x.1.1 x.1.2.1 x.1.2.2 x.2.1 x.2.2.1 x.2.2.2⟩
#print axioms stepA_ok
noncomputable def G6B : Specs := [(50, sIn), (16, sPull)]
noncomputable def T6B : Table := tableOf [(18, en18)]
theorem G6B_ok : ∀ g s, Ev.look G6B g = some s → SpecOk Try.prog g s := specs_cons inside_ok (specs_cons pullB_ok specs_nil)
theorem T6B_ok : TableOk Try.prog (G6B.map (·.1)) T6B := (table_cons Try.func18 (by kernel_rfl) (by kernel_rfl) table_nil)
theorem eStepB (a b c x y z : Int) : evTop Try.prog G6B T6B 0 1 18 [.agg 23 [.int .i64 a, .int .i64 b, .int .i64 c], .agg 23 [.int .i64 x, .int .i64 y, .int .i64 z]] = some [vD (stepR (a, b, c) (x, y, z)).1, .int .i64 (stepR (a, b, c) (x, y, z)).2] := by
  unfold evTop
  simp only [List.map]
  rw [evF_s (fn := Try.f18) (msk := en18.ms) (hT := by rfl) (hb := by rfl)]
  have r1 := sIn_run a b c 4194304 (by decide) (by decide)
  have r2 := sIn_run x y z 4194304 (by decide) (by decide)
  by_cases h1 : okV 4194304 (a, b, c) = true
  case neg =>
    have e : stepR (a, b, c) (x, y, z) = ((0, 0, 0), 4) := by rw [stepR, if_neg h1]
    have h1' : okV 4194304 (a, b, c) = false := by simpa using h1
    rw [e]
    simp only [Try.f18, G6B, go_sem, Nat.reduceAdd, Nat.reduceSub, Nat.reduceMul, Nat.reduceEqDiff, Nat.reduceBEq, Nat.reduceLT, Nat.reduceLeDiff, Nat.reducePow, Int.reduceToNat, Int.reduceLT, Int.reduceLE, Int.reduceGT, Int.reduceGE, Int.reduceEq, Int.reduceNeg, Int.reduceAdd, Int.reduceSub, ↓reduceIte, reduceCtorEq, r1, h1', vD]
  by_cases h2 : okV 4194304 (x, y, z) = true
  case neg =>
    have e : stepR (a, b, c) (x, y, z) = ((0, 0, 0), 4) := by rw [stepR, if_pos h1, if_neg h2]
    have h2' : okV 4194304 (x, y, z) = false := by simpa using h2
    rw [e]
    simp only [Try.f18, G6B, go_sem, Nat.reduceAdd, Nat.reduceSub, Nat.reduceMul, Nat.reduceEqDiff, Nat.reduceBEq, Nat.reduceLT, Nat.reduceLeDiff, Nat.reducePow, Int.reduceToNat, Int.reduceLT, Int.reduceLE, Int.reduceGT, Int.reduceGE, Int.reduceEq, Int.reduceNeg, Int.reduceAdd, Int.reduceSub, ↓reduceIte, reduceCtorEq, r1, h1, r2, h2', vD]
  obtain ⟨⟨x0, x1⟩, ⟨y0, y1⟩, z0, z1⟩ := okV_spec h2
  obtain ⟨⟨a0, a1⟩, ⟨b0, b1⟩, c0, c1⟩ := okV_spec h1
  simp only at x0 x1 y0 y1 z0 z1 a0 a1 b0 b1 c0 c1
  have rp := sPull_run x y z
  have pb := pull_bounds (x, y, z)
  unfold stepR
  rw [if_pos h1, if_pos h2]
  generalize hp : pull (x, y, z) = P at *
  obtain ⟨p, q, r⟩ := P
  simp only at pb
  obtain ⟨p0, p1, q0, q1, r0, r1'⟩ := pb
  have w1 : IntKind.i64.wrap (x - a) = x - a := wi_in (by omega) (by omega)
  have v1 : IntKind.i64.wrap (x - a + x) = 2 * x - a := by rw [wi_in (by omega) (by omega)]; omega
  have u1 : IntKind.i64.wrap (2 * x - a + p) = 2 * x - a + p := wi_in (by omega) (by omega)
  have w2 : IntKind.i64.wrap (y - b) = y - b := wi_in (by omega) (by omega)
  have v2 : IntKind.i64.wrap (y - b + y) = 2 * y - b := by rw [wi_in (by omega) (by omega)]; omega
  have u2 : IntKind.i64.wrap (2 * y - b + q) = 2 * y - b + q := wi_in (by omega) (by omega)
  have w3 : IntKind.i64.wrap (z - c) = z - c := wi_in (by omega) (by omega)
  have v3 : IntKind.i64.wrap (z - c + z) = 2 * z - c := by rw [wi_in (by omega) (by omega)]; omega
  have u3 : IntKind.i64.wrap (2 * z - c + r) = 2 * z - c + r := wi_in (by omega) (by omega)
  have r3 := sIn_run (2 * x - a + p) (2 * y - b + q) (2 * z - c + r) 4194304 (by decide) (by decide)
  unfold vD at rp
  by_cases h3 : okV 4194304 (2 * x - a + p, 2 * y - b + q, 2 * z - c + r) = true
  · rw [if_pos h3]
    simp only [Try.f18, G6B, go_sem, Nat.reduceAdd, Nat.reduceSub, Nat.reduceMul, Nat.reduceEqDiff, Nat.reduceBEq, Nat.reduceLT, Nat.reduceLeDiff, Nat.reducePow, Int.reduceToNat, Int.reduceLT, Int.reduceLE, Int.reduceGT, Int.reduceGE, Int.reduceEq, Int.reduceNeg, Int.reduceAdd, Int.reduceSub, ↓reduceIte, reduceCtorEq, r1, h1, r2, h2, rp, w1, v1, u1, w2, v2, u2, w3, v3, u3, r3, h3, vD]
  · rw [if_neg h3]
    have h3' : okV 4194304 (2 * x - a + p, 2 * y - b + q, 2 * z - c + r) = false := by simpa using h3
    simp only [Try.f18, G6B, go_sem, Nat.reduceAdd, Nat.reduceSub, Nat.reduceMul, Nat.reduceEqDiff, Nat.reduceBEq, Nat.reduceLT, Nat.reduceLeDiff, Nat.reducePow, Int.reduceToNat, Int.reduceLT, Int.reduceLE, Int.reduceGT, Int.reduceGE, Int.reduceEq, Int.reduceNeg, Int.reduceAdd, Int.reduceSub, ↓reduceIte, reduceCtorEq, r1, h1, r2, h2, rp, w1, v1, u1, w2, v2, u2, w3, v3, u3, r3, h3', vD]
theorem stepB_ok : SpecOk Try.prog 18 sStep := specC_ok mixed G6B_ok T6B_ok fun x _ => ⟨0, 1, eStepB x.1.1 x.1.2.1 x.1.2.2 x.2.1 x.2.2.1 x.2.2.2⟩
#print axioms stepB_ok
end Go.Proofs.YtmhjmjodchbhlaaR.Pull2Pull
end
section
set_option maxRecDepth 100000
namespace Go.Proofs.YtmhjmjodchbhlaaR.FxPath
open Go.Ev
theorem tk2 : tk Try.prog 2 = .one := by kernel_rfl
theorem ik2 : intK Try.prog 2 = some .i64 := by kernel_rfl
theorem ek2 : ek Try.prog 2 = .int := by kernel_rfl
theorem zv2 : zeroV Try.prog 2 = some (.d (.int .i64 0)) := by kernel_rfl
theorem tk3 : tk Try.prog 3 = .one := by kernel_rfl
theorem ik3 : intK Try.prog 3 = some .i64 := by kernel_rfl
theorem ek3 : ek Try.prog 3 = .int := by kernel_rfl
theorem zv3 : zeroV Try.prog 3 = some (.d (.int .i64 0)) := by kernel_rfl
theorem tk4 : tk Try.prog 4 = .one := by kernel_rfl
theorem ub4 : Try.prog.underlying 4 = some .bool := by kernel_rfl
theorem zv4 : zeroV Try.prog 4 = some (.d (.bool false)) := by kernel_rfl
theorem tk23 : tk Try.prog 23 = .agg 3 false := by kernel_rfl
theorem ct23 : compTs Try.prog 23 = [2, 2, 2] := by kernel_rfl
theorem ek23 : ek Try.prog 23 = .agg := by kernel_rfl
theorem zv23 : zeroV Try.prog 23 = some (.d (.agg 23 [.int .i64 0, .int .i64 0, .int .i64 0])) := by kernel_rfl
theorem tk27 : tk Try.prog 27 = .one := by kernel_rfl
theorem ik27 : intK Try.prog 27 = some .i64 := by kernel_rfl
theorem zv27 : zeroV Try.prog 27 = some (.d (.int .i64 0)) := by kernel_rfl
theorem tk37 : tk Try.prog 37 = .one := by kernel_rfl
theorem ik37 : intK Try.prog 37 = some .i64 := by kernel_rfl
theorem zv37 : zeroV Try.prog 37 = some (.d (.int .i64 0)) := by kernel_rfl
theorem tk39 : tk Try.prog 39 = .agg 4 false := by kernel_rfl
theorem ct39 : compTs Try.prog 39 = [3, 23, 23, 37] := by kernel_rfl
theorem zv39 : zeroV Try.prog 39 = some (.d (.agg 39 [.int .i64 0, .agg 23 [.int .i64 0, .int .i64 0, .int .i64 0], .agg 23 [.int .i64 0, .int .i64 0, .int .i64 0], .int .i64 0])) := by kernel_rfl
theorem tk103 : tk Try.prog 103 = .one := by kernel_rfl
theorem mt103 : mapT Try.prog 103 = some (3, 23) := by kernel_rfl
theorem sm103 : szOf Try.prog (mapE 103) = 0 := by kernel_rfl
theorem zw23 : zeroW Try.prog 23 = some (.d (.agg 23 [.int .i64 0, .int .i64 0, .int .i64 0])) := by kernel_rfl
theorem zv103 : zeroV Try.prog 103 = some (.jk) := by kernel_rfl
noncomputable def en6 : Entry := ⟨Try.f6, [(1000000, [false, false, false, false, true, false, false, false, false, false, false, false, false, false, false, false, false, false, false, false, false, false, false, false, false, false, false, false, false, false, false, false, false, false, false, false, false, false, false, false, false])]⟩
theorem mk6_1000000 (vs : List V) : mask (maskOf en6.ms 1000000) vs = mask [false, false, false, false, true, false, false, false, false, false, false, false, false, false, false, false, false, false, false, false, false, false, false, false, false, false, false, false, false, false, false, false, false, false, false, false, false, false, false, false, false] vs := nr rfl
def hr6 (t4 : V) : List V := [.und, .und, .und, .und, t4, .und, .und, .und, .und, .und, .und, .und, .und, .und, .und, .und, .und, .und, .und, .und, .und, .und, .und, .und, .und, .und, .und, .und, .und, .und, .und, .und, .und, .und, .und, .und, .und, .und, .und, .und, .und]
noncomputable def en22 : Entry := ⟨Try.f22, [(0, [false, true, false, false, true, true, true, true, false, false, false, false, false, false, false, false, false, false, false, false, false, false, false, false, false, false, false, false, false, false, false, false, false, false, false, false, false, false, false, false, false, false, false, false, false, false, false, false, false, false, false, false, false, false, false, false, false, false, false, false, false, false, false, false, false, false, false, false, false, false, false, false, false]), (2, [false, false, false, false, true, true, true, false, false, false, true, false, false, false, false, false, false, false, false, false, false, false, false, false, false, false, false, false, false, false, false, false, false, false, false, false, false, false, false, false, false, false, false, false, false, false, false, false, false, false, false, false, false, false, false, false, false, false, false, false, false, false, false, false, false, false, false, false, false, false, false, false, false]), (1000001, [false, true, false, false, true, true, true, false, false, false, false, false, false, false, false, false, false, false, false, false, false, false, false, false, false, false, false, false, false, false, false, false, false, false, false, false, false, false, false, false, false, false, false, false, false, false, false, false, false, false, false, false, false, false, false, false, false, false, false, false, false, false, false, false, false, false, false, false, false, false, false, false, false]), (1000002, [false, true, false, false, true, true, true, true, false, false, false, false, false, false, false, false, false, false, false, false, false, false, false, false, false, false, false, false, false, false, false, false, false, false, false, false, false, false, false, false, false, false, false, false, false, false, false, false, false, false, false, false, false, false, false, false, false, false, false, false, false, false, false, false, false, false, false, false, false, false, false, false, false]), (1000003, [false, false, false, false, true, true, true, false, false, false, false, false, false, false, false, false, false, false, false, false, false, false, false, false, false, false, false, false, false, false, false, false, false, false, false, false, false, false, false, false, false, false, false, false, false, false, false, false, false, false, false, false, false, false, false, false, false, false, false, false, false, false, false, false, false, false, false, false, false, false, false, false, false]), (1000004, [false, false, false, false, true, true, true, false, false, false, true, false, false, false, false, false, false, false, false, false, false, false, false, false, false, false, false, false, false, false, false, false, false, false, false, false, false, false, false, false, false, false, false, false, false, false, false, false, false, false, false, false, false, false, false, false, false, false, false, false, false, false, false, false, false, false, false, false, false, false, false, false, false]), (1000000, [false, false, false, false, true, true, true, false, false, false, false, false, false, false, false, false, false, false, false, false, false, false, false, false, false, false, false, false, false, false, false, false, false, false, false, false, false, false, false, false, false, false, false, false, false, false, false, false, false, false, false, false, false, false, false, false, false, false, false, false, false, false, false, false, false, false, false, false, false, false, false, false, false]), (3000003, [false, false, true, false, true, false, false, false, false, false, false, false, false, false, false, false, false, false, false, false, false, false, false, false, false, false, false, false, false, false, false, false, false, false, false, false, false, false, false, false, false, false, false, false, false, false, false, false, false, false, false, false, false, false, false, false, false, false, false, false, false, false, false, false, false, false, false, false, false, false, false, false, false]), (4000003, [false, false, false, false, false, false, false, false, false, false, false, false, false, false, false, false, false, false, false, false, false, false, false, false, false, false, true, false, true, false, false, false, false, false, false, false, false, false, false, false, false, false, false, false, false, false, false, false, false, false, false, false, false, false, false, false, false, false, false, false, false, false, false, false, false, false, false, false, false, false, false, false, false]), (3000008, [false, false, false, false, true, false, false, false, true, false, false, false, false, false, false, false, false, false, false, false, false, false, false, false, false, false, false, false, false, false, false, false, false, false, false, false, false, false, false, false, false, false, false, false, false, false, false, false, false, false, false, false, false, false, false, false, false, false, false, false, false, false, false, false, false, false, false, false, false, false, false, false, false]), (4000008, [false, false, false, false, false, false, false, false, false, false, false, false, false, false, false, false, false, false, false, false, false, false, false, false, false, false, false, false, false, false, false, false, false, false, false, false, false, false, false, false, false, false, false, false, false, false, false, true, false, false, false, false, false, false, false, false, false, false, false, false, false, false, false, false, false, false, false, false, false, false, false, false, false]), (3000016, [false, false, false, false, true, true, false, false, false, false, false, false, false, false, false, false, false, false, false, false, false, false, false, false, false, false, false, false, false, false, false, false, false, false, false, false, false, false, false, false, false, false, false, false, false, false, false, false, false, false, false, false, false, false, false, false, false, false, false, false, false, false, false, false, false, false, false, false, false, false, false, false, false]), (4000016, [false, false, false, false, false, false, false, false, false, false, false, false, false, false, false, false, false, false, false, false, false, false, false, false, false, false, false, false, false, false, false, false, false, false, false, false, false, false, false, false, false, false, false, false, false, false, false, false, false, false, false, false, false, false, false, false, false, false, false, false, false, false, false, false, false, false, false, false, false, false, false, false, false])]⟩
theorem dw22_3 (env : List V) (o : Option (List V × Store)) : drawR en22.ms 3 env o = if apartAll (sel [false, false, true, false, true, false, false, false, false, false, false, false, false, false, false, false, false, false, false, false, false, false, false, false, false, false, false, false, false, false, false, false, false, false, false, false, false, false, false, false, false, false, false, false, false, false, false, false, false, false, false, false, false, false, false, false, false, false, false, false, false, false, false, false, false, false, false, false, false, false, false, false, false] env) = true ∧ freeAll (sel [false, false, false, false, false, false, false, false, false, false, false, false, false, false, false, false, false, false, false, false, false, false, false, false, false, false, true, false, true, false, false, false, false, false, false, false, false, false, false, false, false, false, false, false, false, false, false, false, false, false, false, false, false, false, false, false, false, false, false, false, false, false, false, false, false, false, false, false, false, false, false, false, false] env) = true then o else none := nr rfl
theorem nc22_3 : ncOf en22.ms 3 = false := nr rfl
theorem dw22_8 (env : List V) (o : Option (List V × Store)) : drawR en22.ms 8 env o = if apartAll (sel [false, false, false, false, true, false, false, false, true, false, false, false, false, false, false, false, false, false, false, false, false, false, false, false, false, false, false, false, false, false, false, false, false, false, false, false, false, false, false, false, false, false, false, false, false, false, false, false, false, false, false, false, false, false, false, false, false, false, false, false, false, false, false, false, false, false, false, false, false, false, false, false, false] env) = true ∧ freeAll (sel [false, false, false, false, false, false, false, false, false, false, false, false, false, false, false, false, false, false, false, false, false, false, false, false, false, false, false, false, false, false, false, false, false, false, false, false, false, false, false, false, false, false, false, false, false, false, false, true, false, false, false, false, false, false, false, false, false, false, false, false, false, false, false, false, false, false, false, false, false, false, false, false, false] env) = true then o else none := nr rfl
theorem nc22_8 : ncOf en22.ms 8 = false := nr rfl
theorem dw22_16 (env : List V) (o : Option (List V × Store)) : drawR en22.ms 16 env o = if apartAll (sel [false, false, false, false, true, true, false, false, false, false, false, false, false, false, false, false, false, false, false, false, false, false, false, false, false, false, false, false, false, false, false, false, false, false, false, false, false, false, false, false, false, false, false, false, false, false, false, false, false, false, false, false, false, false, false, false, false, false, false, false, false, false, false, false, false, false, false, false, false, false, false, false, false] env) = true ∧ freeAll (sel [false, false, false, false, false, false, false, false, false, false, false, false, false, false, false, false, false, false, false, false, false, false, false, false, false, false, false, false, false, false, false, false, false, false, false, false, false, false, false, false, false, false, false, false, false, false, false, false, false, false, false, false, false, false, false, false, false, false, false, false, false, false, false, false, false, false, false, false, false, false, false, false, false] env) = true then o else none := nr rfl
theorem nc22_16 : ncOf en22.ms 16 = false := nr rfl
theorem mk22_0 (vs : List V) : mask (maskOf en22.ms 0) vs = mask [false, true, false, false, true, true, true, true, false, false, false, false, false, false, false, false, false, false, false, false, false, false, false, false, false, false, false, false, false, false, false, false, false, false, false, false, false, false, false, false, false, false, false, false, false, false, false, false, false, false, false, false, false, false, false, false, false, false, false, false, false, false, false, false, false, false, false, false, false, false, false, false, false] vs := nr rfl
theorem mk22_2 (vs : List V) : mask (maskOf en22.ms 2) vs = mask [false, false, false, false, true, true, true, false, false, false, true, false, false, false, false, false, false, false, false, false, false, false, false, false, false, false, false, false, false, false, false, false, false, false, false, false, false, false, false, false, false, false, false, false, false, false, false, false, false, false, false, false, false, false, false, false, false, false, false, false, false, false, false, false, false, false, false, false, false, false, false, false, false] vs := nr rfl
theorem mk22_1000001 (vs : List V) : mask (maskOf en22.ms 1000001) vs = mask [false, true, false, false, true, true, true, false, false, false, false, false, false, false, false, false, false, false, false, false, false, false, false, false, false, false, false, false, false, false, false, false, false, false, false, false, false, false, false, false, false, false, false, false, false, false, false, false, false, false, false, false, false, false, false, false, false, false, false, false, false, false, false, false, false, false, false, false, false, false, false, false, false] vs := nr rfl
theorem mk22_1000002 (vs : List V) : mask (maskOf en22.ms 1000002) vs = mask [false, true, false, false, true, true, true, true, false, false, false, false, false, false, false, false, false, false, false, false, false, false, false, false, false, false, false, false, false, false, false, false, false, false, false, false, false, false, false, false, false, false, false, false, false, false, false, false, false, false, false, false, false, false, false, false, false, false, false, false, false, false, false, false, false, false, false, false, false, false, false, false, false] vs := nr rfl
theorem mk22_1000003 (vs : List V) : mask (maskOf en22.ms 1000003) vs = mask [false, false, false, false, true, true, true, false, false, false, false, false, false, false, false, false, false, false, false, false, false, false, false, false, false, false, false, false, false, false, false, false, false, false, false, false, false, false, false, false, false, false, false, false, false, false, false, false, false, false, false, false, false, false, false, false, false, false, false, false, false, false, false, false, false, false, false, false, false, false, false, false, false] vs := nr rfl
theorem mk22_1000004 (vs : List V) : mask (maskOf en22.ms 1000004) vs = mask [false, false, false, false, true, true, true, false, false, false, true, false, false, false, false, false, false, false, false, false, false, false, false, false, false, false, false, false, false, false, false, false, false, false, false, false, false, false, false, false, false, false, false, false, false, false, false, false, false, false, false, false, false, false, false, false, false, false, false, false, false, false, false, false, false, false, false, false, false, false, false, false, false] vs := nr rfl
theorem mk22_1000000 (vs : List V) : mask (maskOf en22.ms 1000000) vs = mask [false, false, false, false, true, true, true, false, false, false, false, false, false, false, false, false, false, false, false, false, false, false, false, false, false, false, false, false, false, false, false, false, false, false, false, false, false, false, false, false, false, false, false, false, false, false, false, false, false, false, false, false, false, false, false, false, false, false, false, false, false, false, false, false, false, false, false, false, false, false, false, false, false] vs := nr rfl
noncomputable def lb22_0 : Code := loopN Try.f22 0
def hd22_0 (t1 t4 t5 t6 t7 : V) : List V := [.und, t1, .und, .und, t4, t5, t6, t7, .und, .und, .und, .und, .und, .und, .und, .und, .und, .und, .und, .und, .und, .und, .und, .und, .und, .und, .und, .und, .und, .und, .und, .und, .und, .und, .und, .und, .und, .und, .und, .und, .und, .und, .und, .und, .und, .und, .und, .und, .und, .und, .und, .und, .und, .und, .und, .und, .und, .und, .und, .und, .und, .und, .und, .und, .und, .und, .und, .und, .und, .und, .und, .und, .und]
noncomputable def lb22_2 : Code := loopN Try.f22 1
def hd22_2 (t4 t5 t6 t10 : V) : List V := [.und, .und, .und, .und, t4, t5, t6, .und, .und, .und, t10, .und, .und, .und, .und, .und, .und, .und, .und, .und, .und, .und, .und, .und, .und, .und, .und, .und, .und, .und, .und, .und, .und, .und, .und, .und, .und, .und, .und, .und, .und, .und, .und, .und, .und, .und, .und, .und, .und, .und, .und, .und, .und, .und, .und, .und, .und, .und, .und, .und, .und, .und, .und, .und, .und, .und, .und, .und, .und, .und, .und, .und, .und]
def hx22_0 (t1 t4 t5 t6 : V) : List V := [.und, t1, .und, .und, t4, t5, t6, .und, .und, .und, .und, .und, .und, .und, .und, .und, .und, .und, .und, .und, .und, .und, .und, .und, .und, .und, .und, .und, .und, .und, .und, .und, .und, .und, .und, .und, .und, .und, .und, .und, .und, .und, .und, .und, .und, .und, .und, .und, .und, .und, .und, .und, .und, .und, .und, .und, .und, .und, .und, .und, .und, .und, .und, .und, .und, .und, .und, .und, .und, .und, .und, .und, .und]
def hx22_1 (t1 t4 t5 t6 t7 : V) : List V := [.und, t1, .und, .und, t4, t5, t6, t7, .und, .und, .und, .und, .und, .und, .und, .und, .und, .und, .und, .und, .und, .und, .und, .und, .und, .und, .und, .und, .und, .und, .und, .und, .und, .und, .und, .und, .und, .und, .und, .und, .und, .und, .und, .und, .und, .und, .und, .und, .und, .und, .und, .und, .und, .und, .und, .und, .und, .und, .und, .und, .und, .und, .und, .und, .und, .und, .und, .und, .und, .und, .und, .und, .und]
def hx22_2 (t4 t5 t6 : V) : List V := [.und, .und, .und, .und, t4, t5, t6, .und, .und, .und, .und, .und, .und, .und, .und, .und, .und, .und, .und, .und, .und, .und, .und, .und, .und, .und, .und, .und, .und, .und, .und, .und, .und, .und, .und, .und, .und, .und, .und, .und, .und, .und, .und, .und, .und, .und, .und, .und, .und, .und, .und, .und, .und, .und, .und, .und, .und, .und, .und, .und, .und, .und, .und, .und, .und, .und, .und, .und, .und, .und, .und, .und, .und]
def hx22_3 (t4 t5 t6 t10 : V) : List V := [.und, .und, .und, .und, t4, t5, t6, .und, .und, .und, t10, .und, .und, .und, .und, .und, .und, .und, .und, .und, .und, .und, .und, .und, .und, .und, .und, .und, .und, .und, .und, .und, .und, .und, .und, .und, .und, .und, .und, .und, .und, .und, .und, .und, .und, .und, .und, .und, .und, .und, .und, .und, .und, .und, .und, .und, .und, .und, .und, .und, .und, .und, .und, .und, .und, .und, .und, .und, .und, .und, .und, .und, .und]
def hr22 (t4 t5 t6 : V) : List V := [.und, .und, .und, .und, t4, t5, t6, .und, .und, .und, .und, .und, .und, .und, .und, .und, .und, .und, .und, .und, .und, .und, .und, .und, .und, .und, .und, .und, .und, .und, .und, .und, .und, .und, .und, .und, .und, .und, .und, .und, .und, .und, .und, .und, .und, .und, .und, .und, .und, .und, .und, .und, .und, .und, .und, .und, .und, .und, .und, .und, .und, .und, .und, .und, .und, .und, .und, .und, .und, .und, .und, .und, .und]
noncomputable def en23 : Entry := ⟨Try.f23, [(1000000, [false, false, false, false, true, true, true, false, false, false, false, false, false, false, false, false, false, false, false, false, false, false, false, false, false, false, false, false, false, false, false, false, false, false, false, false, false, false, false, false, false, false, false, false, false, false, false]), (3000006, [false, false, false, false, true, false, false, true, false, false, false, false, false, false, false, false, false, false, false, false, false, false, false, false, false, false, false, false, false, false, false, false, false, false, false, false, false, false, false, false, false, false, false, false, false, false, false]), (4000006, [false, false, false, false, false, false, false, false, false, false, false, false, false, false, false, false, false, false, false, false, false, false, false, false, false, false, false, false, false, false, false, false, false, false, false, false, false, false, false, false, true, true, false, false, true, true, false])]⟩
theorem dw23_6 (env : List V) (o : Option (List V × Store)) : drawR en23.ms 6 env o = if apartAll (sel [false, false, false, false, true, false, false, true, false, false, false, false, false, false, false, false, false, false, false, false, false, false, false, false, false, false, false, false, false, false, false, false, false, false, false, false, false, false, false, false, false, false, false, false, false, false, false] env) = true ∧ freeAll (sel [false, false, false, false, false, false, false, false, false, false, false, false, false, false, false, false, false, false, false, false, false, false, false, false, false, false, false, false, false, false, false, false, false, false, false, false, false, false, false, false, true, true, false, false, true, true, false] env) = true then o else none := nr rfl
theorem nc23_6 : ncOf en23.ms 6 = false := nr rfl
theorem mk23_1000000 (vs : List V) : mask (maskOf en23.ms 1000000) vs = mask [false, false, false, false, true, true, true, false, false, false, false, false, false, false, false, false, false, false, false, false, false, false, false, false, false, false, false, false, false, false, false, false, false, false, false, false, false, false, false, false, false, false, false, false, false, false, false] vs := nr rfl
def hr23 (t4 t5 t6 : V) : List V := [.und, .und, .und, .und, t4, t5, t6, .und, .und, .und, .und, .und, .und, .und, .und, .und, .und, .und, .und, .und, .und, .und, .und, .und, .und, .und, .und, .und, .und, .und, .und, .und, .und, .und, .und, .und, .und, .und, .und, .und, .und, .und, .und, .und, .und, .und, .und]
noncomputable def en64 : Entry := ⟨Try.f64, [(1000000, [false, false, true, false, false, false, false, false, false, false, false])]⟩
theorem mk64_1000000 (vs : List V) : mask (maskOf en64.ms 1000000) vs = mask [false, false, true, false, false, false, false, false, false, false, false] vs := nr rfl
def hr64 (t2 : V) : List V := [.und, .und, t2, .und, .und, .und, .und, .und, .und, .und, .und]
noncomputable def en65 : Entry := ⟨Try.f65, [(0, [false, true, false, false, false, false, true, true, false, false, false, false, false, false, false, false, false, false, false, false, false, false, false, false, false, false, false, false, false, false, false, false, false, false, false, false, false, false, false, false, false, false, false, false, false, false, false, false, false, false, false, false, false, false, false, false, false, false, false, false, false, false, false, false, false, false, false]), (2, [false, true, false, false, false, false, true, false, false, false, true, false, false, false, false, false, false, false, false, false, false, false, false, false, false, false, false, false, false, false, false, false, false, false, false, false, false, false, false, false, false, false, false, false, false, false, false, false, false, false, false, false, false, false, false, false, false, false, false, false, false, false, false, false, false, false, false]), (1000001, [false, true, false, false, false, false, true, false, false, false, false, false, false, false, false, false, false, false, false, false, false, false, false, false, false, false, false, false, false, false, false, false, false, false, false, false, false, false, false, false, false, false, false, false, false, false, false, false, false, false, false, false, false, false, false, false, false, false, false, false, false, false, false, false, false, false, false]), (1000002, [false, true, false, false, false, false, true, true, false, false, false, false, false, false, false, false, false, false, false, false, false, false, false, false, false, false, false, false, false, false, false, false, false, false, false, false, false, false, false, false, false, false, false, false, false, false, false, false, false, false, false, false, false, false, false, false, false, false, false, false, false, false, false, false, false, false, false]), (1000003, [false, false, false, false, false, false, true, false, false, false, false, false, false, false, false, false, false, false, false, false, false, false, false, false, false, false, false, false, false, false, false, false, false, false, false, false, false, false, false, false, false, false, false, false, false, false, false, false, false, false, false, false, false, false, false, false, false, false, false, false, false, false, false, false, false, false, false]), (1000004, [false, true, false, false, false, false, true, false, false, false, true, false, false, false, false, false, false, false, false, false, false, false, false, false, false, false, false, false, false, false, false, false, false, false, false, false, false, false, false, false, false, false, false, false, false, false, false, false, false, false, false, false, false, false, false, false, false, false, false, false, false, false, false, false, false, false, false]), (1000000, [false, false, false, false, true, true, false, false, false, false, false, false, false, false, false, false, false, false, false, false, false, false, false, false, false, false, false, false, false, false, false, false, false, false, false, false, false, false, false, false, false, false, false, false, false, false, false, false, false, false, false, false, false, false, false, false, false, false, false, false, false, false, false, false, false, false, false])]⟩
theorem mk65_0 (vs : List V) : mask (maskOf en65.ms 0) vs = mask [false, true, false, false, false, false, true, true, false, false, false, false, false, false, false, false, false, false, false, false, false, false, false, false, false, false, false, false, false, false, false, false, false, false, false, false, false, false, false, false, false, false, false, false, false, false, false, false, false, false, false, false, false, false, false, false, false, false, false, false, false, false, false, false, false, false, false] vs := nr rfl
theorem mk65_2 (vs : List V) : mask (maskOf en65.ms 2) vs = mask [false, true, false, false, false, false, true, false, false, false, true, false, false, false, false, false, false, false, false, false, false, false, false, false, false, false, false, false, false, false, false, false, false, false, false, false, false, false, false, false, false, false, false, false, false, false, false, false, false, false, false, false, false, false, false, false, false, false, false, false, false, false, false, false, false, false, false] vs := nr rfl
theorem mk65_1000001 (vs : List V) : mask (maskOf en65.ms 1000001) vs = mask [false, true, false, false, false, false, true, false, false, false, false, false, false, false, false, false, false, false, false, false, false, false, false, false, false, false, false, false, false, false, false, false, false, false, false, false, false, false, false, false, false, false, false, false, false, false, false, false, false, false, false, false, false, false, false, false, false, false, false, false, false, false, false, false, false, false, false] vs := nr rfl
theorem mk65_1000002 (vs : List V) : mask (maskOf en65.ms 1000002) vs = mask [false, true, false, false, false, false, true, true, false, false, false, false, false, false, false, false, false, false, false, false, false, false, false, false, false, false, false, false, false, false, false, false, false, false, false, false, false, false, false, false, false, false, false, false, false, false, false, false, false, false, false, false, false, false, false, false, false, false, false, false, false, false, false, false, false, false, false] vs := nr rfl
theorem mk65_1000003 (vs : List V) : mask (maskOf en65.ms 1000003) vs = mask [false, false, false, false, false, false, true, false, false, false, false, false, false, false, false, false, false, false, false, false, false, false, false, false, false, false, false, false, false, false, false, false, false, false, false, false, false, false, false, false, false, false, false, false, false, false, false, false, false, false, false, false, false, false, false, false, false, false, false, false, false, false, false, false, false, false, false] vs := nr rfl
theorem mk65_1000004 (vs : List V) : mask (maskOf en65.ms 1000004) vs = mask [false, true, false, false, false, false, true, false, false, false, true, false, false, false, false, false, false, false, false, false, false, false, false, false, false, false, false, false, false, false, false, false, false, false, false, false, false, false, false, false, false, false, false, false, false, false, false, false, false, false, false, false, false, false, false, false, false, false, false, false, false, false, false, false, false, false, false] vs := nr rfl
theorem mk65_1000000 (vs : List V) : mask (maskOf en65.ms 1000000) vs = mask [false, false, false, false, true, true, false, false, false, false, false, false, false, false, false, false, false, false, false, false, false, false, false, false, false, false, false, false, false, false, false, false, false, false, false, false, false, false, false, false, false, false, false, false, false, false, false, false, false, false, false, false, false, false, false, false, false, false, false, false, false, false, false, false, false, false, false] vs := nr rfl
noncomputable def lb65_0 : Code := loopN Try.f65 0
def hd65_0 (t1 t6 t7 : V) : List V := [.und, t1, .und, .und, .und, .und, t6, t7, .und, .und, .und, .und, .und, .und, .und, .und, .und, .und, .und, .und, .und, .und, .und, .und, .und, .und, .und, .und, .und, .und, .und, .und, .und, .und, .und, .und, .und, .und, .und, .und, .und, .und, .und, .und, .und, .und, .und, .und, .und, .und, .und, .und, .und, .und, .und, .und, .und, .und, .und, .und, .und, .und, .und, .und, .und, .und, .und]
noncomputable def lb65_2 : Code := loopN Try.f65 1
def hd65_2 (t1 t6 t10 : V) : List V := [.und, t1, .und, .und, .und, .und, t6, .und, .und, .und, t10, .und, .und, .und, .und, .und, .und, .und, .und, .und, .und, .und, .und, .und, .und, .und, .und, .und, .und, .und, .und, .und, .und, .und, .und, .und, .und, .und, .und, .und, .und, .und, .und, .und, .und, .und, .und, .und, .und, .und, .und, .und, .und, .und, .und, .und, .und, .und, .und, .und, .und, .und, .und, .und, .und, .und, .und]
def hx65_0 (t1 t6 : V) : List V := [.und, t1, .und, .und, .und, .und, t6, .und, .und, .und, .und, .und, .und, .und, .und, .und, .und, .und, .und, .und, .und, .und, .und, .und, .und, .und, .und, .und, .und, .und, .und, .und, .und, .und, .und, .und, .und, .und, .und, .und, .und, .und, .und, .und, .und, .und, .und, .und, .und, .und, .und, .und, .und, .und, .und, .und, .und, .und, .und, .und, .und, .und, .und, .und, .und, .und, .und]
def hx65_1 (t1 t6 t7 : V) : List V := [.und, t1, .und, .und, .und, .und, t6, t7, .und, .und, .und, .und, .und, .und, .und, .und, .und, .und, .und, .und, .und, .und, .und, .und, .und, .und, .und, .und, .und, .und, .und, .und, .und, .und, .und, .und, .und, .und, .und, .und, .und, .und, .und, .und, .und, .und, .und, .und, .und, .und, .und, .und, .und, .und, .und, .und, .und, .und, .und, .und, .und, .und, .und, .und, .und, .und, .und]
def hx65_2 (t6 : V) : List V := [.und, .und, .und, .und, .und, .und, t6, .und, .und, .und, .und, .und, .und, .und, .und, .und, .und, .und, .und, .und, .und, .und, .und, .und, .und, .und, .und, .und, .und, .und, .und, .und, .und, .und, .und, .und, .und, .und, .und, .und, .und, .und, .und, .und, .und, .und, .und, .und, .und, .und, .und, .und, .und, .und, .und, .und, .und, .und, .und, .und, .und, .und, .und, .und, .und, .und, .und]
def hx65_3 (t1 t6 t10 : V) : List V := [.und, t1, .und, .und, .und, .und, t6, .und, .und, .und, t10, .und, .und, .und, .und, .und, .und, .und, .und, .und, .und, .und, .und, .und, .und, .und, .und, .und, .und, .und, .und, .und, .und, .und, .und, .und, .und, .und, .und, .und, .und, .und, .und, .und, .und, .und, .und, .und, .und, .und, .und, .und, .und, .und, .und, .und, .und, .und, .und, .und, .und, .und, .und, .und, .und, .und, .und]
def hr65 (t4 t5 : V) : List V := [.und, .und, .und, .und, t4, t5, .und, .und, .und, .und, .und, .und, .und, .und, .und, .und, .und, .und, .und, .und, .und, .und, .und, .und, .und, .und, .und, .und, .und, .und, .und, .und, .und, .und, .und, .und, .und, .und, .und, .und, .und, .und, .und, .und, .und, .und, .und, .und, .und, .und, .und, .und, .und, .und, .und, .und, .und, .und, .und, .und, .und, .und, .und, .und, .und, .und, .und]
theorem mixed : Try.prog.follows .mixedOrders = true := by kernel_rfl
end Go.Proofs.YtmhjmjodchbhlaaR.FxPath
end
section
set_option linter.unusedVariables false
set_option linter.unusedSimpArgs false
set_option maxRecDepth 100000
namespace Go.Proofs.YtmhjmjodchbhlaaR.PathPath
open Go.Ev Go.Ari Go.Proofs.YtmhjmjodchbhlaaR.FxPath Go.Proofs.YtmhjmjodchbhlaaR.PullPull Go.Proofs.YtmhjmjodchbhlaaR.Pull2Pull
attribute [local go_sem] Ev.putR_s Ev.putR_0 Ev.thenO_s Ev.thenO_0 Ev.seqR_n Ev.seqR_e Ev.seqR_r Ev.seqR_0 Ev.blkR_e Ev.blkR_n Ev.blkR_r Ev.blkR_0 Ev.normR_s Ev.normR_0 Ev.outR_r Ev.outR_n Ev.outR_0 Ev.retS_s Ev.retS_0 Ev.pureO_s Ev.pureO_0 Ev.topR_0 Ev.topR_t Ev.topR_t0 Ev.oneL_0 Ev.oneL_s Ev.topR_d Ev.topR_nils Ev.topR_agg Ev.topR_rs Ev.evOp_move Ev.evOp_assign Ev.evOp_pick Ev.evOp_alloc Ev.evOp_box Ev.evOp_build Ev.evOp_buildSlice Ev.evOp_load Ev.evOp_store Ev.evOp_makeMap Ev.evOp_lookup Ev.evOp_mapUpdate Ev.evOp_insert Ev.evOp_nilCheck Ev.evOp_binOp Ev.evOp_unOp Ev.evOp_convert Ev.evOp_makeFunc Ev.evOp_makeSlice Ev.evOp_slice Ev.evOp_fieldAddr Ev.evOp_field Ev.evOp_indexAddr Ev.evOp_index Ev.evOp_extract Ev.evOp_call Ev.evOp_append Ev.evOp_len Ev.evOp_min Ev.evOp_max Ev.condR_b Ev.condR_t Ev.evOps_nil Ev.evOps_plain Ev.evOps_guard Ev.runG_eq Ev.skipG_eq Ev.condL_tt Ev.condL_ff Ev.condL_tf Ev.condL_ft Ev.condL_u Ev.condC_t Ev.condC_f Ev.evC_skip Ev.evC_ret Ev.evC_exit Ev.evC_label Ev.evC_region Ev.evC_draw Ev.evC_seq Ev.evC_cond Ev.evC_block Ev.evC_loop Ev.fin_d Ev.fin_nils Ev.fin_agg_ Ev.fin_rs Ev.finS_s Ev.mapO_fin Ev.upd_upd Ev.argv_d Ev.argv_nils Ev.argv_agg Ev.argv_rs Ev.argv_p Ev.appendTo_nils Ev.appendTo_rs Ev.consV_d Ev.consV_agg Ev.consV_p Ev.consV_rs Ev.consV_nils Ev.consV_fn Ev.consV_und Ev.consV_jk Ev.consV_grown Ev.topR_grown Ev.len_grown Ev.consV_mp Ev.sameK_i Ev.sameK_s Ev.mget_0 Ev.mget_hit Ev.mget_miss Ev.mput_0 Ev.mput_hit Ev.mput_miss Ev.apartAll Ev.apartL Ev.apartV Ev.freeAll Ev.sel Ev.keyOfV Ev.evLookup Ev.evPut Ev.hintOk Ev.keyOk Ev.consP Ev.lookV Ev.guardV Ev.dstAt Ev.evPure Ev.evStore Ev.evPureB Ev.evBin Ev.evBinO Ev.evNil Ev.isNilC Ev.evUn Ev.evConv Ev.evSlice Ev.optI Ev.lenV Ev.elemT Ev.foldI Ev.capsOk Ev.noTup Ev.nth Ev.setN Ev.pad Ev.V.get Ev.V.put Ev.putD Ev.hasT Ev.newBlk Ev.upd Ev.keq Ev.empty Ev.evCall Ev.V.args Ev.argP Ev.callOf Ev.evNilP Ev.isNilP Ev.look Ev.V.view.views Ev.V.view Ev.V.toD Ev.V.toD.V.toDs Ev.V.pure.pures Ev.V.pure Ev.D.flat.flats Ev.D.flat Ev.mkAgg Ev.allD Ev.aggParts Ev.setParts Ev.setElems Ev.getPath Ev.setPath Ev.subL Ev.eqD Ev.eqD.eqDs Ev.and2 Ev.strCut Ev.evalT Ev.constT Ev.evArgs Ev.mask Ev.maskOf Ev.tableOf Ev.compT Ev.resV Ev.retV Ev.mapO Ev.elemsOf Int.cast_ofNat_Int IntWalk.i64_in IntWalk.u64_in IntWalk.u8_in beq_self_eq_true Bool.true_beq Bool.false_beq Bool.and_true Bool.true_and Bool.false_and Bool.and_false Bool.and_self Bool.not_true Bool.not_false Bool.not_eq_true cond_true cond_false if_true if_false and_true true_and and_self decide_true decide_false Bool.or_true Bool.true_or Bool.or_false Bool.false_or List.isEmpty List.isEmpty_nil List.size_toArray List.map List.length_map List.length_cons List.length_nil Option.map Option.bind Option.getD Option.isSome List.replicate Bool.false_eq_true implies_true forall_const Array.toList Array.isEmpty List.append List.nil_append List.cons_append List.drop_zero List.take_length List.take_succ_cons List.take_zero List.take_nil List.getElem?_map List.getElem?_cons_zero List.getElem?_cons_succ List.getElem?_nil List.append_nil
attribute [local go_sem] FxPath.tk2 FxPath.ik2 FxPath.ek2 FxPath.zv2 FxPath.tk3 FxPath.ik3 FxPath.ek3 FxPath.zv3 FxPath.tk4 FxPath.ub4 FxPath.zv4 FxPath.tk23 FxPath.ct23 FxPath.ek23 FxPath.zv23 FxPath.tk27 FxPath.ik27 FxPath.zv27 FxPath.tk37 FxPath.ik37 FxPath.zv37 FxPath.tk39 FxPath.ct39 FxPath.zv39 FxPath.tk103 FxPath.mt103 FxPath.sm103 FxPath.zw23 FxPath.zv103 FxPath.mk6_1000000 FxPath.dw22_3 FxPath.nc22_3 FxPath.dw22_8 FxPath.nc22_8 FxPath.dw22_16 FxPath.nc22_16 FxPath.mk22_0 FxPath.mk22_2 FxPath.mk22_1000001 FxPath.mk22_1000002 FxPath.mk22_1000003 FxPath.mk22_1000004 FxPath.mk22_1000000 FxPath.dw23_6 FxPath.nc23_6 FxPath.mk23_1000000 FxPath.mk64_1000000 FxPath.mk65_0 FxPath.mk65_2 FxPath.mk65_1000001 FxPath.mk65_1000002 FxPath.mk65_1000003 FxPath.mk65_1000004 FxPath.mk65_1000000
/-! ### plain -/
abbrev St := Vec × Vec × Int
noncomputable def nx (s : St) : St := if s.2.2 = 0 then (s.2.1, (stepR s.1 s.2.1).1, (stepR s.1 s.2.1).2) else s
noncomputable def tr (s : St) : Nat → St
  | 0 => s
  | n + 1 => nx (tr s n)
def sw (s : St) : St := (s.2.1, s.1, s.2.2)
theorem tr_go {s : St} {k : Nat} (h : (tr s k).2.2 = 0) : tr s (k + 1) = ((tr s k).2.1, (stepR (tr s k).1 (tr s k).2.1).1, (stepR (tr s k).1 (tr s k).2.1).2) := by rw [tr, nx, if_pos h]
theorem tr_stop {s : St} {k : Nat} (h : ¬ (tr s k).2.2 = 0) : ∀ {n : Nat}, k ≤ n → tr s n = tr s k := by
  intro n hn
  induction n with
  | zero => obtain rfl : k = 0 := by omega
            rfl
  | succ n ih =>
    by_cases hk : k = n + 1
    · subst hk; rfl
    · have := ih (by omega)
      rw [tr, this, nx, if_neg h]
theorem tr_back {s : St} {k : Nat} (h : (tr s (k + 1)).2.2 = 0) : (tr s k).2.2 = 0 := by
  by_cases hk : (tr s k).2.2 = 0
  · exact hk
  · rw [tr_stop hk (Nat.le_succ k)] at h; exact h
def zV : Vec := (0, 0, 0)
noncomputable def pathS (a b : Vec) (day : Int) : St := sw (tr (sw (tr (a, b, 0) day.toNat)) (-day).toNat)
noncomputable def pathR (a b : Vec) (day : Int) : St :=
  if day < -400 ∨ day > 400 ∨ ¬ okV 4194304 a = true ∨ ¬ okV 4194304 b = true then (zV, zV, 4)
  else if (pathS a b day).2.2 = 0 then pathS a b day else (zV, zV, (pathS a b day).2.2)
/-! ### bodies -/
abbrev Bod := Int × Vec × Vec × Int
def bD (b : Bod) : D := .agg 39 [.int .i64 b.1, vD b.2.1, vD b.2.2.1, .int .i64 b.2.2.2]
def cBod : Cod Bod := cA 39 (cCons (cI .i64) (cCons cV (cCons cV (cOne (cI .i64)))))
theorem cBod_e (b : Bod) : cBod.e b = bD b := rfl
theorem in_run (v : Vec) : sIn.run [.agg 23 [.int .i64 v.1, .int .i64 v.2.1, .int .i64 v.2.2], .int .i64 4194304] = some [.bool (okV 4194304 v)] := sIn_run v.1 v.2.1 v.2.2 4194304 (by decide) (by decide)
theorem step_run (v w : Vec) : sStep.run [.agg 23 [.int .i64 v.1, .int .i64 v.2.1, .int .i64 v.2.2], .agg 23 [.int .i64 w.1, .int .i64 w.2.1, .int .i64 w.2.2]] = some [.agg 23 [.int .i64 (stepR v w).1.1, .int .i64 (stepR v w).1.2.1, .int .i64 (stepR v w).1.2.2], .int .i64 (stepR v w).2] := sStep_run v.1 v.2.1 v.2.2 w.1 w.2.1 w.2.2
noncomputable def sMov : Ev.Spec := specC (cOne cBod) (fun _ => True) fun b => [.bool (okV 4194304 b.2.1 && okV 4194304 b.2.2.1)]
theorem sMov_run (b : Bod) : sMov.run [.agg 39 [.int .i64 b.1, .agg 23 [.int .i64 b.2.1.1, .int .i64 b.2.1.2.1, .int .i64 b.2.1.2.2], .agg 23 [.int .i64 b.2.2.1.1, .int .i64 b.2.2.1.2.1, .int .i64 b.2.2.1.2.2], .int .i64 b.2.2.2]] = some [.bool (okV 4194304 b.2.1 && okV 4194304 b.2.2.1)] := specC_run (cOne cBod) _ _ b trivial
noncomputable def G1 : Specs := [(46, sIn)]
noncomputable def T1 : Table := tableOf [(64, en64)]
theorem G1_ok : ∀ g s, Ev.look G1 g = some s → SpecOk Try.prog g s := specs_cons within_ok specs_nil
theorem T1_ok : TableOk Try.prog (G1.map (·.1)) T1 := (table_cons Try.func64 (by kernel_rfl) (by kernel_rfl) table_nil)
theorem eMov (b : Bod) : evTop Try.prog G1 T1 0 1 64 [bD b] = some [.bool (okV 4194304 b.2.1 && okV 4194304 b.2.2.1)] := by
  unfold evTop
  simp only [List.map]
  rw [evF_s (fn := Try.f64) (msk := en64.ms) (hT := by rfl) (hb := by rfl)]
  by_cases h1 : okV 4194304 b.2.1 = true
  · simp only [Try.f64, G1, go_sem, Nat.reduceAdd, Nat.reduceSub, Nat.reduceMul, Nat.reduceEqDiff, Nat.reduceBEq, Nat.reduceLT, Nat.reduceLeDiff, Nat.reducePow, Int.reduceToNat, Int.reduceLT, Int.reduceLE, Int.reduceGT, Int.reduceGE, Int.reduceEq, Int.reduceNeg, Int.reduceAdd, Int.reduceSub, ↓reduceIte, reduceCtorEq, bD, vD, in_run, h1]
  · have h1' : okV 4194304 b.2.1 = false := by simpa using h1
    simp only [Try.f64, G1, go_sem, Nat.reduceAdd, Nat.reduceSub, Nat.reduceMul, Nat.reduceEqDiff, Nat.reduceBEq, Nat.reduceLT, Nat.reduceLeDiff, Nat.reducePow, Int.reduceToNat, Int.reduceLT, Int.reduceLE, Int.reduceGT, Int.reduceGE, Int.reduceEq, Int.reduceNeg, Int.reduceAdd, Int.reduceSub, ↓reduceIte, reduceCtorEq, bD, vD, in_run, h1']
theorem mov_ok : SpecOk Try.prog 64 sMov := specC_ok mixed G1_ok T1_ok fun x _ => ⟨0, 1, eMov x⟩
/-! ### Path -/
noncomputable def G : Specs := [(64, sMov), (17, sStep)]
noncomputable def T : Table := tableOf [(22, en22)]
theorem G_ok : ∀ g s, Ev.look G g = some s → SpecOk Try.prog g s := specs_cons mov_ok (specs_cons stepA_ok specs_nil)
theorem T_ok : TableOk Try.prog (G.map (·.1)) T := (table_cons Try.func22 (by kernel_rfl) (by kernel_rfl) table_nil)
def row (v : Vec) : Blk := ⟨1, 23, [.d (.agg 23 [.int .i64 v.1, .int .i64 v.2.1, .int .i64 v.2.2])], true⟩
def I1 (s : St) (day : Int) (x : Nat × Store) : Prop := x.1 ≤ day.toNat ∧ x.2 (0, 4) = row (tr s x.1).1 ∧ x.2 (0, 5) = row (tr s x.1).2.1
noncomputable def h1 (s : St) (day : Int) (k : Nat) : List V := hd22_0 (.d (.int .i64 day)) (.p (0, 4) 1 0 []) (.p (0, 5) 1 0 []) (.d (.int .i64 (tr s k).2.2)) (.d (.int .i64 (day - k)))
def Q1 (s : St) (day : Int) (x : Nat × Store) (o : Out) : Prop :=
  ∃ st', o = some (.exit 0, hx22_0 (.d (.int .i64 day)) (.p (0, 4) 1 0 []) (.p (0, 5) 1 0 []) (.d (.int .i64 (tr s day.toNat).2.2)), st') ∧ st' (0, 4) = row (tr s day.toNat).1 ∧ st' (0, 5) = row (tr s day.toNat).2.1
theorem loop1 (L : Nat) (call : Caller) (s : St) (day : Int) (hday : -400 ≤ day ∧ day ≤ 400) :
    ∀ (m : Nat) (x : Nat × Store) (env : List V), I1 s day x → day.toNat - x.1 < m → mask (maskOf en22.ms 0) env = h1 s day x.1 →
      Q1 s day x (iter (evC Try.prog G call L en22.ms 0 0 lb22_0) (maskOf en22.ms 0) m env x.2) := by
  refine iter_rel _ _ (I1 s day) (fun x => h1 s day x.1) (fun x => x.2) (Q1 s day) (fun x => day.toNat - x.1) ?_
  rintro ⟨k, st⟩ ⟨hk, q4, q5⟩ K hK
  simp only at hk q4 q5
  by_cases hn : day - k > 0
  case neg =>
    obtain rfl : k = day.toNat := by omega
    refine ⟨st, ?_, q4, q5⟩
    simp only [lb22_0, loopN, loops, h1, hd22_0, hx22_0, Try.f22, go_sem, Nat.reduceAdd, Nat.reduceSub, Nat.reduceMul, Nat.reduceEqDiff, Nat.reduceBEq, Nat.reduceLT, Nat.reduceLeDiff, Nat.reducePow, Int.reduceToNat, Int.reduceLT, Int.reduceLE, Int.reduceGT, Int.reduceGE, Int.reduceEq, Int.reduceNeg, Int.reduceAdd, Int.reduceSub, ↓reduceIte, reduceCtorEq, hn]
  by_cases he : (tr s k).2.2 = 0
  case neg =>
    have hst := tr_stop he hk
    refine ⟨st, ?_, by rw [hst]; exact q4, by rw [hst]; exact q5⟩
    rw [hst]
    simp only [lb22_0, loopN, loops, h1, hd22_0, hx22_0, Try.f22, go_sem, Nat.reduceAdd, Nat.reduceSub, Nat.reduceMul, Nat.reduceEqDiff, Nat.reduceBEq, Nat.reduceLT, Nat.reduceLeDiff, Nat.reducePow, Int.reduceToNat, Int.reduceLT, Int.reduceLE, Int.reduceGT, Int.reduceGE, Int.reduceEq, Int.reduceNeg, Int.reduceAdd, Int.reduceSub, ↓reduceIte, reduceCtorEq, hn, he]
  have hg := tr_go he
  have hstep := fun st1 env h1 h2 h3 => (hK (k + 1, st1) env h1 h2 h3 : Q1 s day (k + 1, st1) _)
  have hw : IntKind.i64.wrap (day - k - 1) = day - ((k + 1 : Nat) : Int) := by rw [IntWalk.i64_in _ (by omega)]; omega
  have rs := step_run (tr s k).1 (tr s k).2.1
  rw [row] at q4 q5
  simp only [lb22_0, loopN, loops, h1, hd22_0, Try.f22, G, go_sem, Nat.reduceAdd, Nat.reduceSub, Nat.reduceMul, Nat.reduceEqDiff, Nat.reduceBEq, Nat.reduceLT, Nat.reduceLeDiff, Nat.reducePow, Int.reduceToNat, Int.reduceLT, Int.reduceLE, Int.reduceGT, Int.reduceGE, Int.reduceEq, Int.reduceNeg, Int.reduceAdd, Int.reduceSub, ↓reduceIte, reduceCtorEq, hn, he, q4, q5, rs, hw]
  exact hstep _ _ ⟨by simp only; omega, by simp only [go_sem, Nat.reduceAdd, Nat.reduceSub, Nat.reduceMul, Nat.reduceEqDiff, Nat.reduceBEq, Nat.reduceLT, Nat.reduceLeDiff, Nat.reducePow, Int.reduceToNat, Int.reduceLT, Int.reduceLE, Int.reduceGT, Int.reduceGE, Int.reduceEq, Int.reduceNeg, Int.reduceAdd, Int.reduceSub, ↓reduceIte, reduceCtorEq, hg, row], by simp only [go_sem, Nat.reduceAdd, Nat.reduceSub, Nat.reduceMul, Nat.reduceEqDiff, Nat.reduceBEq, Nat.reduceLT, Nat.reduceLeDiff, Nat.reducePow, Int.reduceToNat, Int.reduceLT, Int.reduceLE, Int.reduceGT, Int.reduceGE, Int.reduceEq, Int.reduceNeg, Int.reduceAdd, Int.reduceSub, ↓reduceIte, reduceCtorEq, hg, row]⟩ (by simp only; omega) (by simp only [h1, hd22_0, go_sem, Nat.reduceAdd, Nat.reduceSub, Nat.reduceMul, Nat.reduceEqDiff, Nat.reduceBEq, Nat.reduceLT, Nat.reduceLeDiff, Nat.reducePow, Int.reduceToNat, Int.reduceLT, Int.reduceLE, Int.reduceGT, Int.reduceGE, Int.reduceEq, Int.reduceNeg, Int.reduceAdd, Int.reduceSub, ↓reduceIte, reduceCtorEq, hg])
/-- The second loop: a day back. -/
def I2 (s : St) (day : Int) (x : Nat × Store) : Prop := x.1 ≤ (-day).toNat ∧ x.2 (0, 4) = row (tr s x.1).2.1 ∧ x.2 (0, 5) = row (tr s x.1).1
noncomputable def h2 (s : St) (day : Int) (k : Nat) : List V := hd22_2 (.p (0, 4) 1 0 []) (.p (0, 5) 1 0 []) (.d (.int .i64 (tr s k).2.2)) (.d (.int .i64 (day + k)))
def Q2 (s : St) (day : Int) (x : Nat × Store) (o : Out) : Prop :=
  ∃ st', o = some (.exit 2, hx22_2 (.p (0, 4) 1 0 []) (.p (0, 5) 1 0 []) (.d (.int .i64 (tr s (-day).toNat).2.2)), st') ∧ st' (0, 4) = row (tr s (-day).toNat).2.1 ∧ st' (0, 5) = row (tr s (-day).toNat).1
theorem loop2 (L : Nat) (call : Caller) (s : St) (day : Int) (hday : -400 ≤ day ∧ day ≤ 400) :
    ∀ (m : Nat) (x : Nat × Store) (env : List V), I2 s day x → (-day).toNat - x.1 < m → mask (maskOf en22.ms 2) env = h2 s day x.1 →
      Q2 s day x (iter (evC Try.prog G call L en22.ms 0 2 lb22_2) (maskOf en22.ms 2) m env x.2) := by
  refine iter_rel _ _ (I2 s day) (fun x => h2 s day x.1) (fun x => x.2) (Q2 s day) (fun x => (-day).toNat - x.1) ?_
  rintro ⟨k, st⟩ ⟨hk, q4, q5⟩ K hK
  simp only at hk q4 q5
  by_cases hn : day + k < 0
  case neg =>
    obtain rfl : k = (-day).toNat := by omega
    refine ⟨st, ?_, q4, q5⟩
    simp only [lb22_2, loopN, loops, h2, hd22_2, hx22_2, Try.f22, go_sem, Nat.reduceAdd, Nat.reduceSub, Nat.reduceMul, Nat.reduceEqDiff, Nat.reduceBEq, Nat.reduceLT, Nat.reduceLeDiff, Nat.reducePow, Int.reduceToNat, Int.reduceLT, Int.reduceLE, Int.reduceGT, Int.reduceGE, Int.reduceEq, Int.reduceNeg, Int.reduceAdd, Int.reduceSub, ↓reduceIte, reduceCtorEq, hn]
  by_cases he : (tr s k).2.2 = 0
  case neg =>
    have hst := tr_stop he hk
    refine ⟨st, ?_, by rw [hst]; exact q4, by rw [hst]; exact q5⟩
    rw [hst]
    simp only [lb22_2, loopN, loops, h2, hd22_2, hx22_2, Try.f22, go_sem, Nat.reduceAdd, Nat.reduceSub, Nat.reduceMul, Nat.reduceEqDiff, Nat.reduceBEq, Nat.reduceLT, Nat.reduceLeDiff, Nat.reducePow, Int.reduceToNat, Int.reduceLT, Int.reduceLE, Int.reduceGT, Int.reduceGE, Int.reduceEq, Int.reduceNeg, Int.reduceAdd, Int.reduceSub, ↓reduceIte, reduceCtorEq, hn, he]
  have hg := tr_go he
  have hstep := fun st1 env h1 h2 h3 => (hK (k + 1, st1) env h1 h2 h3 : Q2 s day (k + 1, st1) _)
  have hw : IntKind.i64.wrap (day + k + 1) = day + ((k + 1 : Nat) : Int) := by rw [IntWalk.i64_in _ (by omega)]; omega
  have rs := step_run (tr s k).1 (tr s k).2.1
  rw [row] at q4 q5
  simp only [lb22_2, loopN, loops, h2, hd22_2, Try.f22, G, go_sem, Nat.reduceAdd, Nat.reduceSub, Nat.reduceMul, Nat.reduceEqDiff, Nat.reduceBEq, Nat.reduceLT, Nat.reduceLeDiff, Nat.reducePow, Int.reduceToNat, Int.reduceLT, Int.reduceLE, Int.reduceGT, Int.reduceGE, Int.reduceEq, Int.reduceNeg, Int.reduceAdd, Int.reduceSub, ↓reduceIte, reduceCtorEq, hn, he, q4, q5, rs, hw]
  exact hstep _ _ ⟨by simp only; omega, by simp only [go_sem, Nat.reduceAdd, Nat.reduceSub, Nat.reduceMul, Nat.reduceEqDiff, Nat.reduceBEq, Nat.reduceLT, Nat.reduceLeDiff, Nat.reducePow, Int.reduceToNat, Int.reduceLT, Int.reduceLE, Int.reduceGT, Int.reduceGE, Int.reduceEq, Int.reduceNeg, Int.reduceAdd, Int.reduceSub, ↓reduceIte, reduceCtorEq, hg, row], by simp only [go_sem, Nat.reduceAdd, Nat.reduceSub, Nat.reduceMul, Nat.reduceEqDiff, Nat.reduceBEq, Nat.reduceLT, Nat.reduceLeDiff, Nat.reducePow, Int.reduceToNat, Int.reduceLT, Int.reduceLE, Int.reduceGT, Int.reduceGE, Int.reduceEq, Int.reduceNeg, Int.reduceAdd, Int.reduceSub, ↓reduceIte, reduceCtorEq, hg, row]⟩ (by simp only; omega) (by simp only [h2, hd22_2, go_sem, Nat.reduceAdd, Nat.reduceSub, Nat.reduceMul, Nat.reduceEqDiff, Nat.reduceBEq, Nat.reduceLT, Nat.reduceLeDiff, Nat.reducePow, Int.reduceToNat, Int.reduceLT, Int.reduceLE, Int.reduceGT, Int.reduceGE, Int.reduceEq, Int.reduceNeg, Int.reduceAdd, Int.reduceSub, ↓reduceIte, reduceCtorEq, hg])
theorem loop_then {R : Out → Prop} {o : Out} {P : Program} {rs : List ResultVar} {id : Nat} {k : Run} {res : Option (List D)} (hR : R o) (h : ∀ o, R o → topR (outR P rs (seqR (blkR id o) k)) = res) : topR (outR P rs (seqR (blkR id o) k)) = res := h o hR
noncomputable def cPath : CodL (Bod × Int) := cCons cBod (cOne (cI .i64))
noncomputable def sPath : Ev.Spec := specC cPath (fun _ => True) fun x => [vD (pathR x.1.2.1 x.1.2.2.1 x.2).1, vD (pathR x.1.2.1 x.1.2.2.1 x.2).2.1, .int .i64 (pathR x.1.2.1 x.1.2.2.1 x.2).2.2]
theorem ePath (b : Bod) (day : Int) : ∃ L c, evTop Try.prog G T L c 22 [bD b, .int .i64 day] = some [vD (pathR b.2.1 b.2.2.1 day).1, vD (pathR b.2.1 b.2.2.1 day).2.1, .int .i64 (pathR b.2.1 b.2.2.1 day).2.2] := by
  refine ⟨day.natAbs + 1, 1, ?_⟩
  unfold evTop
  simp only [List.map, bD]
  rw [evF_s (fn := Try.f22) (msk := en22.ms) (hT := by rfl) (hb := by rfl)]
  rw [pathR]
  have rm := sMov_run b
  by_cases c1 : day < -400
  · rw [if_pos (.inl c1)]
    simp only [Try.f22, G, go_sem, Nat.reduceAdd, Nat.reduceSub, Nat.reduceMul, Nat.reduceEqDiff, Nat.reduceBEq, Nat.reduceLT, Nat.reduceLeDiff, Nat.reducePow, Int.reduceToNat, Int.reduceLT, Int.reduceLE, Int.reduceGT, Int.reduceGE, Int.reduceEq, Int.reduceNeg, Int.reduceAdd, Int.reduceSub, ↓reduceIte, reduceCtorEq, c1, vD, zV]
  by_cases c2 : day > 400
  · rw [if_pos (.inr (.inl c2))]
    simp only [Try.f22, G, go_sem, Nat.reduceAdd, Nat.reduceSub, Nat.reduceMul, Nat.reduceEqDiff, Nat.reduceBEq, Nat.reduceLT, Nat.reduceLeDiff, Nat.reducePow, Int.reduceToNat, Int.reduceLT, Int.reduceLE, Int.reduceGT, Int.reduceGE, Int.reduceEq, Int.reduceNeg, Int.reduceAdd, Int.reduceSub, ↓reduceIte, reduceCtorEq, c1, c2, vD, zV]
  by_cases c3 : okV 4194304 b.2.1 = true
  case neg =>
    rw [if_pos (.inr (.inr (.inl c3)))]
    have c3' : okV 4194304 b.2.1 = false := by simpa using c3
    simp only [Try.f22, G, go_sem, Nat.reduceAdd, Nat.reduceSub, Nat.reduceMul, Nat.reduceEqDiff, Nat.reduceBEq, Nat.reduceLT, Nat.reduceLeDiff, Nat.reducePow, Int.reduceToNat, Int.reduceLT, Int.reduceLE, Int.reduceGT, Int.reduceGE, Int.reduceEq, Int.reduceNeg, Int.reduceAdd, Int.reduceSub, ↓reduceIte, reduceCtorEq, c1, c2, c3', rm, vD, zV]
  by_cases c4 : okV 4194304 b.2.2.1 = true
  case neg =>
    rw [if_pos (.inr (.inr (.inr c4)))]
    have c4' : okV 4194304 b.2.2.1 = false := by simpa using c4
    simp only [Try.f22, G, go_sem, Nat.reduceAdd, Nat.reduceSub, Nat.reduceMul, Nat.reduceEqDiff, Nat.reduceBEq, Nat.reduceLT, Nat.reduceLeDiff, Nat.reducePow, Int.reduceToNat, Int.reduceLT, Int.reduceLE, Int.reduceGT, Int.reduceGE, Int.reduceEq, Int.reduceNeg, Int.reduceAdd, Int.reduceSub, ↓reduceIte, reduceCtorEq, c1, c2, c3, c4', rm, vD, zV]
  rw [if_neg (by simp only [c1, c2, c3, c4, not_true, or_self, not_false_iff])]
  simp only [Try.f22, G, go_sem, Nat.reduceAdd, Nat.reduceSub, Nat.reduceMul, Nat.reduceEqDiff, Nat.reduceBEq, Nat.reduceLT, Nat.reduceLeDiff, Nat.reducePow, Int.reduceToNat, Int.reduceLT, Int.reduceLE, Int.reduceGT, Int.reduceGE, Int.reduceEq, Int.reduceNeg, Int.reduceAdd, Int.reduceSub, ↓reduceIte, reduceCtorEq, c1, c2, c3, c4, rm, vD]
  refine loop_then (R := Q1 (b.2.1, b.2.2.1, 0) day (0, _)) (loop1 _ _ _ day ⟨by omega, by omega⟩ _ (0, _) _ ⟨by simp only; omega, by simp only [go_sem, Nat.reduceAdd, Nat.reduceSub, Nat.reduceMul, Nat.reduceEqDiff, Nat.reduceBEq, Nat.reduceLT, Nat.reduceLeDiff, Nat.reducePow, Int.reduceToNat, Int.reduceLT, Int.reduceLE, Int.reduceGT, Int.reduceGE, Int.reduceEq, Int.reduceNeg, Int.reduceAdd, Int.reduceSub, ↓reduceIte, reduceCtorEq, tr, row], by simp only [go_sem, Nat.reduceAdd, Nat.reduceSub, Nat.reduceMul, Nat.reduceEqDiff, Nat.reduceBEq, Nat.reduceLT, Nat.reduceLeDiff, Nat.reducePow, Int.reduceToNat, Int.reduceLT, Int.reduceLE, Int.reduceGT, Int.reduceGE, Int.reduceEq, Int.reduceNeg, Int.reduceAdd, Int.reduceSub, ↓reduceIte, reduceCtorEq, tr, row]⟩ (by simp only; omega) (by simp only [h1, hd22_0, tr, show ((0 : Nat) : Int) = 0 from rfl, Int.sub_zero, go_sem, Nat.reduceAdd, Nat.reduceSub, Nat.reduceMul, Nat.reduceEqDiff, Nat.reduceBEq, Nat.reduceLT, Nat.reduceLeDiff, Nat.reducePow, Int.reduceToNat, Int.reduceLT, Int.reduceLE, Int.reduceGT, Int.reduceGE, Int.reduceEq, Int.reduceNeg, Int.reduceAdd, Int.reduceSub, ↓reduceIte, reduceCtorEq])) ?_
  rintro o ⟨st', ho, q4, q5⟩
  rw [ho]
  simp only [hx22_0, go_sem, Nat.reduceAdd, Nat.reduceSub, Nat.reduceMul, Nat.reduceEqDiff, Nat.reduceBEq, Nat.reduceLT, Nat.reduceLeDiff, Nat.reducePow, Int.reduceToNat, Int.reduceLT, Int.reduceLE, Int.reduceGT, Int.reduceGE, Int.reduceEq, Int.reduceNeg, Int.reduceAdd, Int.reduceSub, ↓reduceIte, reduceCtorEq]
  refine loop_then (R := Q2 (sw (tr (b.2.1, b.2.2.1, 0) day.toNat)) day (0, _)) (loop2 _ _ _ day ⟨by omega, by omega⟩ _ (0, _) _ ⟨by simp only; omega, by simp only [q4, tr, sw], by simp only [q5, tr, sw]⟩ (by simp only; omega) (by simp only [h2, hd22_2, tr, sw, show ((0 : Nat) : Int) = 0 from rfl, Int.add_zero, go_sem, Nat.reduceAdd, Nat.reduceSub, Nat.reduceMul, Nat.reduceEqDiff, Nat.reduceBEq, Nat.reduceLT, Nat.reduceLeDiff, Nat.reducePow, Int.reduceToNat, Int.reduceLT, Int.reduceLE, Int.reduceGT, Int.reduceGE, Int.reduceEq, Int.reduceNeg, Int.reduceAdd, Int.reduceSub, ↓reduceIte, reduceCtorEq])) ?_
  rintro o ⟨st2, ho2, r4, r5⟩
  rw [ho2]
  have e0 : pathS b.2.1 b.2.2.1 day = sw (tr (sw (tr (b.2.1, b.2.2.1, 0) day.toNat)) (-day).toNat) := rfl
  rw [e0]
  generalize tr (sw (tr (b.2.1, b.2.2.1, 0) day.toNat)) (-day).toNat = S at *
  rw [row] at r4 r5
  by_cases c5 : S.2.2 = 0
  · simp only [hx22_2, go_sem, Nat.reduceAdd, Nat.reduceSub, Nat.reduceMul, Nat.reduceEqDiff, Nat.reduceBEq, Nat.reduceLT, Nat.reduceLeDiff, Nat.reducePow, Int.reduceToNat, Int.reduceLT, Int.reduceLE, Int.reduceGT, Int.reduceGE, Int.reduceEq, Int.reduceNeg, Int.reduceAdd, Int.reduceSub, ↓reduceIte, reduceCtorEq, c5, r4, r5, sw]
  · simp only [hx22_2, go_sem, Nat.reduceAdd, Nat.reduceSub, Nat.reduceMul, Nat.reduceEqDiff, Nat.reduceBEq, Nat.reduceLT, Nat.reduceLeDiff, Nat.reducePow, Int.reduceToNat, Int.reduceLT, Int.reduceLE, Int.reduceGT, Int.reduceGE, Int.reduceEq, Int.reduceNeg, Int.reduceAdd, Int.reduceSub, ↓reduceIte, reduceCtorEq, c5, r4, r5, sw, zV]
theorem path_ok : SpecOk Try.prog 22 sPath := specC_ok mixed G_ok T_ok fun x _ => ePath x.1 x.2
#print axioms path_ok
end Go.Proofs.YtmhjmjodchbhlaaR.PathPath
end
section
set_option linter.unusedVariables false
set_option linter.unusedSimpArgs false
namespace Go.Proofs.YtmhjmjodchbhlaaR.TypesRate
open Go.Ev Go.Proofs.YtmhjmjodchbhlaaR.PullPull
open Go.Proofs.YtmhjmjodchbhlaaR.PathPath (Bod bD cBod)
structure Star where
  id : Int
  p : Vec
  rate : Int
  wave : List Int
  period : Int
  start : Int
  stop : Int
structure Gal where
  id : Int
  p : Vec
  rate : Int
  wide : Int
  high : Int
structure Sky where
  back : Int
  stars : List Star
  gals : List Gal
  bods : List Bod
  home : Bod
def Star.D (s : Star) : D := .agg 79 [.int .i64 s.id, vD s.p, .int .i64 s.rate, .sl 37 (s.wave.map (.int .i64)), .int .i64 s.period, .int .i64 s.start, .int .i64 s.stop]
def Gal.D (g : Gal) : D := .agg 76 [.int .i64 g.id, vD g.p, .int .i64 g.rate, .int .i64 g.wide, .int .i64 g.high]
def Sky.D (s : Sky) : D := .agg 47 [.int .i64 s.back, .sl 79 (s.stars.map Star.D), .sl 76 (s.gals.map Gal.D), .sl 39 (s.bods.map bD), bD s.home]
def cStar : Cod Star := cIso (fun s : Star => (s.id, s.p, s.rate, s.wave, s.period, s.start, s.stop)) (fun x y h => by cases x; cases y; simp at h; simp [h])
  (cA 79 (cCons (cI .i64) (cCons cV (cCons (cI .i64) (cCons (cL 37 (cI .i64)) (cCons (cI .i64) (cCons (cI .i64) (cOne (cI .i64)))))))))
def cGal : Cod Gal := cIso (fun g : Gal => (g.id, g.p, g.rate, g.wide, g.high)) (fun x y h => by cases x; cases y; simp at h; simp [h])
  (cA 76 (cCons (cI .i64) (cCons cV (cCons (cI .i64) (cCons (cI .i64) (cOne (cI .i64)))))))
def cSky : Cod Sky := cIso (fun s : Sky => (s.back, s.stars, s.gals, s.bods, s.home)) (fun x y h => by cases x; cases y; simp at h; simp [h])
  (cA 47 (cCons (cI .i64) (cCons (cL 79 cStar) (cCons (cL 76 cGal) (cCons (cL 39 cBod) (cOne cBod))))))
theorem cStar_e (s : Star) : cStar.e s = s.D := rfl
theorem cGal_e (g : Gal) : cGal.e g = g.D := rfl
theorem cSky_e (s : Sky) : cSky.e s = s.D := rfl
end Go.Proofs.YtmhjmjodchbhlaaR.TypesRate
end
section
set_option linter.unusedVariables false
set_option linter.unusedSimpArgs false
namespace Go.Proofs.YtmhjmjodchbhlaaR.FaultRate
open Go.Ev Go.Proofs.YtmhjmjodchbhlaaR.PullPull Go.Proofs.YtmhjmjodchbhlaaR.TypesRate
open Go.Proofs.YtmhjmjodchbhlaaR.PathPath (Bod bD cBod)
open Go.Proofs.YtmhjmjodchbhlaaR.Pull2Pull (okV_spec)
/-- An object of a sky. -/
inductive Thing where
  | st (s : Star)
  | ga (g : Gal)
  | bo (b : Bod)
def Thing.id : Thing → Int
  | .st s => s.id
  | .ga g => g.id
  | .bo b => b.1
def Thing.rate : Thing → Int
  | .st s => s.rate
  | .ga g => g.rate
  | .bo b => b.2.2.2
/-- The objects of a sky in order. -/
def things (s : Sky) : List Thing := s.stars.map Thing.st ++ (s.gals.map Thing.ga ++ s.bods.map Thing.bo)
/-- What is wrong with a direction. -/
def chkV (v : Vec) : Int := if okV 1048576 v = true then (if v = (0, 0, 0) then 8 else 0) else 4
def waveBad (rate q : Int) : Bool := decide (q < 0) || decide (q > 1048576 - rate)
def tickBad (t : Int) : Bool := decide (t < -17592186044416) || decide (t > 17592186044416)
def perBad (n : Nat) (p : Int) : Bool := decide (p < 1) || (decide (p > 17592186044416) || !decide (p.tmod n = 0))
def starF (s : Star) : Int :=
  if chkV s.p = 0 then (if s.wave.length > 16 then 2
    else if s.wave.length = 0 ∧ ¬ s.period = 0 then 3
    else if 0 < s.wave.length ∧ perBad s.wave.length s.period = true then 4
    else if s.wave.any (waveBad s.rate) = true then 4
    else if tickBad s.start = true ∨ tickBad s.stop = true then 4
    else if s.start > s.stop then 11 else 0) else chkV s.p
def sizeOk (k : Int) : Bool := decide (k = 1) || (decide (k = 2) || decide (k = 4))
def galF (g : Gal) : Int := if chkV g.p = 0 then (if sizeOk g.wide = true ∧ sizeOk g.high = true then 0 else 4) else chkV g.p
def bodF (b : Bod) : Int := if okV 4194304 b.2.1 = true ∧ okV 4194304 b.2.2.1 = true then 0 else 4
def own : Thing → Int
  | .st s => starF s
  | .ga g => galF g
  | .bo b => bodF b
/-- What is wrong with what all objects have. -/
def headF (seen : List Int) (id rate : Int) : Int := if id < 1 ∨ id > 1073741824 then 4 else if id ∈ seen then 7 else if rate < 0 ∨ rate > 1048576 then 4 else 0
def one (seen : List Int) (x : Thing) : Int := if headF seen x.id x.rate = 0 then own x else headF seen x.id x.rate
def faults (seen : List Int) : List Thing → Int
  | [] => 0
  | x :: r => if one seen x = 0 then faults (seen ++ [x.id]) r else one seen x
def fault (s : Sky) : Int :=
  if s.stars.length + s.gals.length + s.bods.length > 40 then 2
  else if s.back < 0 ∨ s.back > 1048576 then 4
  else if faults [] (things s) = 0 then (if ¬ s.home.1 = 0 ∨ ¬ s.home.2.2.2 = 0 then 3 else bodF s.home)
  else faults [] (things s)
theorem things_len (s : Sky) : (things s).length = s.stars.length + s.gals.length + s.bods.length := by simp [things]; omega
theorem faults_append (a b : List Thing) : ∀ seen, faults seen (a ++ b) = if faults seen a = 0 then faults (seen ++ a.map Thing.id) b else faults seen a := by
  induction a with
  | nil => intro seen; simp [faults]
  | cons x r ih =>
    intro seen
    by_cases h : one seen x = 0
    · have e1 : faults seen (x :: r) = faults (seen ++ [x.id]) r := if_pos h
      have e2 : faults seen (x :: r ++ b) = faults (seen ++ [x.id]) (r ++ b) := if_pos h
      rw [e1, e2, ih]; simp
    · have e1 : faults seen (x :: r) = one seen x := if_neg h
      have e2 : faults seen (x :: r ++ b) = one seen x := if_neg h
      rw [e1, e2, if_neg h]
theorem faults_snoc {seen : List Int} {a : List Thing} {x : Thing} (h : faults seen a = 0) : faults seen (a ++ [x]) = one (seen ++ a.map Thing.id) x := by
  rw [faults_append, if_pos h]
  simp only [faults]
  by_cases h2 : one (seen ++ a.map Thing.id) x = 0
  · rw [if_pos h2, h2]
  · rw [if_neg h2]
theorem faults_stop {seen : List Int} {a : List Thing} (b : List Thing) (h : ¬ faults seen a = 0) : faults seen (a ++ b) = faults seen a := by rw [faults_append, if_neg h]
theorem faults_take {l : List Thing} {i : Nat} (hi : i < l.length) (h : faults [] (l.take i) = 0) : (one ((l.take i).map Thing.id) l[i] = 0 → faults [] (l.take (i + 1)) = 0) ∧ (¬ one ((l.take i).map Thing.id) l[i] = 0 → faults [] l = one ((l.take i).map Thing.id) l[i]) := by
  have ht : l.take (i + 1) = l.take i ++ [l[i]] := by rw [List.take_add_one]; simp [hi]
  have hs := faults_snoc (x := l[i]) h
  rw [List.nil_append] at hs
  refine ⟨fun h1 => by rw [ht, hs, h1], fun h1 => ?_⟩
  have e : l = l.take (i + 1) ++ l.drop (i + 1) := (List.take_append_drop _ _).symm
  rw [ht] at e
  conv => lhs; rw [e]
  rw [faults_stop _ (by rw [hs]; exact h1), hs]
theorem one_zero {seen : List Int} {x : Thing} (h : one seen x = 0) : own x = 0 ∧ 0 ≤ x.rate ∧ x.rate ≤ 1048576 := by
  unfold one at h
  split at h
  · rename_i h1
    refine ⟨h, ?_⟩
    unfold headF at h1
    split at h1
    · cases h1
    · split at h1
      · cases h1
      · split at h1
        · cases h1
        · omega
  · rename_i h1; exact absurd h h1
theorem faults_zero {l : List Thing} : ∀ {seen : List Int}, faults seen l = 0 → ∀ x ∈ l, own x = 0 ∧ 0 ≤ x.rate ∧ x.rate ≤ 1048576 := by
  induction l with
  | nil => intro _ _ x hx; cases hx
  | cons y r ih =>
    intro seen h x hx
    simp only [faults] at h
    split at h
    · rename_i h1
      rcases List.mem_cons.1 hx with rfl | hx
      · exact one_zero h1
      · exact ih h x hx
    · rename_i h1; exact absurd h h1
theorem fault_zero {s : Sky} (h : fault s = 0) : faults [] (things s) = 0 ∧ bodF s.home = 0 ∧ s.stars.length + s.gals.length + s.bods.length ≤ 40 := by
  unfold fault at h
  split at h
  · cases h
  · split at h
    · cases h
    · split at h
      · rename_i h1
        split at h
        · cases h
        · exact ⟨h1, h, by omega⟩
      · rename_i h1; exact absurd h h1
theorem fault_star {s : Sky} (h : fault s = 0) {x : Star} (hx : x ∈ s.stars) : starF x = 0 ∧ 0 ≤ x.rate ∧ x.rate ≤ 1048576 :=
  faults_zero (fault_zero h).1 (.st x) (by simp [things, hx])
/-- What holds of a star that has no fault. -/
theorem starF_zero {s : Star} (h : starF s = 0) : s.wave.length ≤ 16 ∧ (0 < s.wave.length → 1 ≤ s.period ∧ s.period ≤ 17592186044416 ∧ s.period.tmod s.wave.length = 0) ∧ s.wave.any (waveBad s.rate) = false := by
  unfold starF at h
  split at h
  · split at h
    · cases h
    · rename_i h1
      split at h
      · cases h
      · split at h
        · cases h
        · rename_i h2
          split at h
          · cases h
          · rename_i h3
            refine ⟨by omega, fun hp => ?_, by simpa using h3⟩
            have : perBad s.wave.length s.period = false := by
              cases hb : perBad s.wave.length s.period with
              | false => rfl
              | true => exact absurd ⟨hp, hb⟩ h2
            simp only [perBad, Bool.or_eq_false_iff, decide_eq_false_iff_not, Bool.not_eq_false', decide_eq_true_eq] at this
            omega
  · rename_i h1; exact absurd h h1
/-- The period is judged alike in both words. -/
theorem per_b {n : Nat} {p : Int} (hn : 0 < n) (hn2 : n ≤ 16) : perBad n p = true ↔ (p < n ∨ p > 17592186044416 ∨ ¬ p.tdiv n * n = p) := by
  simp only [perBad, Bool.or_eq_true, decide_eq_true_eq, Bool.not_eq_true', decide_eq_false_iff_not]
  have h := Int.tdiv_mul_add_tmod p n
  constructor
  · rintro (h1 | h1 | h1)
    · exact .inl (by omega)
    · exact .inr (.inl h1)
    · exact .inr (.inr (by omega))
  · rintro (h1 | h1 | h1)
    · by_cases hp : p < 1
      · exact .inl hp
      · refine .inr (.inr fun h0 => ?_)
        rw [h0, Int.add_zero] at h
        have hz : p.tdiv n = 0 := Int.tdiv_eq_zero_of_lt (by omega) h1
        rw [hz] at h
        omega
    · exact .inr (.inl h1)
    · exact .inr (.inr (by omega))
end Go.Proofs.YtmhjmjodchbhlaaR.FaultRate
end
