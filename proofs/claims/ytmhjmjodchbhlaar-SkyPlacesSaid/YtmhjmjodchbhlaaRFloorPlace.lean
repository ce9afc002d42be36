/- num.FloorDiv by a day, and the closures of sky.Place and of the document's Placed: what lies between two places. -/
import Derived.Test.YtmhjmjodchbhlaaRPathePath
import Derived.Test.YtmhjmjodchbhlaaRFxPlace
set_option linter.unusedVariables false
set_option linter.unusedSimpArgs false
set_option maxRecDepth 100000
namespace Go.Proofs.YtmhjmjodchbhlaaR.FloorPlace
open Go.Ev Go.Ari Go.Proofs.YtmhjmjodchbhlaaR.FxPlace Go.Proofs.YtmhjmjodchbhlaaR.PullPull Go.Proofs.YtmhjmjodchbhlaaR.Pull2Pull
attribute [local go_sem] Go.Ev.putR_s Go.Ev.putR_0 Go.Ev.thenO_s Go.Ev.thenO_0 Go.Ev.seqR_n Go.Ev.seqR_e Go.Ev.seqR_r Go.Ev.seqR_0 Go.Ev.blkR_e Go.Ev.blkR_n Go.Ev.blkR_r Go.Ev.blkR_0 Go.Ev.normR_s Go.Ev.normR_0 Go.Ev.outR_r Go.Ev.outR_n Go.Ev.outR_0 Go.Ev.retS_s Go.Ev.retS_0 Go.Ev.pureO_s Go.Ev.pureO_0 Go.Ev.topR_0 Go.Ev.topR_t Go.Ev.topR_t0 Go.Ev.oneL_0 Go.Ev.oneL_s Go.Ev.topR_d Go.Ev.topR_nils Go.Ev.topR_agg Go.Ev.topR_rs Go.Ev.evOp_move Go.Ev.evOp_assign Go.Ev.evOp_pick Go.Ev.evOp_alloc Go.Ev.evOp_box Go.Ev.evOp_build Go.Ev.evOp_buildSlice Go.Ev.evOp_load Go.Ev.evOp_store Go.Ev.evOp_makeMap Go.Ev.evOp_lookup Go.Ev.evOp_mapUpdate Go.Ev.evOp_insert Go.Ev.evOp_nilCheck Go.Ev.evOp_binOp Go.Ev.evOp_unOp Go.Ev.evOp_convert Go.Ev.evOp_makeFunc Go.Ev.evOp_makeSlice Go.Ev.evOp_slice Go.Ev.evOp_fieldAddr Go.Ev.evOp_field Go.Ev.evOp_indexAddr Go.Ev.evOp_index Go.Ev.evOp_extract Go.Ev.evOp_call Go.Ev.evOp_append Go.Ev.evOp_len Go.Ev.evOp_min Go.Ev.evOp_max Go.Ev.condR_b Go.Ev.condR_t Go.Ev.evOps_nil Go.Ev.evOps_plain Go.Ev.evOps_guard Go.Ev.runG_eq Go.Ev.skipG_eq Go.Ev.condL_tt Go.Ev.condL_ff Go.Ev.condL_tf Go.Ev.condL_ft Go.Ev.condL_u Go.Ev.condC_t Go.Ev.condC_f Go.Ev.evC_skip Go.Ev.evC_ret Go.Ev.evC_exit Go.Ev.evC_label Go.Ev.evC_region Go.Ev.evC_draw Go.Ev.evC_seq Go.Ev.evC_cond Go.Ev.evC_block Go.Ev.evC_loop Go.Ev.fin_d Go.Ev.fin_nils Go.Ev.fin_agg_ Go.Ev.fin_rs Go.Ev.finS_s Go.Ev.mapO_fin Go.Ev.upd_upd Go.Ev.argv_d Go.Ev.argv_nils Go.Ev.argv_agg Go.Ev.argv_rs Go.Ev.argv_p Go.Ev.appendTo_nils Go.Ev.appendTo_rs Go.Ev.consV_d Go.Ev.consV_agg Go.Ev.consV_p Go.Ev.consV_rs Go.Ev.consV_nils Go.Ev.consV_fn Go.Ev.consV_und Go.Ev.consV_jk Go.Ev.consV_grown Go.Ev.topR_grown Go.Ev.len_grown Go.Ev.consV_mp Go.Ev.sameK_i Go.Ev.sameK_s Go.Ev.mget_0 Go.Ev.mget_hit Go.Ev.mget_miss Go.Ev.mput_0 Go.Ev.mput_hit Go.Ev.mput_miss Go.Ev.apartAll Go.Ev.apartL Go.Ev.apartV Go.Ev.freeAll Go.Ev.sel Go.Ev.keyOfV Go.Ev.evLookup Go.Ev.evPut Go.Ev.hintOk Go.Ev.keyOk Go.Ev.consP Go.Ev.lookV Go.Ev.guardV Go.Ev.dstAt Go.Ev.evPure Go.Ev.evStore Go.Ev.evPureB Go.Ev.evBin Go.Ev.evBinO Go.Ev.evNil Go.Ev.isNilC Go.Ev.evUn Go.Ev.evConv Go.Ev.evSlice Go.Ev.optI Go.Ev.lenV Go.Ev.elemT Go.Ev.foldI Go.Ev.capsOk Go.Ev.noTup Go.Ev.nth Go.Ev.setN Go.Ev.pad Go.Ev.V.get Go.Ev.V.put Go.Ev.putD Go.Ev.hasT Go.Ev.newBlk Go.Ev.upd Go.Ev.keq Go.Ev.empty Go.Ev.evCall Go.Ev.V.args Go.Ev.argP Go.Ev.callOf Go.Ev.evNilP Go.Ev.isNilP Go.Ev.look Go.Ev.V.view.views Go.Ev.V.view Go.Ev.V.toD Go.Ev.V.toD.V.toDs Go.Ev.V.pure.pures Go.Ev.V.pure Go.Ev.D.flat.flats Go.Ev.D.flat Go.Ev.mkAgg Go.Ev.allD Go.Ev.aggParts Go.Ev.setParts Go.Ev.setElems Go.Ev.getPath Go.Ev.setPath Go.Ev.subL Go.Ev.eqD Go.Ev.eqD.eqDs Go.Ev.and2 Go.Ev.strCut Go.Ev.evalT Go.Ev.constT Go.Ev.evArgs Go.Ev.mask Go.Ev.maskOf Go.Ev.tableOf Go.Ev.compT Go.Ev.resV Go.Ev.retV Go.Ev.mapO Go.Ev.elemsOf
attribute [local go_sem] Go.Proofs.YtmhjmjodchbhlaaR.FxPlace.tk2 Go.Proofs.YtmhjmjodchbhlaaR.FxPlace.ik2 Go.Proofs.YtmhjmjodchbhlaaR.FxPlace.ek2 Go.Proofs.YtmhjmjodchbhlaaR.FxPlace.zv2 Go.Proofs.YtmhjmjodchbhlaaR.FxPlace.tk3 Go.Proofs.YtmhjmjodchbhlaaR.FxPlace.ik3 Go.Proofs.YtmhjmjodchbhlaaR.FxPlace.zv3 Go.Proofs.YtmhjmjodchbhlaaR.FxPlace.tk4 Go.Proofs.YtmhjmjodchbhlaaR.FxPlace.ub4 Go.Proofs.YtmhjmjodchbhlaaR.FxPlace.zv4 Go.Proofs.YtmhjmjodchbhlaaR.FxPlace.tk23 Go.Proofs.YtmhjmjodchbhlaaR.FxPlace.ct23 Go.Proofs.YtmhjmjodchbhlaaR.FxPlace.ek23 Go.Proofs.YtmhjmjodchbhlaaR.FxPlace.zv23 Go.Proofs.YtmhjmjodchbhlaaR.FxPlace.tk27 Go.Proofs.YtmhjmjodchbhlaaR.FxPlace.ik27 Go.Proofs.YtmhjmjodchbhlaaR.FxPlace.zv27 Go.Proofs.YtmhjmjodchbhlaaR.FxPlace.tk37 Go.Proofs.YtmhjmjodchbhlaaR.FxPlace.ik37 Go.Proofs.YtmhjmjodchbhlaaR.FxPlace.zv37 Go.Proofs.YtmhjmjodchbhlaaR.FxPlace.tk39 Go.Proofs.YtmhjmjodchbhlaaR.FxPlace.ct39 Go.Proofs.YtmhjmjodchbhlaaR.FxPlace.zv39 Go.Proofs.YtmhjmjodchbhlaaR.FxPlace.tk48 Go.Proofs.YtmhjmjodchbhlaaR.FxPlace.ik48 Go.Proofs.YtmhjmjodchbhlaaR.FxPlace.zv48 Go.Proofs.YtmhjmjodchbhlaaR.FxPlace.tk91 Go.Proofs.YtmhjmjodchbhlaaR.FxPlace.zv91 Go.Proofs.YtmhjmjodchbhlaaR.FxPlace.mk8_1000000 Go.Proofs.YtmhjmjodchbhlaaR.FxPlace.dw26_12 Go.Proofs.YtmhjmjodchbhlaaR.FxPlace.nc26_12 Go.Proofs.YtmhjmjodchbhlaaR.FxPlace.mk26_1000000 Go.Proofs.YtmhjmjodchbhlaaR.FxPlace.dw27_3 Go.Proofs.YtmhjmjodchbhlaaR.FxPlace.nc27_3 Go.Proofs.YtmhjmjodchbhlaaR.FxPlace.dw27_13 Go.Proofs.YtmhjmjodchbhlaaR.FxPlace.nc27_13 Go.Proofs.YtmhjmjodchbhlaaR.FxPlace.mk27_1000000 Go.Proofs.YtmhjmjodchbhlaaR.FxPlace.mk69_1000000 Go.Proofs.YtmhjmjodchbhlaaR.FxPlace.mk70_1000000 Go.Proofs.YtmhjmjodchbhlaaR.FxPlace.mk71_0 Go.Proofs.YtmhjmjodchbhlaaR.FxPlace.mk71_1000001 Go.Proofs.YtmhjmjodchbhlaaR.FxPlace.mk71_1000002 Go.Proofs.YtmhjmjodchbhlaaR.FxPlace.mk71_1000000
noncomputable def G0 : Specs := []
noncomputable def T0 : Table := tableOf [(69, en69)]
theorem T0_ok : TableOk Try.prog (([] : Specs).map (·.1)) T0 := (table_cons Try.func69 (by kernel_rfl) (by kernel_rfl) table_nil)
def sFloor : Ev.Spec := ⟨fun xs => match xs with | [.int .i64 a, .int .i64 86400000] => if -9223372036854775808 ≤ a ∧ a < 9223372036854775808 then some [.int .i64 (a / 86400000)] else none | _ => none⟩
theorem sFloor_run (a : Int) (h : -9223372036854775808 ≤ a ∧ a < 9223372036854775808) : sFloor.run [.int .i64 a, .int .i64 86400000] = some [.int .i64 (a / 86400000)] := by
  simp only [sFloor]; rw [if_pos h]
theorem tdm (a : Int) : (a.tmod 86400000 < 0 → a.tdiv 86400000 - 1 = a / 86400000) ∧ (¬ a.tmod 86400000 < 0 → a.tdiv 86400000 = a / 86400000) := by
  have h1 := Int.mul_tdiv_add_tmod a 86400000
  have h2 := Int.tmod_lt_of_pos a (show (0 : Int) < 86400000 by decide)
  have h3 : -86400000 < a.tmod 86400000 := by
    have := Int.lt_tmod_of_pos a (show (0 : Int) < 86400000 by decide)
    exact this
  constructor <;> intro h <;> omega
theorem eFloor (a : Int) (h : -9223372036854775808 ≤ a ∧ a < 9223372036854775808) : evTop Try.prog [] T0 0 1 69 [.int .i64 a, .int .i64 86400000] = some [.int .i64 (a / 86400000)] := by
  unfold evTop
  simp only [List.map]
  rw [evF_s (fn := Try.f69) (msk := en69.ms) (hT := by rfl) (hb := by rfl)]
  obtain ⟨t1, t2⟩ := tdm a
  have w1 : IntKind.i64.wrap (a / 86400000) = a / 86400000 := wi_in (by omega) (by omega)
  by_cases hm : a.tmod 86400000 < 0
  · have e := t1 hm
    have w0 : IntKind.i64.wrap (a.tdiv 86400000) = a.tdiv 86400000 := wi_in (by omega) (by omega)
    simp only [Try.f69, go_sem, Nat.reduceAdd, Nat.reduceSub, Nat.reduceMul, Nat.reduceEqDiff, Nat.reduceBEq, Nat.reduceLT, Nat.reduceLeDiff, Nat.reducePow, Int.cast_ofNat_Int, IntWalk.i64_in, IntWalk.u64_in, IntWalk.u8_in, Int.reduceToNat, Int.reduceLT, Int.reduceLE, Int.reduceGT, Int.reduceGE, Int.reduceEq, Int.reduceNeg, Int.reduceAdd, Int.reduceSub, ↓reduceIte, reduceCtorEq, beq_self_eq_true, Bool.true_beq, Bool.false_beq, Bool.and_true, Bool.true_and, Bool.false_and, Bool.and_false, Bool.and_self, Bool.not_true, Bool.not_false, Bool.not_eq_true, cond_true, cond_false, if_true, if_false, and_true, true_and, and_self, decide_true, decide_false, Bool.or_true, Bool.true_or, Bool.or_false, Bool.false_or, List.isEmpty, List.isEmpty_nil, List.size_toArray, List.map, List.length_map, List.length_cons, List.length_nil, Option.map, Option.bind, Option.getD, Option.isSome, List.replicate, Bool.false_eq_true, implies_true, forall_const, Array.toList, Array.isEmpty, List.append, List.nil_append, List.cons_append, List.drop_zero, List.take_length, List.take_succ_cons, List.take_zero, List.take_nil, List.getElem?_map, List.getElem?_cons_zero, List.getElem?_cons_succ, List.getElem?_nil, List.append_nil, w0, hm, e, w1]
  · have e := t2 hm
    simp only [Try.f69, go_sem, Nat.reduceAdd, Nat.reduceSub, Nat.reduceMul, Nat.reduceEqDiff, Nat.reduceBEq, Nat.reduceLT, Nat.reduceLeDiff, Nat.reducePow, Int.cast_ofNat_Int, IntWalk.i64_in, IntWalk.u64_in, IntWalk.u8_in, Int.reduceToNat, Int.reduceLT, Int.reduceLE, Int.reduceGT, Int.reduceGE, Int.reduceEq, Int.reduceNeg, Int.reduceAdd, Int.reduceSub, ↓reduceIte, reduceCtorEq, beq_self_eq_true, Bool.true_beq, Bool.false_beq, Bool.and_true, Bool.true_and, Bool.false_and, Bool.and_false, Bool.and_self, Bool.not_true, Bool.not_false, Bool.not_eq_true, cond_true, cond_false, if_true, if_false, and_true, true_and, and_self, decide_true, decide_false, Bool.or_true, Bool.true_or, Bool.or_false, Bool.false_or, List.isEmpty, List.isEmpty_nil, List.size_toArray, List.map, List.length_map, List.length_cons, List.length_nil, Option.map, Option.bind, Option.getD, Option.isSome, List.replicate, Bool.false_eq_true, implies_true, forall_const, Array.toList, Array.isEmpty, List.append, List.nil_append, List.cons_append, List.drop_zero, List.take_length, List.take_succ_cons, List.take_zero, List.take_nil, List.getElem?_map, List.getElem?_cons_zero, List.getElem?_cons_succ, List.getElem?_nil, List.append_nil, e, hm, w1]
theorem floor_ok : SpecOk Try.prog 69 sFloor := spec_of_ev mixed specs_nil T0_ok fun xs rs hr => by
  simp only [sFloor] at hr
  split at hr
  · split at hr
    · rename_i hp; cases hr; exact ⟨0, 1, eFloor _ hp⟩
    · cases hr
  · cases hr
/-! ### between two places -/
def mid (r a b : Int) : Int := a + (b - a) * r / 86400000
def MM (r a b : Int) : Prop := -4194304 ≤ a ∧ a ≤ 4194304 ∧ -4194304 ≤ b ∧ b ≤ 4194304 ∧ 0 ≤ r ∧ r < 86400000
def cR : Cod Int := ⟨fun x => .ptr (.int .i64 x), fun x y h => by cases h; rfl⟩
noncomputable def sMid : Ev.Spec := specC (cCons (cI .i64) (cCons (cI .i64) (cOne cR))) (fun x => MM x.2.2 x.1 x.2.1) fun x => [.int .i64 (mid x.2.2 x.1 x.2.1)]
theorem sMid_run (r a b : Int) (h : MM r a b) : sMid.run [.int .i64 a, .int .i64 b, .ptr (.int .i64 r)] = some [.int .i64 (mid r a b)] := specC_run (cCons (cI .i64) (cCons (cI .i64) (cOne cR))) _ _ (a, b, r) h
theorem mid_bounds {r a b : Int} (h : MM r a b) : -724775731200000 ≤ (b - a) * r ∧ (b - a) * r ≤ 724775731200000 := by
  obtain ⟨a0, a1, b0, b1, r0, r1⟩ := h
  have p1 : (b - a) * r ≤ 8388608 * r := Int.mul_le_mul_of_nonneg_right (by omega) r0
  have p2 : -8388608 * r ≤ (b - a) * r := Int.mul_le_mul_of_nonneg_right (by omega) r0
  omega
noncomputable def G1 : Specs := [(69, sFloor)]
noncomputable def T1 : Table := tableOf [(70, en70), (71, en71)]
theorem G1_ok : ∀ g s, Ev.look G1 g = some s → SpecOk Try.prog g s := specs_cons floor_ok specs_nil
theorem T1_ok : TableOk Try.prog (G1.map (·.1)) T1 := (table_cons Try.func70 (by kernel_rfl) (by kernel_rfl) (table_cons Try.func71 (by kernel_rfl) (by kernel_rfl) table_nil))
theorem eMidA (r a b : Int) (h : MM r a b) : evTop Try.prog G1 T1 0 1 70 [.int .i64 a, .int .i64 b, .ptr (.int .i64 r)] = some [.int .i64 (mid r a b)] := by
  unfold evTop
  simp only [List.map]
  rw [evF_s (fn := Try.f70) (msk := en70.ms) (hT := by rfl) (hb := by rfl)]
  have hb := mid_bounds h
  obtain ⟨a0, a1, b0, b1, r0, r1⟩ := h
  have w1 : IntKind.i64.wrap (b - a) = b - a := wi_in (by omega) (by omega)
  have w2 : IntKind.i64.wrap ((b - a) * r) = (b - a) * r := wi_in (by omega) (by omega)
  have w3 : IntKind.i64.wrap (a + (b - a) * r / 86400000) = a + (b - a) * r / 86400000 := wi_in (by omega) (by omega)
  have rf := sFloor_run ((b - a) * r) ⟨by omega, by omega⟩
  simp only [Try.f70, G1, go_sem, Nat.reduceAdd, Nat.reduceSub, Nat.reduceMul, Nat.reduceEqDiff, Nat.reduceBEq, Nat.reduceLT, Nat.reduceLeDiff, Nat.reducePow, Int.cast_ofNat_Int, IntWalk.i64_in, IntWalk.u64_in, IntWalk.u8_in, Int.reduceToNat, Int.reduceLT, Int.reduceLE, Int.reduceGT, Int.reduceGE, Int.reduceEq, Int.reduceNeg, Int.reduceAdd, Int.reduceSub, ↓reduceIte, reduceCtorEq, beq_self_eq_true, Bool.true_beq, Bool.false_beq, Bool.and_true, Bool.true_and, Bool.false_and, Bool.and_false, Bool.and_self, Bool.not_true, Bool.not_false, Bool.not_eq_true, cond_true, cond_false, if_true, if_false, and_true, true_and, and_self, decide_true, decide_false, Bool.or_true, Bool.true_or, Bool.or_false, Bool.false_or, List.isEmpty, List.isEmpty_nil, List.size_toArray, List.map, List.length_map, List.length_cons, List.length_nil, Option.map, Option.bind, Option.getD, Option.isSome, List.replicate, Bool.false_eq_true, implies_true, forall_const, Array.toList, Array.isEmpty, List.append, List.nil_append, List.cons_append, List.drop_zero, List.take_length, List.take_succ_cons, List.take_zero, List.take_nil, List.getElem?_map, List.getElem?_cons_zero, List.getElem?_cons_succ, List.getElem?_nil, List.append_nil, w1, w2, rf, w3, mid]
theorem midA_ok : SpecOk Try.prog 70 sMid := specC_ok mixed G1_ok T1_ok fun x hp => ⟨0, 1, eMidA x.2.2 x.1 x.2.1 hp⟩
theorem down (n : Int) : (n - (n.tmod 86400000 + 86400000).tmod 86400000).tmod 86400000 = 0 ∧ (n - (n.tmod 86400000 + 86400000).tmod 86400000).tdiv 86400000 = n / 86400000 ∧ (n.tmod 86400000 = 0 → n.tdiv 86400000 = n / 86400000) ∧
    0 ≤ (n.tmod 86400000 + 86400000).tmod 86400000 ∧ (n.tmod 86400000 + 86400000).tmod 86400000 < 86400000 ∧ -86400000 < n.tmod 86400000 ∧ n.tmod 86400000 < 86400000 := by
  have h1 := Int.mul_tdiv_add_tmod n 86400000
  have h2 := Int.tmod_lt_of_pos n (show (0 : Int) < 86400000 by decide)
  have h3 := Int.lt_tmod_of_pos n (show (0 : Int) < 86400000 by decide)
  have e : (n.tmod 86400000 + 86400000).tmod 86400000 = (n.tmod 86400000 + 86400000) % 86400000 := Int.tmod_eq_emod_of_nonneg (by omega)
  rw [e]
  have f : (n.tmod 86400000 + 86400000) % 86400000 = n % 86400000 := by omega
  rw [f]
  have g : n - n % 86400000 = 86400000 * (n / 86400000) := by omega
  rw [g]
  refine ⟨Int.mul_tmod_right _ _, Int.mul_tdiv_cancel_left _ (by decide), fun h => by omega, by omega, by omega, h3, h2⟩
theorem eMidB (r a b : Int) (h : MM r a b) : evTop Try.prog G1 T1 2 1 71 [.int .i64 a, .int .i64 b, .ptr (.int .i64 r)] = some [.int .i64 (mid r a b)] := by
  unfold evTop
  simp only [List.map]
  rw [evF_s (fn := Try.f71) (msk := en71.ms) (hT := by rfl) (hb := by rfl)]
  have hb := mid_bounds h
  obtain ⟨a0, a1, b0, b1, r0, r1⟩ := h
  have w1 : IntKind.i64.wrap (b - a) = b - a := wi_in (by omega) (by omega)
  have w3 : IntKind.i64.wrap (a + (b - a) * r / 86400000) = a + (b - a) * r / 86400000 := wi_in (by omega) (by omega)
  unfold mid
  obtain ⟨n, hn0⟩ : ∃ n, n = (b - a) * r := ⟨_, rfl⟩
  have w2 : IntKind.i64.wrap ((b - a) * r) = n := by rw [hn0]; exact wi_in (by omega) (by omega)
  rw [← hn0] at w3 hb ⊢
  obtain ⟨d1, d2, d3, d4, d5, d6, d7⟩ := down n
  have w5 : IntKind.i64.wrap (n / 86400000) = n / 86400000 := wi_in (by omega) (by omega)
  by_cases hn : n.tmod 86400000 = 0
  · have := d3 hn
    simp only [Try.f71, go_sem, Nat.reduceAdd, Nat.reduceSub, Nat.reduceMul, Nat.reduceEqDiff, Nat.reduceBEq, Nat.reduceLT, Nat.reduceLeDiff, Nat.reducePow, Int.cast_ofNat_Int, IntWalk.i64_in, IntWalk.u64_in, IntWalk.u8_in, Int.reduceToNat, Int.reduceLT, Int.reduceLE, Int.reduceGT, Int.reduceGE, Int.reduceEq, Int.reduceNeg, Int.reduceAdd, Int.reduceSub, ↓reduceIte, reduceCtorEq, beq_self_eq_true, Bool.true_beq, Bool.false_beq, Bool.and_true, Bool.true_and, Bool.false_and, Bool.and_false, Bool.and_self, Bool.not_true, Bool.not_false, Bool.not_eq_true, cond_true, cond_false, if_true, if_false, and_true, true_and, and_self, decide_true, decide_false, Bool.or_true, Bool.true_or, Bool.or_false, Bool.false_or, List.isEmpty, List.isEmpty_nil, List.size_toArray, List.map, List.length_map, List.length_cons, List.length_nil, Option.map, Option.bind, Option.getD, Option.isSome, List.replicate, Bool.false_eq_true, implies_true, forall_const, Array.toList, Array.isEmpty, List.append, List.nil_append, List.cons_append, List.drop_zero, List.take_length, List.take_succ_cons, List.take_zero, List.take_nil, List.getElem?_map, List.getElem?_cons_zero, List.getElem?_cons_succ, List.getElem?_nil, List.append_nil, iter_s, w1, w2, hn, this, w5, w3]
  · have w4 : IntKind.i64.wrap (n.tmod 86400000 + 86400000) = n.tmod 86400000 + 86400000 := wi_in (by omega) (by omega)
    have w6 : IntKind.i64.wrap (n - (n.tmod 86400000 + 86400000).tmod 86400000) = n - (n.tmod 86400000 + 86400000).tmod 86400000 := wi_in (by omega) (by omega)
    simp only [Try.f71, go_sem, Nat.reduceAdd, Nat.reduceSub, Nat.reduceMul, Nat.reduceEqDiff, Nat.reduceBEq, Nat.reduceLT, Nat.reduceLeDiff, Nat.reducePow, Int.cast_ofNat_Int, IntWalk.i64_in, IntWalk.u64_in, IntWalk.u8_in, Int.reduceToNat, Int.reduceLT, Int.reduceLE, Int.reduceGT, Int.reduceGE, Int.reduceEq, Int.reduceNeg, Int.reduceAdd, Int.reduceSub, ↓reduceIte, reduceCtorEq, beq_self_eq_true, Bool.true_beq, Bool.false_beq, Bool.and_true, Bool.true_and, Bool.false_and, Bool.and_false, Bool.and_self, Bool.not_true, Bool.not_false, Bool.not_eq_true, cond_true, cond_false, if_true, if_false, and_true, true_and, and_self, decide_true, decide_false, Bool.or_true, Bool.true_or, Bool.or_false, Bool.false_or, List.isEmpty, List.isEmpty_nil, List.size_toArray, List.map, List.length_map, List.length_cons, List.length_nil, Option.map, Option.bind, Option.getD, Option.isSome, List.replicate, Bool.false_eq_true, implies_true, forall_const, Array.toList, Array.isEmpty, List.append, List.nil_append, List.cons_append, List.drop_zero, List.take_length, List.take_succ_cons, List.take_zero, List.take_nil, List.getElem?_map, List.getElem?_cons_zero, List.getElem?_cons_succ, List.getElem?_nil, List.append_nil, iter_s, w1, w2, hn, w4, w6, d1, d2, w5, w3]
theorem midB_ok : SpecOk Try.prog 71 sMid := specC_ok mixed G1_ok T1_ok fun x hp => ⟨2, 1, eMidB x.2.2 x.1 x.2.1 hp⟩
#print axioms midA_ok
#print axioms midB_ok
end Go.Proofs.YtmhjmjodchbhlaaR.FloorPlace
