/- math/bits: Add64, Mul64, Len64, LeadingZeros64: what they compute. -/
import Derived.Test.YtnojehmbiceceaaEvS
import Derived.Test.YtnojehmbiceceaaFxExp
import Derived.Test.YtnojehmbiceceaaAri
import Derived.Laws.Externs
set_option linter.unusedVariables false
set_option linter.unusedSimpArgs false
set_option maxRecDepth 100000
namespace Go.Proofs.Ytnojehmbiceceaa.Num1Exp
open Go.Ev Go.Ari Go.Proofs.Ytnojehmbiceceaa.FxExp
attribute [local go_sem] Go.Ev.putR_s Go.Ev.putR_0 Go.Ev.thenO_s Go.Ev.thenO_0 Go.Ev.seqR_n Go.Ev.seqR_e Go.Ev.seqR_r Go.Ev.seqR_0 Go.Ev.blkR_e Go.Ev.blkR_n Go.Ev.blkR_r Go.Ev.blkR_0 Go.Ev.normR_s Go.Ev.normR_0 Go.Ev.outR_r Go.Ev.outR_n Go.Ev.outR_0 Go.Ev.retS_s Go.Ev.retS_0 Go.Ev.pureO_s Go.Ev.pureO_0 Go.Ev.topR_0 Go.Ev.topR_t Go.Ev.topR_t0 Go.Ev.oneL_0 Go.Ev.oneL_s Go.Ev.topR_d Go.Ev.topR_nils Go.Ev.topR_agg Go.Ev.topR_rs Go.Ev.evOp_move Go.Ev.evOp_assign Go.Ev.evOp_pick Go.Ev.evOp_alloc Go.Ev.evOp_box Go.Ev.evOp_build Go.Ev.evOp_buildSlice Go.Ev.evOp_load Go.Ev.evOp_store Go.Ev.evOp_nilCheck Go.Ev.evOp_binOp Go.Ev.evOp_unOp Go.Ev.evOp_convert Go.Ev.evOp_makeFunc Go.Ev.evOp_makeSlice Go.Ev.evOp_slice Go.Ev.evOp_fieldAddr Go.Ev.evOp_field Go.Ev.evOp_indexAddr Go.Ev.evOp_index Go.Ev.evOp_extract Go.Ev.evOp_call Go.Ev.evOp_append Go.Ev.evOp_len Go.Ev.evOp_min Go.Ev.evOp_max Go.Ev.condR_b Go.Ev.condR_t Go.Ev.evOps_nil Go.Ev.evOps_plain Go.Ev.evOps_guard Go.Ev.runG_eq Go.Ev.skipG_eq Go.Ev.condL_tt Go.Ev.condL_ff Go.Ev.condL_tf Go.Ev.condL_ft Go.Ev.condL_u Go.Ev.condC_t Go.Ev.condC_f Go.Ev.evC_skip Go.Ev.evC_ret Go.Ev.evC_exit Go.Ev.evC_label Go.Ev.evC_region Go.Ev.evC_draw Go.Ev.evC_seq Go.Ev.evC_cond Go.Ev.evC_block Go.Ev.evC_loop Go.Ev.fin_d Go.Ev.fin_nils Go.Ev.fin_agg_ Go.Ev.fin_rs Go.Ev.finS_s Go.Ev.mapO_fin Go.Ev.upd_upd Go.Ev.argv_d Go.Ev.argv_nils Go.Ev.argv_agg Go.Ev.argv_rs Go.Ev.argv_p Go.Ev.appendTo_nils Go.Ev.appendTo_rs Go.Ev.consV_d Go.Ev.consV_agg Go.Ev.consV_p Go.Ev.consV_rs Go.Ev.consV_nils Go.Ev.consV_fn Go.Ev.consV_und Go.Ev.consV_jk Go.Ev.consV_grown Go.Ev.topR_grown Go.Ev.len_grown Go.Ev.guardV Go.Ev.dstAt Go.Ev.evPure Go.Ev.evStore Go.Ev.evPureB Go.Ev.evBin Go.Ev.evBinO Go.Ev.evNil Go.Ev.isNilC Go.Ev.evUn Go.Ev.evConv Go.Ev.evSlice Go.Ev.optI Go.Ev.lenV Go.Ev.elemT Go.Ev.foldI Go.Ev.capsOk Go.Ev.noTup Go.Ev.nth Go.Ev.setN Go.Ev.pad Go.Ev.V.get Go.Ev.V.put Go.Ev.putD Go.Ev.hasT Go.Ev.newBlk Go.Ev.upd Go.Ev.keq Go.Ev.empty Go.Ev.evCall Go.Ev.V.args Go.Ev.argP Go.Ev.callOf Go.Ev.evNilP Go.Ev.isNilP Go.Ev.look Go.Ev.V.view.views Go.Ev.V.view Go.Ev.V.toD Go.Ev.V.toD.V.toDs Go.Ev.V.pure.pures Go.Ev.V.pure Go.Ev.D.flat.flats Go.Ev.D.flat Go.Ev.mkAgg Go.Ev.allD Go.Ev.aggParts Go.Ev.setParts Go.Ev.setElems Go.Ev.getPath Go.Ev.setPath Go.Ev.subL Go.Ev.eqD Go.Ev.eqD.eqDs Go.Ev.and2 Go.Ev.strCut Go.Ev.evalT Go.Ev.constT Go.Ev.evArgs Go.Ev.mask Go.Ev.maskOf Go.Ev.tableOf Go.Ev.compT Go.Ev.resV Go.Ev.retV Go.Ev.mapO Go.Ev.elemsOf
attribute [local go_sem] Go.Proofs.Ytnojehmbiceceaa.FxExp.tk2 Go.Proofs.Ytnojehmbiceceaa.FxExp.ik2 Go.Proofs.Ytnojehmbiceceaa.FxExp.zv2 Go.Proofs.Ytnojehmbiceceaa.FxExp.tk3 Go.Proofs.Ytnojehmbiceceaa.FxExp.ik3 Go.Proofs.Ytnojehmbiceceaa.FxExp.zv3 Go.Proofs.Ytnojehmbiceceaa.FxExp.by3 Go.Proofs.Ytnojehmbiceceaa.FxExp.so3 Go.Proofs.Ytnojehmbiceceaa.FxExp.tk4 Go.Proofs.Ytnojehmbiceceaa.FxExp.ub4 Go.Proofs.Ytnojehmbiceceaa.FxExp.zv4 Go.Proofs.Ytnojehmbiceceaa.FxExp.tk5 Go.Proofs.Ytnojehmbiceceaa.FxExp.ik5 Go.Proofs.Ytnojehmbiceceaa.FxExp.zv5 Go.Proofs.Ytnojehmbiceceaa.FxExp.tk9 Go.Proofs.Ytnojehmbiceceaa.FxExp.ek9 Go.Proofs.Ytnojehmbiceceaa.FxExp.tk22 Go.Proofs.Ytnojehmbiceceaa.FxExp.zv22 Go.Proofs.Ytnojehmbiceceaa.FxExp.tk23 Go.Proofs.Ytnojehmbiceceaa.FxExp.zv23 Go.Proofs.Ytnojehmbiceceaa.FxExp.tk24 Go.Proofs.Ytnojehmbiceceaa.FxExp.ik24 Go.Proofs.Ytnojehmbiceceaa.FxExp.zv24 Go.Proofs.Ytnojehmbiceceaa.FxExp.by24 Go.Proofs.Ytnojehmbiceceaa.FxExp.so24 Go.Proofs.Ytnojehmbiceceaa.FxExp.tk26 Go.Proofs.Ytnojehmbiceceaa.FxExp.ct26 Go.Proofs.Ytnojehmbiceceaa.FxExp.zv26 Go.Proofs.Ytnojehmbiceceaa.FxExp.tk27 Go.Proofs.Ytnojehmbiceceaa.FxExp.ik27 Go.Proofs.Ytnojehmbiceceaa.FxExp.zv27 Go.Proofs.Ytnojehmbiceceaa.FxExp.tk32 Go.Proofs.Ytnojehmbiceceaa.FxExp.ik32 Go.Proofs.Ytnojehmbiceceaa.FxExp.zv32 Go.Proofs.Ytnojehmbiceceaa.FxExp.by32 Go.Proofs.Ytnojehmbiceceaa.FxExp.so32 Go.Proofs.Ytnojehmbiceceaa.FxExp.tk128 Go.Proofs.Ytnojehmbiceceaa.FxExp.zv128 Go.Proofs.Ytnojehmbiceceaa.FxExp.tk133 Go.Proofs.Ytnojehmbiceceaa.FxExp.ik133 Go.Proofs.Ytnojehmbiceceaa.FxExp.zv133 Go.Proofs.Ytnojehmbiceceaa.FxExp.tk147 Go.Proofs.Ytnojehmbiceceaa.FxExp.ik147 Go.Proofs.Ytnojehmbiceceaa.FxExp.zv147 Go.Proofs.Ytnojehmbiceceaa.FxExp.tk176 Go.Proofs.Ytnojehmbiceceaa.FxExp.ct176 Go.Proofs.Ytnojehmbiceceaa.FxExp.zv176 Go.Proofs.Ytnojehmbiceceaa.FxExp.tk221 Go.Proofs.Ytnojehmbiceceaa.FxExp.zv221 Go.Proofs.Ytnojehmbiceceaa.FxExp.tk224 Go.Proofs.Ytnojehmbiceceaa.FxExp.zv224 Go.Proofs.Ytnojehmbiceceaa.FxExp.tk241 Go.Proofs.Ytnojehmbiceceaa.FxExp.zv241 Go.Proofs.Ytnojehmbiceceaa.FxExp.tk258 Go.Proofs.Ytnojehmbiceceaa.FxExp.zv258 Go.Proofs.Ytnojehmbiceceaa.FxExp.tk295 Go.Proofs.Ytnojehmbiceceaa.FxExp.mk3_1000000 Go.Proofs.Ytnojehmbiceceaa.FxExp.mk14_0 Go.Proofs.Ytnojehmbiceceaa.FxExp.mk14_1000001 Go.Proofs.Ytnojehmbiceceaa.FxExp.mk14_1000002 Go.Proofs.Ytnojehmbiceceaa.FxExp.mk14_1000000 Go.Proofs.Ytnojehmbiceceaa.FxExp.mk15_0 Go.Proofs.Ytnojehmbiceceaa.FxExp.mk15_1000001 Go.Proofs.Ytnojehmbiceceaa.FxExp.mk15_1000002 Go.Proofs.Ytnojehmbiceceaa.FxExp.mk15_1000000 Go.Proofs.Ytnojehmbiceceaa.FxExp.mk16_1000000 Go.Proofs.Ytnojehmbiceceaa.FxExp.nc17_6 Go.Proofs.Ytnojehmbiceceaa.FxExp.mk17_0 Go.Proofs.Ytnojehmbiceceaa.FxExp.mk17_1000001 Go.Proofs.Ytnojehmbiceceaa.FxExp.mk17_1000002 Go.Proofs.Ytnojehmbiceceaa.FxExp.mk17_1000000 Go.Proofs.Ytnojehmbiceceaa.FxExp.nc25_6 Go.Proofs.Ytnojehmbiceceaa.FxExp.mk25_0 Go.Proofs.Ytnojehmbiceceaa.FxExp.mk25_1000001 Go.Proofs.Ytnojehmbiceceaa.FxExp.mk25_1000002 Go.Proofs.Ytnojehmbiceceaa.FxExp.mk25_1000000 Go.Proofs.Ytnojehmbiceceaa.FxExp.mk64_1000000 Go.Proofs.Ytnojehmbiceceaa.FxExp.mk65_1000000 Go.Proofs.Ytnojehmbiceceaa.FxExp.mk66_1000000 Go.Proofs.Ytnojehmbiceceaa.FxExp.mk67_1000000 Go.Proofs.Ytnojehmbiceceaa.FxExp.mk68_0 Go.Proofs.Ytnojehmbiceceaa.FxExp.mk68_2 Go.Proofs.Ytnojehmbiceceaa.FxExp.mk68_4 Go.Proofs.Ytnojehmbiceceaa.FxExp.mk68_1000001 Go.Proofs.Ytnojehmbiceceaa.FxExp.mk68_1000002 Go.Proofs.Ytnojehmbiceceaa.FxExp.mk68_1000003 Go.Proofs.Ytnojehmbiceceaa.FxExp.mk68_1000004 Go.Proofs.Ytnojehmbiceceaa.FxExp.mk68_1000005 Go.Proofs.Ytnojehmbiceceaa.FxExp.mk68_1000006 Go.Proofs.Ytnojehmbiceceaa.FxExp.mk68_1000000 Go.Proofs.Ytnojehmbiceceaa.FxExp.mk69_1000000 Go.Proofs.Ytnojehmbiceceaa.FxExp.nc70_10 Go.Proofs.Ytnojehmbiceceaa.FxExp.nc70_11 Go.Proofs.Ytnojehmbiceceaa.FxExp.mk70_0 Go.Proofs.Ytnojehmbiceceaa.FxExp.mk70_1000001 Go.Proofs.Ytnojehmbiceceaa.FxExp.mk70_1000002 Go.Proofs.Ytnojehmbiceceaa.FxExp.mk70_1000000 Go.Proofs.Ytnojehmbiceceaa.FxExp.nc71_6 Go.Proofs.Ytnojehmbiceceaa.FxExp.mk71_0 Go.Proofs.Ytnojehmbiceceaa.FxExp.mk71_1000001 Go.Proofs.Ytnojehmbiceceaa.FxExp.mk71_1000002 Go.Proofs.Ytnojehmbiceceaa.FxExp.mk71_1000000 Go.Proofs.Ytnojehmbiceceaa.FxExp.mk110_1000000 Go.Proofs.Ytnojehmbiceceaa.FxExp.mk147_1000001 Go.Proofs.Ytnojehmbiceceaa.FxExp.mk147_1000000 Go.Proofs.Ytnojehmbiceceaa.FxExp.mk148_1000000 Go.Proofs.Ytnojehmbiceceaa.FxExp.mk149_1000000 Go.Proofs.Ytnojehmbiceceaa.FxExp.mk150_1000001 Go.Proofs.Ytnojehmbiceceaa.FxExp.mk150_1000000 Go.Proofs.Ytnojehmbiceceaa.FxExp.mk151_0 Go.Proofs.Ytnojehmbiceceaa.FxExp.mk151_2 Go.Proofs.Ytnojehmbiceceaa.FxExp.mk151_1000001 Go.Proofs.Ytnojehmbiceceaa.FxExp.mk151_1000002 Go.Proofs.Ytnojehmbiceceaa.FxExp.mk151_1000003 Go.Proofs.Ytnojehmbiceceaa.FxExp.mk151_1000004 Go.Proofs.Ytnojehmbiceceaa.FxExp.mk151_1000000 Go.Proofs.Ytnojehmbiceceaa.FxExp.mk152_1000000 Go.Proofs.Ytnojehmbiceceaa.FxExp.nc153_1 Go.Proofs.Ytnojehmbiceceaa.FxExp.mk153_1000000 Go.Proofs.Ytnojehmbiceceaa.FxExp.nc154_5 Go.Proofs.Ytnojehmbiceceaa.FxExp.mk154_0 Go.Proofs.Ytnojehmbiceceaa.FxExp.mk154_1000001 Go.Proofs.Ytnojehmbiceceaa.FxExp.mk154_1000002 Go.Proofs.Ytnojehmbiceceaa.FxExp.mk154_1000000 Go.Proofs.Ytnojehmbiceceaa.FxExp.mk155_1000000 Go.Proofs.Ytnojehmbiceceaa.FxExp.nc156_3 Go.Proofs.Ytnojehmbiceceaa.FxExp.mk156_0 Go.Proofs.Ytnojehmbiceceaa.FxExp.mk156_1000001 Go.Proofs.Ytnojehmbiceceaa.FxExp.mk156_1000002 Go.Proofs.Ytnojehmbiceceaa.FxExp.mk156_1000000 Go.Proofs.Ytnojehmbiceceaa.FxExp.mk157_1000000 Go.Proofs.Ytnojehmbiceceaa.FxExp.mk158_1000000 Go.Proofs.Ytnojehmbiceceaa.FxExp.mk159_1000000 Go.Proofs.Ytnojehmbiceceaa.FxExp.mk172_1000000 Go.Proofs.Ytnojehmbiceceaa.FxExp.mk182_1000000 Go.Proofs.Ytnojehmbiceceaa.FxExp.mk183_1000000 Go.Proofs.Ytnojehmbiceceaa.FxExp.mk201_1000000 Go.Proofs.Ytnojehmbiceceaa.FxExp.mk202_0 Go.Proofs.Ytnojehmbiceceaa.FxExp.mk202_1000001 Go.Proofs.Ytnojehmbiceceaa.FxExp.mk202_1000002 Go.Proofs.Ytnojehmbiceceaa.FxExp.mk202_1000000 Go.Proofs.Ytnojehmbiceceaa.FxExp.nc203_6 Go.Proofs.Ytnojehmbiceceaa.FxExp.mk203_0 Go.Proofs.Ytnojehmbiceceaa.FxExp.mk203_2 Go.Proofs.Ytnojehmbiceceaa.FxExp.mk203_1000001 Go.Proofs.Ytnojehmbiceceaa.FxExp.mk203_1000002 Go.Proofs.Ytnojehmbiceceaa.FxExp.mk203_1000003 Go.Proofs.Ytnojehmbiceceaa.FxExp.mk203_1000004 Go.Proofs.Ytnojehmbiceceaa.FxExp.mk203_1000000 Go.Proofs.Ytnojehmbiceceaa.FxExp.mk204_1000000 Go.Proofs.Ytnojehmbiceceaa.FxExp.mk205_1000000 Go.Proofs.Ytnojehmbiceceaa.FxExp.mk225_1000000 Go.Proofs.Ytnojehmbiceceaa.FxExp.mk242_1000000 Go.Proofs.Ytnojehmbiceceaa.FxExp.mk243_1000000 Go.Proofs.Ytnojehmbiceceaa.FxExp.mk244_1000000 Go.Proofs.Ytnojehmbiceceaa.FxExp.mk245_0 Go.Proofs.Ytnojehmbiceceaa.FxExp.mk245_1000001 Go.Proofs.Ytnojehmbiceceaa.FxExp.mk245_1000002 Go.Proofs.Ytnojehmbiceceaa.FxExp.mk245_1000000 Go.Proofs.Ytnojehmbiceceaa.FxExp.mk262_0 Go.Proofs.Ytnojehmbiceceaa.FxExp.mk262_1000001 Go.Proofs.Ytnojehmbiceceaa.FxExp.mk262_1000002 Go.Proofs.Ytnojehmbiceceaa.FxExp.mk262_1000000
def c3 (k : IntKind) : CodL (Int × Int × Int) := cCons (cI k) (cCons (cI k) (cOne (cI k)))
def c2 (k : IntKind) : CodL (Int × Int) := cCons (cI k) (cOne (cI k))
def c1 (k : IntKind) : CodL Int := cOne (cI k)
def U (x : Int) : Prop := 0 ≤ x ∧ x < 18446744073709551616
def I (x : Int) : Prop := -9223372036854775808 ≤ x ∧ x < 9223372036854775808
/-! ### Add64 -/
noncomputable def sAdd : Ev.Spec := specC (c3 .u64) (fun x => U x.1 ∧ U x.2.1 ∧ 0 ≤ x.2.2 ∧ x.2.2 ≤ 1) fun x => [.int .u64 ((x.1 + x.2.1 + x.2.2) % 18446744073709551616), .int .u64 ((x.1 + x.2.1 + x.2.2) / 18446744073709551616)]
theorem sAdd_run (x y c : Int) (hx : U x) (hy : U y) (h0 : 0 ≤ c) (h1 : c ≤ 1) : sAdd.run [.int .u64 x, .int .u64 y, .int .u64 c] = some [.int .u64 ((x + y + c) % 18446744073709551616), .int .u64 ((x + y + c) / 18446744073709551616)] := specC_run (c3 .u64) _ _ (x, y, c) ⟨hx, hy, h0, h1⟩
theorem sAdd_ok : SpecOk Try.prog 228 sAdd := by
  intro xs rs S w vals hrun hS hargs
  unfold sAdd specC at hrun
  obtain ⟨⟨x, y, c⟩, rfl, ⟨hx, hy, h0, h1⟩, rfl⟩ := mkSpec_inv hrun
  have hr := hargs (fun _ => none) empty
  obtain ⟨v1, r1, rfl, a1, hr⟩ := hr
  obtain ⟨v2, r2, rfl, a2, hr⟩ := hr
  obtain ⟨v3, r3, rfl, a3, hr⟩ := hr
  cases hr
  have e1 := relV_int (RelN.to_v a1)
  have e2 := relV_int (RelN.to_v a2)
  have e3 := relV_int (RelN.to_v a3)
  subst e1 e2 e3
  refine .inr ⟨.tuple #[.int .u64 ((x + y + c) % 18446744073709551616), .int .u64 ((x + y + c) / 18446744073709551616)], w, ?_, RowKit.Below.refl _ _, ?_⟩
  · rw [run_callFunc_extern Try.func228 (by kernel_rfl) (by kernel_rfl) (by kernel_rfl) (e := add64Entry) (by kernel_rfl)]
    simp only [run_add64 x y c hx.1 hy.1 h0 h1, Result.andThen_ok]
  · intro σ st
    exact ⟨[_, _], rfl, ⟨_, _, rfl, .inr (.inr ⟨rfl, rfl⟩), ⟨_, _, rfl, .inr (.inr ⟨rfl, rfl⟩), rfl⟩⟩⟩
/-! ### Mul64 -/
noncomputable def T1 : Table := tableOf [(172, en172), (225, en225), (244, en244)]
theorem T1_ok : TableOk Try.prog (([] : Specs).map (·.1)) T1 := (table_cons Try.func172 (by kernel_rfl) (by kernel_rfl) (table_cons Try.func225 (by kernel_rfl) (by kernel_rfl) (table_cons Try.func244 (by kernel_rfl) (by kernel_rfl) table_nil)))
noncomputable def sMul : Ev.Spec := specC (c2 .u64) (fun x => U x.1 ∧ U x.2) fun x => [.int .u64 (x.1 * x.2 / 18446744073709551616), .int .u64 (x.1 * x.2 % 18446744073709551616)]
theorem sMul_run (x y : Int) (hx : U x) (hy : U y) : sMul.run [.int .u64 x, .int .u64 y] = some [.int .u64 (x * y / 18446744073709551616), .int .u64 (x * y % 18446744073709551616)] := specC_run (c2 .u64) _ _ (x, y) ⟨hx, hy⟩
theorem eMul (x y : Int) (hx : U x) (hy : U y) : evTop Try.prog [] T1 0 1 172 [.int .u64 x, .int .u64 y] = some [.int .u64 (x * y / 18446744073709551616), .int .u64 (x * y % 18446744073709551616)] := by
  unfold evTop
  simp only [List.map]
  rw [evF_s (fn := Try.f172) (msk := en172.ms) (hT := by rfl) (hb := by rfl)]
  simp only [Try.f172, go_sem, Nat.reduceAdd, Nat.reduceSub, Nat.reduceMul, Nat.reduceEqDiff, Nat.reduceBEq, Nat.reduceLT, Nat.reduceLeDiff, Nat.reducePow, Int.cast_ofNat_Int, IntWalk.i64_in, IntWalk.u64_in, IntWalk.u8_in, Int.reduceToNat, Int.reduceLT, Int.reduceLE, Int.reduceGT, Int.reduceGE, Int.reduceEq, Int.reduceNeg, Int.reduceAdd, Int.reduceSub, ↓reduceIte, reduceCtorEq, beq_self_eq_true, Bool.true_beq, Bool.false_beq, Bool.and_true, Bool.true_and, Bool.false_and, Bool.and_false, Bool.and_self, Bool.not_true, Bool.not_false, Bool.not_eq_true, cond_true, cond_false, if_true, if_false, and_true, true_and, and_self, decide_true, decide_false, Bool.or_true, Bool.true_or, Bool.or_false, Bool.false_or, List.isEmpty, List.isEmpty_nil, List.size_toArray, List.map, List.length_map, List.length_cons, List.length_nil, Option.map, Option.bind, Option.getD, Option.isSome, List.replicate, Bool.false_eq_true, implies_true, forall_const, Array.toList, Array.isEmpty, List.append, List.nil_append, List.cons_append, List.drop_zero, List.take_length, List.take_succ_cons, List.take_zero, List.take_nil, List.getElem?_map, List.getElem?_cons_zero, List.getElem?_cons_succ, List.getElem?_nil, List.append_nil]
  have m := mul_hi hx.1 hx.2 hy.1 hy.2
  rw [m, wu (x * y)]
theorem sMul_ok : SpecOk Try.prog 172 sMul := specC_ok mixed specs_nil T1_ok fun x hp => ⟨0, 1, eMul x.1 x.2 hp.1 hp.2⟩
/-! ### Len64 -/
theorem tab_at {n : Int} (h0 : 0 ≤ n) (h : n < 256) : strAt ⟨#[0, 1, 2, 2, 3, 3, 3, 3, 4, 4, 4, 4, 4, 4, 4, 4, 5, 5, 5, 5, 5, 5, 5, 5, 5, 5, 5, 5, 5, 5, 5, 5, 6, 6, 6, 6, 6, 6, 6, 6, 6, 6, 6, 6, 6, 6, 6, 6, 6, 6, 6, 6, 6, 6, 6, 6, 6, 6, 6, 6, 6, 6, 6, 6, 7, 7, 7, 7, 7, 7, 7, 7, 7, 7, 7, 7, 7, 7, 7, 7, 7, 7, 7, 7, 7, 7, 7, 7, 7, 7, 7, 7, 7, 7, 7, 7, 7, 7, 7, 7, 7, 7, 7, 7, 7, 7, 7, 7, 7, 7, 7, 7, 7, 7, 7, 7, 7, 7, 7, 7, 7, 7, 7, 7, 7, 7, 7, 7, 8, 8, 8, 8, 8, 8, 8, 8, 8, 8, 8, 8, 8, 8, 8, 8, 8, 8, 8, 8, 8, 8, 8, 8, 8, 8, 8, 8, 8, 8, 8, 8, 8, 8, 8, 8, 8, 8, 8, 8, 8, 8, 8, 8, 8, 8, 8, 8, 8, 8, 8, 8, 8, 8, 8, 8, 8, 8, 8, 8, 8, 8, 8, 8, 8, 8, 8, 8, 8, 8, 8, 8, 8, 8, 8, 8, 8, 8, 8, 8, 8, 8, 8, 8, 8, 8, 8, 8, 8, 8, 8, 8, 8, 8, 8, 8, 8, 8, 8, 8, 8, 8, 8, 8, 8, 8, 8, 8, 8, 8, 8, 8, 8, 8, 8, 8, 8, 8, 8, 8, 8, 8, 8, 8, 8, 8, 8, 8]⟩ n = some (.d (.int .u8 (bitLen n.toNat))) := by
  have hs : n.toNat < (⟨#[0, 1, 2, 2, 3, 3, 3, 3, 4, 4, 4, 4, 4, 4, 4, 4, 5, 5, 5, 5, 5, 5, 5, 5, 5, 5, 5, 5, 5, 5, 5, 5, 6, 6, 6, 6, 6, 6, 6, 6, 6, 6, 6, 6, 6, 6, 6, 6, 6, 6, 6, 6, 6, 6, 6, 6, 6, 6, 6, 6, 6, 6, 6, 6, 7, 7, 7, 7, 7, 7, 7, 7, 7, 7, 7, 7, 7, 7, 7, 7, 7, 7, 7, 7, 7, 7, 7, 7, 7, 7, 7, 7, 7, 7, 7, 7, 7, 7, 7, 7, 7, 7, 7, 7, 7, 7, 7, 7, 7, 7, 7, 7, 7, 7, 7, 7, 7, 7, 7, 7, 7, 7, 7, 7, 7, 7, 7, 7, 8, 8, 8, 8, 8, 8, 8, 8, 8, 8, 8, 8, 8, 8, 8, 8, 8, 8, 8, 8, 8, 8, 8, 8, 8, 8, 8, 8, 8, 8, 8, 8, 8, 8, 8, 8, 8, 8, 8, 8, 8, 8, 8, 8, 8, 8, 8, 8, 8, 8, 8, 8, 8, 8, 8, 8, 8, 8, 8, 8, 8, 8, 8, 8, 8, 8, 8, 8, 8, 8, 8, 8, 8, 8, 8, 8, 8, 8, 8, 8, 8, 8, 8, 8, 8, 8, 8, 8, 8, 8, 8, 8, 8, 8, 8, 8, 8, 8, 8, 8, 8, 8, 8, 8, 8, 8, 8, 8, 8, 8, 8, 8, 8, 8, 8, 8, 8, 8, 8, 8, 8, 8, 8, 8, 8, 8, 8, 8]⟩ : ByteArray).size := by
    show n.toNat < 256; omega
  have ht := len8tab_get n.toNat hs
  unfold strAt
  rw [if_pos h0, ByteArray.getElem?_lt' _ _ hs]
  simp only [ht]
theorem bl_shift {x : Int} (b : Nat) (p : Int) (hp : p = ((2 ^ b : Nat) : Int)) (h0 : 0 ≤ x) (h : p ≤ x) : (bitLen x.toNat : Int) = b + bitLen (x / p).toNat := by
  subst hp
  obtain ⟨n, rfl⟩ := Int.eq_ofNat_of_zero_le h0
  have hp : 0 < 2 ^ b := Nat.two_pow_pos b
  have hle : 2 ^ b ≤ n := by exact_mod_cast h
  have hd : n / 2 ^ b ≠ 0 := by
    have := Nat.div_pos hle hp
    omega
  have e : ((n : Int) / ((2 ^ b : Nat) : Int)).toNat = n / 2 ^ b := by rw [← Int.natCast_ediv, Int.toNat_natCast]
  rw [e, Int.toNat_natCast, bitLen_shift n b hd]
  simp
def lenR (x : Int) : V := .d (.int .i64 (bitLen x.toNat))
theorem eLen (x : Int) (hx : U x) (st : Store) (lv L : Nat) (c : Nat) : evF Try.prog [] T1 L (c + 1) 225 [.d (.int .u64 x)] lv st = some (lenR x, st) := by
  rw [evF_s (fn := Try.f225) (msk := en225.ms) (hT := by rfl) (hb := by rfl)]
  obtain ⟨h0, h1⟩ := hx
  have d0 : 0 ≤ x ∧ x < 18446744073709551616 := ⟨h0, h1⟩
  by_cases a1 : x ≥ 4294967296
  · have b1 := bl_shift 32 4294967296 (by decide) d0.1 a1
    have d1 : 0 ≤ x / 4294967296 ∧ x / 4294967296 < 4294967296 := by omega
    generalize hy : x / 4294967296 = y at *
    by_cases a2 : y ≥ 65536
    · have b2 := bl_shift 16 65536 (by decide) d1.1 a2
      have d2 : 0 ≤ y / 65536 ∧ y / 65536 < 65536 := by omega
      generalize hz : y / 65536 = z at *
      by_cases a3 : z ≥ 256
      · have b3 := bl_shift 8 256 (by decide) d2.1 a3
        have d3 : 0 ≤ z / 256 ∧ z / 256 < 256 := by omega
        generalize ht : z / 256 = t at *
        have s2 : shrI .u64 y 16 = y / 65536 := shr_lit .u64 y 16 (by decide)
        have s3 : shrI .u64 z 8 = z / 256 := shr_lit .u64 z 8 (by decide)
        have w8 : IntKind.u8.wrap t = t := by rw [IntKind.wrap_u8]; omega
        have hb := bitLen_le8 t.toNat (by omega)
        have wl : IntKind.i64.wrap (bitLen t.toNat : Int) = bitLen t.toNat := by rw [wi]; omega
        have wt : IntKind.i64.wrap (56 + (bitLen t.toNat : Int)) = bitLen x.toNat := by rw [wi]; omega
        simp only [Try.f225, go_sem, Nat.reduceAdd, Nat.reduceSub, Nat.reduceMul, Nat.reduceEqDiff, Nat.reduceBEq, Nat.reduceLT, Nat.reduceLeDiff, Nat.reducePow, Int.cast_ofNat_Int, IntWalk.i64_in, IntWalk.u64_in, IntWalk.u8_in, Int.reduceToNat, Int.reduceLT, Int.reduceLE, Int.reduceGT, Int.reduceGE, Int.reduceEq, Int.reduceNeg, Int.reduceAdd, Int.reduceSub, ↓reduceIte, reduceCtorEq, beq_self_eq_true, Bool.true_beq, Bool.false_beq, Bool.and_true, Bool.true_and, Bool.false_and, Bool.and_false, Bool.and_self, Bool.not_true, Bool.not_false, Bool.not_eq_true, cond_true, cond_false, if_true, if_false, and_true, true_and, and_self, decide_true, decide_false, Bool.or_true, Bool.true_or, Bool.or_false, Bool.false_or, List.isEmpty, List.isEmpty_nil, List.size_toArray, List.map, List.length_map, List.length_cons, List.length_nil, Option.map, Option.bind, Option.getD, Option.isSome, List.replicate, Bool.false_eq_true, implies_true, forall_const, Array.toList, Array.isEmpty, List.append, List.nil_append, List.cons_append, List.drop_zero, List.take_length, List.take_succ_cons, List.take_zero, List.take_nil, List.getElem?_map, List.getElem?_cons_zero, List.getElem?_cons_succ, List.getElem?_nil, List.append_nil, a1, shr32, hy, a2, s2, hz, a3, s3, ht, w8, tab_at d3.1 d3.2, wl, wt, lenR]
      · have d3 : 0 ≤ z ∧ z < 256 := by omega
        have e3 : z = z := rfl
        have s2 : shrI .u64 y 16 = y / 65536 := shr_lit .u64 y 16 (by decide)
        have s3 : shrI .u64 z 8 = z / 256 := shr_lit .u64 z 8 (by decide)
        have w8 : IntKind.u8.wrap z = z := by rw [IntKind.wrap_u8]; omega
        have hb := bitLen_le8 z.toNat (by omega)
        have wl : IntKind.i64.wrap (bitLen z.toNat : Int) = bitLen z.toNat := by rw [wi]; omega
        have wt : IntKind.i64.wrap (48 + (bitLen z.toNat : Int)) = bitLen x.toNat := by rw [wi]; omega
        simp only [Try.f225, go_sem, Nat.reduceAdd, Nat.reduceSub, Nat.reduceMul, Nat.reduceEqDiff, Nat.reduceBEq, Nat.reduceLT, Nat.reduceLeDiff, Nat.reducePow, Int.cast_ofNat_Int, IntWalk.i64_in, IntWalk.u64_in, IntWalk.u8_in, Int.reduceToNat, Int.reduceLT, Int.reduceLE, Int.reduceGT, Int.reduceGE, Int.reduceEq, Int.reduceNeg, Int.reduceAdd, Int.reduceSub, ↓reduceIte, reduceCtorEq, beq_self_eq_true, Bool.true_beq, Bool.false_beq, Bool.and_true, Bool.true_and, Bool.false_and, Bool.and_false, Bool.and_self, Bool.not_true, Bool.not_false, Bool.not_eq_true, cond_true, cond_false, if_true, if_false, and_true, true_and, and_self, decide_true, decide_false, Bool.or_true, Bool.true_or, Bool.or_false, Bool.false_or, List.isEmpty, List.isEmpty_nil, List.size_toArray, List.map, List.length_map, List.length_cons, List.length_nil, Option.map, Option.bind, Option.getD, Option.isSome, List.replicate, Bool.false_eq_true, implies_true, forall_const, Array.toList, Array.isEmpty, List.append, List.nil_append, List.cons_append, List.drop_zero, List.take_length, List.take_succ_cons, List.take_zero, List.take_nil, List.getElem?_map, List.getElem?_cons_zero, List.getElem?_cons_succ, List.getElem?_nil, List.append_nil, a1, shr32, hy, a2, s2, hz, a3, s3,  w8, tab_at d3.1 d3.2, wl, wt, lenR]
    · have d2 : 0 ≤ y ∧ y < 65536 := by omega
      have e2 : y = y := rfl
      by_cases a3 : y ≥ 256
      · have b3 := bl_shift 8 256 (by decide) d2.1 a3
        have d3 : 0 ≤ y / 256 ∧ y / 256 < 256 := by omega
        generalize ht : y / 256 = t at *
        have s2 : shrI .u64 y 16 = y / 65536 := shr_lit .u64 y 16 (by decide)
        have s3 : shrI .u64 y 8 = y / 256 := shr_lit .u64 y 8 (by decide)
        have w8 : IntKind.u8.wrap t = t := by rw [IntKind.wrap_u8]; omega
        have hb := bitLen_le8 t.toNat (by omega)
        have wl : IntKind.i64.wrap (bitLen t.toNat : Int) = bitLen t.toNat := by rw [wi]; omega
        have wt : IntKind.i64.wrap (40 + (bitLen t.toNat : Int)) = bitLen x.toNat := by rw [wi]; omega
        simp only [Try.f225, go_sem, Nat.reduceAdd, Nat.reduceSub, Nat.reduceMul, Nat.reduceEqDiff, Nat.reduceBEq, Nat.reduceLT, Nat.reduceLeDiff, Nat.reducePow, Int.cast_ofNat_Int, IntWalk.i64_in, IntWalk.u64_in, IntWalk.u8_in, Int.reduceToNat, Int.reduceLT, Int.reduceLE, Int.reduceGT, Int.reduceGE, Int.reduceEq, Int.reduceNeg, Int.reduceAdd, Int.reduceSub, ↓reduceIte, reduceCtorEq, beq_self_eq_true, Bool.true_beq, Bool.false_beq, Bool.and_true, Bool.true_and, Bool.false_and, Bool.and_false, Bool.and_self, Bool.not_true, Bool.not_false, Bool.not_eq_true, cond_true, cond_false, if_true, if_false, and_true, true_and, and_self, decide_true, decide_false, Bool.or_true, Bool.true_or, Bool.or_false, Bool.false_or, List.isEmpty, List.isEmpty_nil, List.size_toArray, List.map, List.length_map, List.length_cons, List.length_nil, Option.map, Option.bind, Option.getD, Option.isSome, List.replicate, Bool.false_eq_true, implies_true, forall_const, Array.toList, Array.isEmpty, List.append, List.nil_append, List.cons_append, List.drop_zero, List.take_length, List.take_succ_cons, List.take_zero, List.take_nil, List.getElem?_map, List.getElem?_cons_zero, List.getElem?_cons_succ, List.getElem?_nil, List.append_nil, a1, shr32, hy, a2, s2,  a3, s3, ht, w8, tab_at d3.1 d3.2, wl, wt, lenR]
      · have d3 : 0 ≤ y ∧ y < 256 := by omega
        have e3 : y = y := rfl
        have s2 : shrI .u64 y 16 = y / 65536 := shr_lit .u64 y 16 (by decide)
        have s3 : shrI .u64 y 8 = y / 256 := shr_lit .u64 y 8 (by decide)
        have w8 : IntKind.u8.wrap y = y := by rw [IntKind.wrap_u8]; omega
        have hb := bitLen_le8 y.toNat (by omega)
        have wl : IntKind.i64.wrap (bitLen y.toNat : Int) = bitLen y.toNat := by rw [wi]; omega
        have wt : IntKind.i64.wrap (32 + (bitLen y.toNat : Int)) = bitLen x.toNat := by rw [wi]; omega
        simp only [Try.f225, go_sem, Nat.reduceAdd, Nat.reduceSub, Nat.reduceMul, Nat.reduceEqDiff, Nat.reduceBEq, Nat.reduceLT, Nat.reduceLeDiff, Nat.reducePow, Int.cast_ofNat_Int, IntWalk.i64_in, IntWalk.u64_in, IntWalk.u8_in, Int.reduceToNat, Int.reduceLT, Int.reduceLE, Int.reduceGT, Int.reduceGE, Int.reduceEq, Int.reduceNeg, Int.reduceAdd, Int.reduceSub, ↓reduceIte, reduceCtorEq, beq_self_eq_true, Bool.true_beq, Bool.false_beq, Bool.and_true, Bool.true_and, Bool.false_and, Bool.and_false, Bool.and_self, Bool.not_true, Bool.not_false, Bool.not_eq_true, cond_true, cond_false, if_true, if_false, and_true, true_and, and_self, decide_true, decide_false, Bool.or_true, Bool.true_or, Bool.or_false, Bool.false_or, List.isEmpty, List.isEmpty_nil, List.size_toArray, List.map, List.length_map, List.length_cons, List.length_nil, Option.map, Option.bind, Option.getD, Option.isSome, List.replicate, Bool.false_eq_true, implies_true, forall_const, Array.toList, Array.isEmpty, List.append, List.nil_append, List.cons_append, List.drop_zero, List.take_length, List.take_succ_cons, List.take_zero, List.take_nil, List.getElem?_map, List.getElem?_cons_zero, List.getElem?_cons_succ, List.getElem?_nil, List.append_nil, a1, shr32, hy, a2, s2,  a3, s3,  w8, tab_at d3.1 d3.2, wl, wt, lenR]
  · have d1 : 0 ≤ x ∧ x < 4294967296 := by omega
    have e1 : x = x := rfl
    by_cases a2 : x ≥ 65536
    · have b2 := bl_shift 16 65536 (by decide) d1.1 a2
      have d2 : 0 ≤ x / 65536 ∧ x / 65536 < 65536 := by omega
      generalize hz : x / 65536 = z at *
      by_cases a3 : z ≥ 256
      · have b3 := bl_shift 8 256 (by decide) d2.1 a3
        have d3 : 0 ≤ z / 256 ∧ z / 256 < 256 := by omega
        generalize ht : z / 256 = t at *
        have s2 : shrI .u64 x 16 = x / 65536 := shr_lit .u64 x 16 (by decide)
        have s3 : shrI .u64 z 8 = z / 256 := shr_lit .u64 z 8 (by decide)
        have w8 : IntKind.u8.wrap t = t := by rw [IntKind.wrap_u8]; omega
        have hb := bitLen_le8 t.toNat (by omega)
        have wl : IntKind.i64.wrap (bitLen t.toNat : Int) = bitLen t.toNat := by rw [wi]; omega
        have wt : IntKind.i64.wrap (24 + (bitLen t.toNat : Int)) = bitLen x.toNat := by rw [wi]; omega
        simp only [Try.f225, go_sem, Nat.reduceAdd, Nat.reduceSub, Nat.reduceMul, Nat.reduceEqDiff, Nat.reduceBEq, Nat.reduceLT, Nat.reduceLeDiff, Nat.reducePow, Int.cast_ofNat_Int, IntWalk.i64_in, IntWalk.u64_in, IntWalk.u8_in, Int.reduceToNat, Int.reduceLT, Int.reduceLE, Int.reduceGT, Int.reduceGE, Int.reduceEq, Int.reduceNeg, Int.reduceAdd, Int.reduceSub, ↓reduceIte, reduceCtorEq, beq_self_eq_true, Bool.true_beq, Bool.false_beq, Bool.and_true, Bool.true_and, Bool.false_and, Bool.and_false, Bool.and_self, Bool.not_true, Bool.not_false, Bool.not_eq_true, cond_true, cond_false, if_true, if_false, and_true, true_and, and_self, decide_true, decide_false, Bool.or_true, Bool.true_or, Bool.or_false, Bool.false_or, List.isEmpty, List.isEmpty_nil, List.size_toArray, List.map, List.length_map, List.length_cons, List.length_nil, Option.map, Option.bind, Option.getD, Option.isSome, List.replicate, Bool.false_eq_true, implies_true, forall_const, Array.toList, Array.isEmpty, List.append, List.nil_append, List.cons_append, List.drop_zero, List.take_length, List.take_succ_cons, List.take_zero, List.take_nil, List.getElem?_map, List.getElem?_cons_zero, List.getElem?_cons_succ, List.getElem?_nil, List.append_nil, a1, shr32,  a2, s2, hz, a3, s3, ht, w8, tab_at d3.1 d3.2, wl, wt, lenR]
      · have d3 : 0 ≤ z ∧ z < 256 := by omega
        have e3 : z = z := rfl
        have s2 : shrI .u64 x 16 = x / 65536 := shr_lit .u64 x 16 (by decide)
        have s3 : shrI .u64 z 8 = z / 256 := shr_lit .u64 z 8 (by decide)
        have w8 : IntKind.u8.wrap z = z := by rw [IntKind.wrap_u8]; omega
        have hb := bitLen_le8 z.toNat (by omega)
        have wl : IntKind.i64.wrap (bitLen z.toNat : Int) = bitLen z.toNat := by rw [wi]; omega
        have wt : IntKind.i64.wrap (16 + (bitLen z.toNat : Int)) = bitLen x.toNat := by rw [wi]; omega
        simp only [Try.f225, go_sem, Nat.reduceAdd, Nat.reduceSub, Nat.reduceMul, Nat.reduceEqDiff, Nat.reduceBEq, Nat.reduceLT, Nat.reduceLeDiff, Nat.reducePow, Int.cast_ofNat_Int, IntWalk.i64_in, IntWalk.u64_in, IntWalk.u8_in, Int.reduceToNat, Int.reduceLT, Int.reduceLE, Int.reduceGT, Int.reduceGE, Int.reduceEq, Int.reduceNeg, Int.reduceAdd, Int.reduceSub, ↓reduceIte, reduceCtorEq, beq_self_eq_true, Bool.true_beq, Bool.false_beq, Bool.and_true, Bool.true_and, Bool.false_and, Bool.and_false, Bool.and_self, Bool.not_true, Bool.not_false, Bool.not_eq_true, cond_true, cond_false, if_true, if_false, and_true, true_and, and_self, decide_true, decide_false, Bool.or_true, Bool.true_or, Bool.or_false, Bool.false_or, List.isEmpty, List.isEmpty_nil, List.size_toArray, List.map, List.length_map, List.length_cons, List.length_nil, Option.map, Option.bind, Option.getD, Option.isSome, List.replicate, Bool.false_eq_true, implies_true, forall_const, Array.toList, Array.isEmpty, List.append, List.nil_append, List.cons_append, List.drop_zero, List.take_length, List.take_succ_cons, List.take_zero, List.take_nil, List.getElem?_map, List.getElem?_cons_zero, List.getElem?_cons_succ, List.getElem?_nil, List.append_nil, a1, shr32,  a2, s2, hz, a3, s3,  w8, tab_at d3.1 d3.2, wl, wt, lenR]
    · have d2 : 0 ≤ x ∧ x < 65536 := by omega
      have e2 : x = x := rfl
      by_cases a3 : x ≥ 256
      · have b3 := bl_shift 8 256 (by decide) d2.1 a3
        have d3 : 0 ≤ x / 256 ∧ x / 256 < 256 := by omega
        generalize ht : x / 256 = t at *
        have s2 : shrI .u64 x 16 = x / 65536 := shr_lit .u64 x 16 (by decide)
        have s3 : shrI .u64 x 8 = x / 256 := shr_lit .u64 x 8 (by decide)
        have w8 : IntKind.u8.wrap t = t := by rw [IntKind.wrap_u8]; omega
        have hb := bitLen_le8 t.toNat (by omega)
        have wl : IntKind.i64.wrap (bitLen t.toNat : Int) = bitLen t.toNat := by rw [wi]; omega
        have wt : IntKind.i64.wrap (8 + (bitLen t.toNat : Int)) = bitLen x.toNat := by rw [wi]; omega
        simp only [Try.f225, go_sem, Nat.reduceAdd, Nat.reduceSub, Nat.reduceMul, Nat.reduceEqDiff, Nat.reduceBEq, Nat.reduceLT, Nat.reduceLeDiff, Nat.reducePow, Int.cast_ofNat_Int, IntWalk.i64_in, IntWalk.u64_in, IntWalk.u8_in, Int.reduceToNat, Int.reduceLT, Int.reduceLE, Int.reduceGT, Int.reduceGE, Int.reduceEq, Int.reduceNeg, Int.reduceAdd, Int.reduceSub, ↓reduceIte, reduceCtorEq, beq_self_eq_true, Bool.true_beq, Bool.false_beq, Bool.and_true, Bool.true_and, Bool.false_and, Bool.and_false, Bool.and_self, Bool.not_true, Bool.not_false, Bool.not_eq_true, cond_true, cond_false, if_true, if_false, and_true, true_and, and_self, decide_true, decide_false, Bool.or_true, Bool.true_or, Bool.or_false, Bool.false_or, List.isEmpty, List.isEmpty_nil, List.size_toArray, List.map, List.length_map, List.length_cons, List.length_nil, Option.map, Option.bind, Option.getD, Option.isSome, List.replicate, Bool.false_eq_true, implies_true, forall_const, Array.toList, Array.isEmpty, List.append, List.nil_append, List.cons_append, List.drop_zero, List.take_length, List.take_succ_cons, List.take_zero, List.take_nil, List.getElem?_map, List.getElem?_cons_zero, List.getElem?_cons_succ, List.getElem?_nil, List.append_nil, a1, shr32,  a2, s2,  a3, s3, ht, w8, tab_at d3.1 d3.2, wl, wt, lenR]
      · have d3 : 0 ≤ x ∧ x < 256 := by omega
        have e3 : x = x := rfl
        have s2 : shrI .u64 x 16 = x / 65536 := shr_lit .u64 x 16 (by decide)
        have s3 : shrI .u64 x 8 = x / 256 := shr_lit .u64 x 8 (by decide)
        have w8 : IntKind.u8.wrap x = x := by rw [IntKind.wrap_u8]; omega
        have hb := bitLen_le8 x.toNat (by omega)
        have wl : IntKind.i64.wrap (bitLen x.toNat : Int) = bitLen x.toNat := by rw [wi]; omega
        have wt : IntKind.i64.wrap (0 + (bitLen x.toNat : Int)) = bitLen x.toNat := by rw [wi]; omega
        have wz : IntKind.i64.wrap (0 + (bitLen x.toNat : Int)) = bitLen x.toNat := wt
        simp only [Try.f225, go_sem, Nat.reduceAdd, Nat.reduceSub, Nat.reduceMul, Nat.reduceEqDiff, Nat.reduceBEq, Nat.reduceLT, Nat.reduceLeDiff, Nat.reducePow, Int.cast_ofNat_Int, IntWalk.i64_in, IntWalk.u64_in, IntWalk.u8_in, Int.reduceToNat, Int.reduceLT, Int.reduceLE, Int.reduceGT, Int.reduceGE, Int.reduceEq, Int.reduceNeg, Int.reduceAdd, Int.reduceSub, ↓reduceIte, reduceCtorEq, beq_self_eq_true, Bool.true_beq, Bool.false_beq, Bool.and_true, Bool.true_and, Bool.false_and, Bool.and_false, Bool.and_self, Bool.not_true, Bool.not_false, Bool.not_eq_true, cond_true, cond_false, if_true, if_false, and_true, true_and, and_self, decide_true, decide_false, Bool.or_true, Bool.true_or, Bool.or_false, Bool.false_or, List.isEmpty, List.isEmpty_nil, List.size_toArray, List.map, List.length_map, List.length_cons, List.length_nil, Option.map, Option.bind, Option.getD, Option.isSome, List.replicate, Bool.false_eq_true, implies_true, forall_const, Array.toList, Array.isEmpty, List.append, List.nil_append, List.cons_append, List.drop_zero, List.take_length, List.take_succ_cons, List.take_zero, List.take_nil, List.getElem?_map, List.getElem?_cons_zero, List.getElem?_cons_succ, List.getElem?_nil, List.append_nil, a1, shr32,  a2, s2,  a3, s3,  w8, tab_at d3.1 d3.2, wl, wt, lenR]
/-! ### LeadingZeros64 -/
noncomputable def sLz : Ev.Spec := specC (c1 .u64) U fun x => [.int .i64 (64 - bitLen x.toNat)]
theorem sLz_run (x : Int) (hx : U x) : sLz.run [.int .u64 x] = some [.int .i64 (64 - bitLen x.toNat)] := specC_run (c1 .u64) _ _ x hx
theorem bl_le {x : Int} (hx : U x) : bitLen x.toNat ≤ 64 := by
  obtain ⟨h0, h1⟩ := hx
  by_cases h : x.toNat = 0
  · rw [h]; decide
  · obtain ⟨a, b⟩ := bitLen_spec x.toNat
    refine Nat.le_of_not_lt fun hc => ?_
    have := b h
    have : 2 ^ 64 ≤ 2 ^ (bitLen x.toNat - 1) := Nat.pow_le_pow_right (by decide) (by omega)
    have : (2 : Nat) ^ 64 = 18446744073709551616 := by decide
    omega
theorem eLz (x : Int) (hx : U x) : evTop Try.prog [] T1 0 2 244 [.int .u64 x] = some [.int .i64 (64 - bitLen x.toNat)] := by
  unfold evTop
  simp only [List.map]
  rw [evF_s (fn := Try.f244) (msk := en244.ms) (hT := by rfl) (hb := by rfl)]
  have hb := bl_le hx
  have w : IntKind.i64.wrap (64 - (bitLen x.toNat : Int)) = 64 - bitLen x.toNat := by rw [wi]; omega
  simp only [Try.f244, go_sem, Nat.reduceAdd, Nat.reduceSub, Nat.reduceMul, Nat.reduceEqDiff, Nat.reduceBEq, Nat.reduceLT, Nat.reduceLeDiff, Nat.reducePow, Int.cast_ofNat_Int, IntWalk.i64_in, IntWalk.u64_in, IntWalk.u8_in, Int.reduceToNat, Int.reduceLT, Int.reduceLE, Int.reduceGT, Int.reduceGE, Int.reduceEq, Int.reduceNeg, Int.reduceAdd, Int.reduceSub, ↓reduceIte, reduceCtorEq, beq_self_eq_true, Bool.true_beq, Bool.false_beq, Bool.and_true, Bool.true_and, Bool.false_and, Bool.and_false, Bool.and_self, Bool.not_true, Bool.not_false, Bool.not_eq_true, cond_true, cond_false, if_true, if_false, and_true, true_and, and_self, decide_true, decide_false, Bool.or_true, Bool.true_or, Bool.or_false, Bool.false_or, List.isEmpty, List.isEmpty_nil, List.size_toArray, List.map, List.length_map, List.length_cons, List.length_nil, Option.map, Option.bind, Option.getD, Option.isSome, List.replicate, Bool.false_eq_true, implies_true, forall_const, Array.toList, Array.isEmpty, List.append, List.nil_append, List.cons_append, List.drop_zero, List.take_length, List.take_succ_cons, List.take_zero, List.take_nil, List.getElem?_map, List.getElem?_cons_zero, List.getElem?_cons_succ, List.getElem?_nil, List.append_nil, eLen x hx, lenR, w]
theorem sLz_ok : SpecOk Try.prog 244 sLz := specC_ok mixed specs_nil T1_ok fun x hp => ⟨0, 2, eLz x hp⟩
#print axioms sLz_ok
#print axioms sAdd_ok
#print axioms sMul_ok
end Go.Proofs.Ytnojehmbiceceaa.Num1Exp
