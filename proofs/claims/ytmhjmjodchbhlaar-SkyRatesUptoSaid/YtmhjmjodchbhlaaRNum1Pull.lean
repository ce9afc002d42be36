/- math/bits: Add64, Mul64, Len64, LeadingZeros64: what they compute. -/
import Derived.Test.YtmhjmjodchbhlaaREvS
import Derived.Test.YtmhjmjodchbhlaaRFxPull
import Derived.Test.YtmhjmjodchbhlaaRAri
import Derived.Laws.Externs
set_option linter.unusedVariables false
set_option linter.unusedSimpArgs false
set_option maxRecDepth 100000
namespace Go.Proofs.YtmhjmjodchbhlaaR.Num1Pull
open Go.Ev Go.Ari Go.Proofs.YtmhjmjodchbhlaaR.FxPull
attribute [local go_sem] Go.Ev.putR_s Go.Ev.putR_0 Go.Ev.thenO_s Go.Ev.thenO_0 Go.Ev.seqR_n Go.Ev.seqR_e Go.Ev.seqR_r Go.Ev.seqR_0 Go.Ev.blkR_e Go.Ev.blkR_n Go.Ev.blkR_r Go.Ev.blkR_0 Go.Ev.normR_s Go.Ev.normR_0 Go.Ev.outR_r Go.Ev.outR_n Go.Ev.outR_0 Go.Ev.retS_s Go.Ev.retS_0 Go.Ev.pureO_s Go.Ev.pureO_0 Go.Ev.topR_0 Go.Ev.topR_t Go.Ev.topR_t0 Go.Ev.oneL_0 Go.Ev.oneL_s Go.Ev.topR_d Go.Ev.topR_nils Go.Ev.topR_agg Go.Ev.topR_rs Go.Ev.evOp_move Go.Ev.evOp_assign Go.Ev.evOp_pick Go.Ev.evOp_alloc Go.Ev.evOp_box Go.Ev.evOp_build Go.Ev.evOp_buildSlice Go.Ev.evOp_load Go.Ev.evOp_store Go.Ev.evOp_makeMap Go.Ev.evOp_lookup Go.Ev.evOp_mapUpdate Go.Ev.evOp_insert Go.Ev.evOp_nilCheck Go.Ev.evOp_binOp Go.Ev.evOp_unOp Go.Ev.evOp_convert Go.Ev.evOp_makeFunc Go.Ev.evOp_makeSlice Go.Ev.evOp_slice Go.Ev.evOp_fieldAddr Go.Ev.evOp_field Go.Ev.evOp_indexAddr Go.Ev.evOp_index Go.Ev.evOp_extract Go.Ev.evOp_call Go.Ev.evOp_append Go.Ev.evOp_len Go.Ev.evOp_min Go.Ev.evOp_max Go.Ev.condR_b Go.Ev.condR_t Go.Ev.evOps_nil Go.Ev.evOps_plain Go.Ev.evOps_guard Go.Ev.runG_eq Go.Ev.skipG_eq Go.Ev.condL_tt Go.Ev.condL_ff Go.Ev.condL_tf Go.Ev.condL_ft Go.Ev.condL_u Go.Ev.condC_t Go.Ev.condC_f Go.Ev.evC_skip Go.Ev.evC_ret Go.Ev.evC_exit Go.Ev.evC_label Go.Ev.evC_region Go.Ev.evC_draw Go.Ev.evC_seq Go.Ev.evC_cond Go.Ev.evC_block Go.Ev.evC_loop Go.Ev.fin_d Go.Ev.fin_nils Go.Ev.fin_agg_ Go.Ev.fin_rs Go.Ev.finS_s Go.Ev.mapO_fin Go.Ev.upd_upd Go.Ev.argv_d Go.Ev.argv_nils Go.Ev.argv_agg Go.Ev.argv_rs Go.Ev.argv_p Go.Ev.appendTo_nils Go.Ev.appendTo_rs Go.Ev.consV_d Go.Ev.consV_agg Go.Ev.consV_p Go.Ev.consV_rs Go.Ev.consV_nils Go.Ev.consV_fn Go.Ev.consV_und Go.Ev.consV_jk Go.Ev.consV_grown Go.Ev.topR_grown Go.Ev.len_grown Go.Ev.consV_mp Go.Ev.sameK_i Go.Ev.sameK_s Go.Ev.mget_0 Go.Ev.mget_hit Go.Ev.mget_miss Go.Ev.mput_0 Go.Ev.mput_hit Go.Ev.mput_miss Go.Ev.apartAll Go.Ev.apartL Go.Ev.apartV Go.Ev.freeAll Go.Ev.sel Go.Ev.keyOfV Go.Ev.evLookup Go.Ev.evPut Go.Ev.hintOk Go.Ev.keyOk Go.Ev.consP Go.Ev.lookV Go.Ev.guardV Go.Ev.dstAt Go.Ev.evPure Go.Ev.evStore Go.Ev.evPureB Go.Ev.evBin Go.Ev.evBinO Go.Ev.evNil Go.Ev.isNilC Go.Ev.evUn Go.Ev.evConv Go.Ev.evSlice Go.Ev.optI Go.Ev.lenV Go.Ev.elemT Go.Ev.foldI Go.Ev.capsOk Go.Ev.noTup Go.Ev.nth Go.Ev.setN Go.Ev.pad Go.Ev.V.get Go.Ev.V.put Go.Ev.putD Go.Ev.hasT Go.Ev.newBlk Go.Ev.upd Go.Ev.keq Go.Ev.empty Go.Ev.evCall Go.Ev.V.args Go.Ev.argP Go.Ev.callOf Go.Ev.evNilP Go.Ev.isNilP Go.Ev.look Go.Ev.V.view.views Go.Ev.V.view Go.Ev.V.toD Go.Ev.V.toD.V.toDs Go.Ev.V.pure.pures Go.Ev.V.pure Go.Ev.D.flat.flats Go.Ev.D.flat Go.Ev.mkAgg Go.Ev.allD Go.Ev.aggParts Go.Ev.setParts Go.Ev.setElems Go.Ev.getPath Go.Ev.setPath Go.Ev.subL Go.Ev.eqD Go.Ev.eqD.eqDs Go.Ev.and2 Go.Ev.strCut Go.Ev.evalT Go.Ev.constT Go.Ev.evArgs Go.Ev.mask Go.Ev.maskOf Go.Ev.tableOf Go.Ev.compT Go.Ev.resV Go.Ev.retV Go.Ev.mapO Go.Ev.elemsOf
attribute [local go_sem] Go.Proofs.YtmhjmjodchbhlaaR.FxPull.tk2 Go.Proofs.YtmhjmjodchbhlaaR.FxPull.ik2 Go.Proofs.YtmhjmjodchbhlaaR.FxPull.ek2 Go.Proofs.YtmhjmjodchbhlaaR.FxPull.zv2 Go.Proofs.YtmhjmjodchbhlaaR.FxPull.tk3 Go.Proofs.YtmhjmjodchbhlaaR.FxPull.ik3 Go.Proofs.YtmhjmjodchbhlaaR.FxPull.ek3 Go.Proofs.YtmhjmjodchbhlaaR.FxPull.zv3 Go.Proofs.YtmhjmjodchbhlaaR.FxPull.tk4 Go.Proofs.YtmhjmjodchbhlaaR.FxPull.ub4 Go.Proofs.YtmhjmjodchbhlaaR.FxPull.zv4 Go.Proofs.YtmhjmjodchbhlaaR.FxPull.tk5 Go.Proofs.YtmhjmjodchbhlaaR.FxPull.ik5 Go.Proofs.YtmhjmjodchbhlaaR.FxPull.zv5 Go.Proofs.YtmhjmjodchbhlaaR.FxPull.tk9 Go.Proofs.YtmhjmjodchbhlaaR.FxPull.ek9 Go.Proofs.YtmhjmjodchbhlaaR.FxPull.tk23 Go.Proofs.YtmhjmjodchbhlaaR.FxPull.ct23 Go.Proofs.YtmhjmjodchbhlaaR.FxPull.ek23 Go.Proofs.YtmhjmjodchbhlaaR.FxPull.zv23 Go.Proofs.YtmhjmjodchbhlaaR.FxPull.tk27 Go.Proofs.YtmhjmjodchbhlaaR.FxPull.ik27 Go.Proofs.YtmhjmjodchbhlaaR.FxPull.zv27 Go.Proofs.YtmhjmjodchbhlaaR.FxPull.tk37 Go.Proofs.YtmhjmjodchbhlaaR.FxPull.ik37 Go.Proofs.YtmhjmjodchbhlaaR.FxPull.zv37 Go.Proofs.YtmhjmjodchbhlaaR.FxPull.by37 Go.Proofs.YtmhjmjodchbhlaaR.FxPull.so37 Go.Proofs.YtmhjmjodchbhlaaR.FxPull.tk39 Go.Proofs.YtmhjmjodchbhlaaR.FxPull.ct39 Go.Proofs.YtmhjmjodchbhlaaR.FxPull.zv39 Go.Proofs.YtmhjmjodchbhlaaR.FxPull.by39 Go.Proofs.YtmhjmjodchbhlaaR.FxPull.so39 Go.Proofs.YtmhjmjodchbhlaaR.FxPull.tk43 Go.Proofs.YtmhjmjodchbhlaaR.FxPull.zv43 Go.Proofs.YtmhjmjodchbhlaaR.FxPull.tk44 Go.Proofs.YtmhjmjodchbhlaaR.FxPull.zv44 Go.Proofs.YtmhjmjodchbhlaaR.FxPull.tk45 Go.Proofs.YtmhjmjodchbhlaaR.FxPull.zv45 Go.Proofs.YtmhjmjodchbhlaaR.FxPull.tk47 Go.Proofs.YtmhjmjodchbhlaaR.FxPull.ct47 Go.Proofs.YtmhjmjodchbhlaaR.FxPull.zv47 Go.Proofs.YtmhjmjodchbhlaaR.FxPull.tk48 Go.Proofs.YtmhjmjodchbhlaaR.FxPull.ik48 Go.Proofs.YtmhjmjodchbhlaaR.FxPull.zv48 Go.Proofs.YtmhjmjodchbhlaaR.FxPull.tk76 Go.Proofs.YtmhjmjodchbhlaaR.FxPull.ct76 Go.Proofs.YtmhjmjodchbhlaaR.FxPull.zv76 Go.Proofs.YtmhjmjodchbhlaaR.FxPull.by76 Go.Proofs.YtmhjmjodchbhlaaR.FxPull.so76 Go.Proofs.YtmhjmjodchbhlaaR.FxPull.tk77 Go.Proofs.YtmhjmjodchbhlaaR.FxPull.zv77 Go.Proofs.YtmhjmjodchbhlaaR.FxPull.tk79 Go.Proofs.YtmhjmjodchbhlaaR.FxPull.ct79 Go.Proofs.YtmhjmjodchbhlaaR.FxPull.zv79 Go.Proofs.YtmhjmjodchbhlaaR.FxPull.by79 Go.Proofs.YtmhjmjodchbhlaaR.FxPull.so79 Go.Proofs.YtmhjmjodchbhlaaR.FxPull.tk88 Go.Proofs.YtmhjmjodchbhlaaR.FxPull.zv88 Go.Proofs.YtmhjmjodchbhlaaR.FxPull.tk92 Go.Proofs.YtmhjmjodchbhlaaR.FxPull.ik92 Go.Proofs.YtmhjmjodchbhlaaR.FxPull.zv92 Go.Proofs.YtmhjmjodchbhlaaR.FxPull.tk135 Go.Proofs.YtmhjmjodchbhlaaR.FxPull.ik135 Go.Proofs.YtmhjmjodchbhlaaR.FxPull.zv135 Go.Proofs.YtmhjmjodchbhlaaR.FxPull.tk136 Go.Proofs.YtmhjmjodchbhlaaR.FxPull.mt136 Go.Proofs.YtmhjmjodchbhlaaR.FxPull.sm136 Go.Proofs.YtmhjmjodchbhlaaR.FxPull.zw4 Go.Proofs.YtmhjmjodchbhlaaR.FxPull.zv136 Go.Proofs.YtmhjmjodchbhlaaR.FxPull.tk145 Go.Proofs.YtmhjmjodchbhlaaR.FxPull.zv145 Go.Proofs.YtmhjmjodchbhlaaR.FxPull.tk148 Go.Proofs.YtmhjmjodchbhlaaR.FxPull.ct148 Go.Proofs.YtmhjmjodchbhlaaR.FxPull.zv148 Go.Proofs.YtmhjmjodchbhlaaR.FxPull.tk150 Go.Proofs.YtmhjmjodchbhlaaR.FxPull.ct150 Go.Proofs.YtmhjmjodchbhlaaR.FxPull.zv150 Go.Proofs.YtmhjmjodchbhlaaR.FxPull.tk161 Go.Proofs.YtmhjmjodchbhlaaR.FxPull.ct161 Go.Proofs.YtmhjmjodchbhlaaR.FxPull.zv161 Go.Proofs.YtmhjmjodchbhlaaR.FxPull.tk203 Go.Proofs.YtmhjmjodchbhlaaR.FxPull.dw3_1 Go.Proofs.YtmhjmjodchbhlaaR.FxPull.nc3_1 Go.Proofs.YtmhjmjodchbhlaaR.FxPull.mk3_1000000 Go.Proofs.YtmhjmjodchbhlaaR.FxPull.mk4_1000000 Go.Proofs.YtmhjmjodchbhlaaR.FxPull.mk14_1000000 Go.Proofs.YtmhjmjodchbhlaaR.FxPull.dw15_7 Go.Proofs.YtmhjmjodchbhlaaR.FxPull.nc15_7 Go.Proofs.YtmhjmjodchbhlaaR.FxPull.mk15_1000000 Go.Proofs.YtmhjmjodchbhlaaR.FxPull.dw16_7 Go.Proofs.YtmhjmjodchbhlaaR.FxPull.nc16_7 Go.Proofs.YtmhjmjodchbhlaaR.FxPull.mk16_1000000 Go.Proofs.YtmhjmjodchbhlaaR.FxPull.mk17_1000000 Go.Proofs.YtmhjmjodchbhlaaR.FxPull.mk18_1000000 Go.Proofs.YtmhjmjodchbhlaaR.FxPull.mk30_1000000 Go.Proofs.YtmhjmjodchbhlaaR.FxPull.mk40_0 Go.Proofs.YtmhjmjodchbhlaaR.FxPull.mk40_2 Go.Proofs.YtmhjmjodchbhlaaR.FxPull.mk40_4 Go.Proofs.YtmhjmjodchbhlaaR.FxPull.mk40_1000001 Go.Proofs.YtmhjmjodchbhlaaR.FxPull.mk40_1000002 Go.Proofs.YtmhjmjodchbhlaaR.FxPull.mk40_1000003 Go.Proofs.YtmhjmjodchbhlaaR.FxPull.mk40_1000004 Go.Proofs.YtmhjmjodchbhlaaR.FxPull.mk40_1000005 Go.Proofs.YtmhjmjodchbhlaaR.FxPull.mk40_1000006 Go.Proofs.YtmhjmjodchbhlaaR.FxPull.mk40_1000007 Go.Proofs.YtmhjmjodchbhlaaR.FxPull.mk40_1000000 Go.Proofs.YtmhjmjodchbhlaaR.FxPull.mk46_0 Go.Proofs.YtmhjmjodchbhlaaR.FxPull.mk46_1000001 Go.Proofs.YtmhjmjodchbhlaaR.FxPull.mk46_1000002 Go.Proofs.YtmhjmjodchbhlaaR.FxPull.mk46_1000000 Go.Proofs.YtmhjmjodchbhlaaR.FxPull.mk47_1000000 Go.Proofs.YtmhjmjodchbhlaaR.FxPull.mk48_1000000 Go.Proofs.YtmhjmjodchbhlaaR.FxPull.mk49_1000000 Go.Proofs.YtmhjmjodchbhlaaR.FxPull.mk50_1000000 Go.Proofs.YtmhjmjodchbhlaaR.FxPull.mk51_0 Go.Proofs.YtmhjmjodchbhlaaR.FxPull.mk51_1000001 Go.Proofs.YtmhjmjodchbhlaaR.FxPull.mk51_1000002 Go.Proofs.YtmhjmjodchbhlaaR.FxPull.mk51_1000000 Go.Proofs.YtmhjmjodchbhlaaR.FxPull.dw52_2 Go.Proofs.YtmhjmjodchbhlaaR.FxPull.nc52_2 Go.Proofs.YtmhjmjodchbhlaaR.FxPull.mk52_1000000 Go.Proofs.YtmhjmjodchbhlaaR.FxPull.mk53_1000000 Go.Proofs.YtmhjmjodchbhlaaR.FxPull.mk54_1000000 Go.Proofs.YtmhjmjodchbhlaaR.FxPull.mk55_1000001 Go.Proofs.YtmhjmjodchbhlaaR.FxPull.mk55_1000000 Go.Proofs.YtmhjmjodchbhlaaR.FxPull.mk64_1000000 Go.Proofs.YtmhjmjodchbhlaaR.FxPull.mk78_0 Go.Proofs.YtmhjmjodchbhlaaR.FxPull.mk78_1000001 Go.Proofs.YtmhjmjodchbhlaaR.FxPull.mk78_1000002 Go.Proofs.YtmhjmjodchbhlaaR.FxPull.mk78_1000000 Go.Proofs.YtmhjmjodchbhlaaR.FxPull.mk87_1000001 Go.Proofs.YtmhjmjodchbhlaaR.FxPull.mk87_1000000 Go.Proofs.YtmhjmjodchbhlaaR.FxPull.mk88_1000001 Go.Proofs.YtmhjmjodchbhlaaR.FxPull.mk88_1000000 Go.Proofs.YtmhjmjodchbhlaaR.FxPull.mk89_0 Go.Proofs.YtmhjmjodchbhlaaR.FxPull.mk89_1000001 Go.Proofs.YtmhjmjodchbhlaaR.FxPull.mk89_1000002 Go.Proofs.YtmhjmjodchbhlaaR.FxPull.mk89_1000000 Go.Proofs.YtmhjmjodchbhlaaR.FxPull.mk93_1000001 Go.Proofs.YtmhjmjodchbhlaaR.FxPull.mk93_1000000 Go.Proofs.YtmhjmjodchbhlaaR.FxPull.mk95_1000000 Go.Proofs.YtmhjmjodchbhlaaR.FxPull.mk98_0 Go.Proofs.YtmhjmjodchbhlaaR.FxPull.mk98_1000001 Go.Proofs.YtmhjmjodchbhlaaR.FxPull.mk98_1000002 Go.Proofs.YtmhjmjodchbhlaaR.FxPull.mk98_1000000 Go.Proofs.YtmhjmjodchbhlaaR.FxPull.mk99_1000000 Go.Proofs.YtmhjmjodchbhlaaR.FxPull.mk100_1000001 Go.Proofs.YtmhjmjodchbhlaaR.FxPull.mk100_1000000 Go.Proofs.YtmhjmjodchbhlaaR.FxPull.mk101_1000000 Go.Proofs.YtmhjmjodchbhlaaR.FxPull.mk102_1000000 Go.Proofs.YtmhjmjodchbhlaaR.FxPull.mk103_0 Go.Proofs.YtmhjmjodchbhlaaR.FxPull.mk103_1000001 Go.Proofs.YtmhjmjodchbhlaaR.FxPull.mk103_1000002 Go.Proofs.YtmhjmjodchbhlaaR.FxPull.mk103_1000000 Go.Proofs.YtmhjmjodchbhlaaR.FxPull.mk127_1000000 Go.Proofs.YtmhjmjodchbhlaaR.FxPull.mk128_1000000 Go.Proofs.YtmhjmjodchbhlaaR.FxPull.mk131_0 Go.Proofs.YtmhjmjodchbhlaaR.FxPull.mk131_1000001 Go.Proofs.YtmhjmjodchbhlaaR.FxPull.mk131_1000002 Go.Proofs.YtmhjmjodchbhlaaR.FxPull.mk131_1000000 Go.Proofs.YtmhjmjodchbhlaaR.FxPull.mk134_1000000 Go.Proofs.YtmhjmjodchbhlaaR.FxPull.mk135_1000000 Go.Proofs.YtmhjmjodchbhlaaR.FxPull.dw136_6 Go.Proofs.YtmhjmjodchbhlaaR.FxPull.nc136_6 Go.Proofs.YtmhjmjodchbhlaaR.FxPull.mk136_0 Go.Proofs.YtmhjmjodchbhlaaR.FxPull.mk136_2 Go.Proofs.YtmhjmjodchbhlaaR.FxPull.mk136_1000001 Go.Proofs.YtmhjmjodchbhlaaR.FxPull.mk136_1000002 Go.Proofs.YtmhjmjodchbhlaaR.FxPull.mk136_1000003 Go.Proofs.YtmhjmjodchbhlaaR.FxPull.mk136_1000004 Go.Proofs.YtmhjmjodchbhlaaR.FxPull.mk136_1000000 Go.Proofs.YtmhjmjodchbhlaaR.FxPull.mk152_1000000
def c3 (k : IntKind) : CodL (Int × Int × Int) := cCons (cI k) (cCons (cI k) (cOne (cI k)))
def c2 (k : IntKind) : CodL (Int × Int) := cCons (cI k) (cOne (cI k))
def c1 (k : IntKind) : CodL Int := cOne (cI k)
def U (x : Int) : Prop := 0 ≤ x ∧ x < 18446744073709551616
def I (x : Int) : Prop := -9223372036854775808 ≤ x ∧ x < 9223372036854775808
/-! ### Add64 -/
noncomputable def sAdd : Ev.Spec := specC (c3 .u64) (fun x => U x.1 ∧ U x.2.1 ∧ 0 ≤ x.2.2 ∧ x.2.2 ≤ 1) fun x => [.int .u64 ((x.1 + x.2.1 + x.2.2) % 18446744073709551616), .int .u64 ((x.1 + x.2.1 + x.2.2) / 18446744073709551616)]
theorem sAdd_run (x y c : Int) (hx : U x) (hy : U y) (h0 : 0 ≤ c) (h1 : c ≤ 1) : sAdd.run [.int .u64 x, .int .u64 y, .int .u64 c] = some [.int .u64 ((x + y + c) % 18446744073709551616), .int .u64 ((x + y + c) / 18446744073709551616)] := specC_run (c3 .u64) _ _ (x, y, c) ⟨hx, hy, h0, h1⟩
theorem sAdd_ok : SpecOk Try.prog 138 sAdd := by
  intro xs rs S w vals hrun hS hargs
  unfold sAdd specC at hrun
  obtain ⟨⟨x, y, c⟩, rfl, ⟨hx, hy, h0, h1⟩, rfl⟩ := mkSpec_inv hrun
  have hr := hargs (fun _ => none) empty
  obtain ⟨v1, r1, rfl, a1, hr⟩ := hr
  obtain ⟨v2, r2, rfl, a2, hr⟩ := hr
  obtain ⟨v3, r3, rfl, a3, hr⟩ := hr
  cases hr
  have e1 := relV_int (RelN.to_v a1)
  have e2 := relV_int (RelN.to_v a2)
  have e3 := relV_int (RelN.to_v a3)
  subst e1 e2 e3
  refine .inr ⟨.tuple #[.int .u64 ((x + y + c) % 18446744073709551616), .int .u64 ((x + y + c) / 18446744073709551616)], w, ?_, RowKit.Below.refl _ _, ?_⟩
  · rw [run_callFunc_extern Try.func138 (by kernel_rfl) (by kernel_rfl) (by kernel_rfl) (e := add64Entry) (by kernel_rfl)]
    simp only [run_add64 x y c hx.1 hy.1 h0 h1, Result.andThen_ok]
  · intro σ st
    exact ⟨[_, _], rfl, ⟨_, _, rfl, .inr (.inr ⟨rfl, rfl⟩), ⟨_, _, rfl, .inr (.inr ⟨rfl, rfl⟩), rfl⟩⟩⟩
/-! ### Mul64 -/
noncomputable def T1 : Table := tableOf [(101, en101), (127, en127), (152, en152)]
theorem T1_ok : TableOk Try.prog (([] : Specs).map (·.1)) T1 := (table_cons Try.func101 (by kernel_rfl) (by kernel_rfl) (table_cons Try.func127 (by kernel_rfl) (by kernel_rfl) (table_cons Try.func152 (by kernel_rfl) (by kernel_rfl) table_nil)))
noncomputable def sMul : Ev.Spec := specC (c2 .u64) (fun x => U x.1 ∧ U x.2) fun x => [.int .u64 (x.1 * x.2 / 18446744073709551616), .int .u64 (x.1 * x.2 % 18446744073709551616)]
theorem sMul_run (x y : Int) (hx : U x) (hy : U y) : sMul.run [.int .u64 x, .int .u64 y] = some [.int .u64 (x * y / 18446744073709551616), .int .u64 (x * y % 18446744073709551616)] := specC_run (c2 .u64) _ _ (x, y) ⟨hx, hy⟩
theorem eMul (x y : Int) (hx : U x) (hy : U y) : evTop Try.prog [] T1 0 1 101 [.int .u64 x, .int .u64 y] = some [.int .u64 (x * y / 18446744073709551616), .int .u64 (x * y % 18446744073709551616)] := by
  unfold evTop
  simp only [List.map]
  rw [evF_s (fn := Try.f101) (msk := en101.ms) (hT := by rfl) (hb := by rfl)]
  simp only [Try.f101, go_sem, Nat.reduceAdd, Nat.reduceSub, Nat.reduceMul, Nat.reduceEqDiff, Nat.reduceBEq, Nat.reduceLT, Nat.reduceLeDiff, Nat.reducePow, Int.cast_ofNat_Int, IntWalk.i64_in, IntWalk.u64_in, IntWalk.u8_in, Int.reduceToNat, Int.reduceLT, Int.reduceLE, Int.reduceGT, Int.reduceGE, Int.reduceEq, Int.reduceNeg, Int.reduceAdd, Int.reduceSub, ↓reduceIte, reduceCtorEq, beq_self_eq_true, Bool.true_beq, Bool.false_beq, Bool.and_true, Bool.true_and, Bool.false_and, Bool.and_false, Bool.and_self, Bool.not_true, Bool.not_false, Bool.not_eq_true, cond_true, cond_false, if_true, if_false, and_true, true_and, and_self, decide_true, decide_false, Bool.or_true, Bool.true_or, Bool.or_false, Bool.false_or, List.isEmpty, List.isEmpty_nil, List.size_toArray, List.map, List.length_map, List.length_cons, List.length_nil, Option.map, Option.bind, Option.getD, Option.isSome, List.replicate, Bool.false_eq_true, implies_true, forall_const, Array.toList, Array.isEmpty, List.append, List.nil_append, List.cons_append, List.drop_zero, List.take_length, List.take_succ_cons, List.take_zero, List.take_nil, List.getElem?_map, List.getElem?_cons_zero, List.getElem?_cons_succ, List.getElem?_nil, List.append_nil]
  have m := mul_hi hx.1 hx.2 hy.1 hy.2
  rw [m, wu (x * y)]
theorem sMul_ok : SpecOk Try.prog 101 sMul := specC_ok mixed specs_nil T1_ok fun x hp => ⟨0, 1, eMul x.1 x.2 hp.1 hp.2⟩
/-! ### Len64 -/
theorem tab_at {n : Int} (h0 : 0 ≤ n) (h : n < 256) : strAt ⟨#[0, 1, 2, 2, 3, 3, 3, 3, 4, 4, 4, 4, 4, 4, 4, 4, 5, 5, 5, 5, 5, 5, 5, 5, 5, 5, 5, 5, 5, 5, 5, 5, 6, 6, 6, 6, 6, 6, 6, 6, 6, 6, 6, 6, 6, 6, 6, 6, 6, 6, 6, 6, 6, 6, 6, 6, 6, 6, 6, 6, 6, 6, 6, 6, 7, 7, 7, 7, 7, 7, 7, 7, 7, 7, 7, 7, 7, 7, 7, 7, 7, 7, 7, 7, 7, 7, 7, 7, 7, 7, 7, 7, 7, 7, 7, 7, 7, 7, 7, 7, 7, 7, 7, 7, 7, 7, 7, 7, 7, 7, 7, 7, 7, 7, 7, 7, 7, 7, 7, 7, 7, 7, 7, 7, 7, 7, 7, 7, 8, 8, 8, 8, 8, 8, 8, 8, 8, 8, 8, 8, 8, 8, 8, 8, 8, 8, 8, 8, 8, 8, 8, 8, 8, 8, 8, 8, 8, 8, 8, 8, 8, 8, 8, 8, 8, 8, 8, 8, 8, 8, 8, 8, 8, 8, 8, 8, 8, 8, 8, 8, 8, 8, 8, 8, 8, 8, 8, 8, 8, 8, 8, 8, 8, 8, 8, 8, 8, 8, 8, 8, 8, 8, 8, 8, 8, 8, 8, 8, 8, 8, 8, 8, 8, 8, 8, 8, 8, 8, 8, 8, 8, 8, 8, 8, 8, 8, 8, 8, 8, 8, 8, 8, 8, 8, 8, 8, 8, 8, 8, 8, 8, 8, 8, 8, 8, 8, 8, 8, 8, 8, 8, 8, 8, 8, 8, 8]⟩ n = some (.d (.int .u8 (bitLen n.toNat))) := by
  have hs : n.toNat < (⟨#[0, 1, 2, 2, 3, 3, 3, 3, 4, 4, 4, 4, 4, 4, 4, 4, 5, 5, 5, 5, 5, 5, 5, 5, 5, 5, 5, 5, 5, 5, 5, 5, 6, 6, 6, 6, 6, 6, 6, 6, 6, 6, 6, 6, 6, 6, 6, 6, 6, 6, 6, 6, 6, 6, 6, 6, 6, 6, 6, 6, 6, 6, 6, 6, 7, 7, 7, 7, 7, 7, 7, 7, 7, 7, 7, 7, 7, 7, 7, 7, 7, 7, 7, 7, 7, 7, 7, 7, 7, 7, 7, 7, 7, 7, 7, 7, 7, 7, 7, 7, 7, 7, 7, 7, 7, 7, 7, 7, 7, 7, 7, 7, 7, 7, 7, 7, 7, 7, 7, 7, 7, 7, 7, 7, 7, 7, 7, 7, 8, 8, 8, 8, 8, 8, 8, 8, 8, 8, 8, 8, 8, 8, 8, 8, 8, 8, 8, 8, 8, 8, 8, 8, 8, 8, 8, 8, 8, 8, 8, 8, 8, 8, 8, 8, 8, 8, 8, 8, 8, 8, 8, 8, 8, 8, 8, 8, 8, 8, 8, 8, 8, 8, 8, 8, 8, 8, 8, 8, 8, 8, 8, 8, 8, 8, 8, 8, 8, 8, 8, 8, 8, 8, 8, 8, 8, 8, 8, 8, 8, 8, 8, 8, 8, 8, 8, 8, 8, 8, 8, 8, 8, 8, 8, 8, 8, 8, 8, 8, 8, 8, 8, 8, 8, 8, 8, 8, 8, 8, 8, 8, 8, 8, 8, 8, 8, 8, 8, 8, 8, 8, 8, 8, 8, 8, 8, 8]⟩ : ByteArray).size := by
    show n.toNat < 256; omega
  have ht := len8tab_get n.toNat hs
  unfold strAt
  rw [if_pos h0, ByteArray.getElem?_lt' _ _ hs]
  simp only [ht]
theorem bl_shift {x : Int} (b : Nat) (p : Int) (hp : p = ((2 ^ b : Nat) : Int)) (h0 : 0 ≤ x) (h : p ≤ x) : (bitLen x.toNat : Int) = b + bitLen (x / p).toNat := by
  subst hp
  obtain ⟨n, rfl⟩ := Int.eq_ofNat_of_zero_le h0
  have hp : 0 < 2 ^ b := Nat.two_pow_pos b
  have hle : 2 ^ b ≤ n := by exact_mod_cast h
  have hd : n / 2 ^ b ≠ 0 := by
    have := Nat.div_pos hle hp
    omega
  have e : ((n : Int) / ((2 ^ b : Nat) : Int)).toNat = n / 2 ^ b := by rw [← Int.natCast_ediv, Int.toNat_natCast]
  rw [e, Int.toNat_natCast, bitLen_shift n b hd]
  simp
def lenR (x : Int) : V := .d (.int .i64 (bitLen x.toNat))
theorem eLen (x : Int) (hx : U x) (st : Store) (lv L : Nat) (c : Nat) : evF Try.prog [] T1 L (c + 1) 127 [.d (.int .u64 x)] lv st = some (lenR x, st) := by
  rw [evF_s (fn := Try.f127) (msk := en127.ms) (hT := by rfl) (hb := by rfl)]
  obtain ⟨h0, h1⟩ := hx
  have d0 : 0 ≤ x ∧ x < 18446744073709551616 := ⟨h0, h1⟩
  by_cases a1 : x ≥ 4294967296
  · have b1 := bl_shift 32 4294967296 (by decide) d0.1 a1
    have d1 : 0 ≤ x / 4294967296 ∧ x / 4294967296 < 4294967296 := by omega
    generalize hy : x / 4294967296 = y at *
    by_cases a2 : y ≥ 65536
    · have b2 := bl_shift 16 65536 (by decide) d1.1 a2
      have d2 : 0 ≤ y / 65536 ∧ y / 65536 < 65536 := by omega
      generalize hz : y / 65536 = z at *
      by_cases a3 : z ≥ 256
      · have b3 := bl_shift 8 256 (by decide) d2.1 a3
        have d3 : 0 ≤ z / 256 ∧ z / 256 < 256 := by omega
        generalize ht : z / 256 = t at *
        have s2 : shrI .u64 y 16 = y / 65536 := shr_lit .u64 y 16 (by decide)
        have s3 : shrI .u64 z 8 = z / 256 := shr_lit .u64 z 8 (by decide)
        have w8 : IntKind.u8.wrap t = t := by rw [IntKind.wrap_u8]; omega
        have hb := bitLen_le8 t.toNat (by omega)
        have wl : IntKind.i64.wrap (bitLen t.toNat : Int) = bitLen t.toNat := by rw [wi]; omega
        have wt : IntKind.i64.wrap (56 + (bitLen t.toNat : Int)) = bitLen x.toNat := by rw [wi]; omega
        simp only [Try.f127, go_sem, Nat.reduceAdd, Nat.reduceSub, Nat.reduceMul, Nat.reduceEqDiff, Nat.reduceBEq, Nat.reduceLT, Nat.reduceLeDiff, Nat.reducePow, Int.cast_ofNat_Int, IntWalk.i64_in, IntWalk.u64_in, IntWalk.u8_in, Int.reduceToNat, Int.reduceLT, Int.reduceLE, Int.reduceGT, Int.reduceGE, Int.reduceEq, Int.reduceNeg, Int.reduceAdd, Int.reduceSub, ↓reduceIte, reduceCtorEq, beq_self_eq_true, Bool.true_beq, Bool.false_beq, Bool.and_true, Bool.true_and, Bool.false_and, Bool.and_false, Bool.and_self, Bool.not_true, Bool.not_false, Bool.not_eq_true, cond_true, cond_false, if_true, if_false, and_true, true_and, and_self, decide_true, decide_false, Bool.or_true, Bool.true_or, Bool.or_false, Bool.false_or, List.isEmpty, List.isEmpty_nil, List.size_toArray, List.map, List.length_map, List.length_cons, List.length_nil, Option.map, Option.bind, Option.getD, Option.isSome, List.replicate, Bool.false_eq_true, implies_true, forall_const, Array.toList, Array.isEmpty, List.append, List.nil_append, List.cons_append, List.drop_zero, List.take_length, List.take_succ_cons, List.take_zero, List.take_nil, List.getElem?_map, List.getElem?_cons_zero, List.getElem?_cons_succ, List.getElem?_nil, List.append_nil, a1, shr32, hy, a2, s2, hz, a3, s3, ht, w8, tab_at d3.1 d3.2, wl, wt, lenR]
      · have d3 : 0 ≤ z ∧ z < 256 := by omega
        have e3 : z = z := rfl
        have s2 : shrI .u64 y 16 = y / 65536 := shr_lit .u64 y 16 (by decide)
        have s3 : shrI .u64 z 8 = z / 256 := shr_lit .u64 z 8 (by decide)
        have w8 : IntKind.u8.wrap z = z := by rw [IntKind.wrap_u8]; omega
        have hb := bitLen_le8 z.toNat (by omega)
        have wl : IntKind.i64.wrap (bitLen z.toNat : Int) = bitLen z.toNat := by rw [wi]; omega
        have wt : IntKind.i64.wrap (48 + (bitLen z.toNat : Int)) = bitLen x.toNat := by rw [wi]; omega
        simp only [Try.f127, go_sem, Nat.reduceAdd, Nat.reduceSub, Nat.reduceMul, Nat.reduceEqDiff, Nat.reduceBEq, Nat.reduceLT, Nat.reduceLeDiff, Nat.reducePow, Int.cast_ofNat_Int, IntWalk.i64_in, IntWalk.u64_in, IntWalk.u8_in, Int.reduceToNat, Int.reduceLT, Int.reduceLE, Int.reduceGT, Int.reduceGE, Int.reduceEq, Int.reduceNeg, Int.reduceAdd, Int.reduceSub, ↓reduceIte, reduceCtorEq, beq_self_eq_true, Bool.true_beq, Bool.false_beq, Bool.and_true, Bool.true_and, Bool.false_and, Bool.and_false, Bool.and_self, Bool.not_true, Bool.not_false, Bool.not_eq_true, cond_true, cond_false, if_true, if_false, and_true, true_and, and_self, decide_true, decide_false, Bool.or_true, Bool.true_or, Bool.or_false, Bool.false_or, List.isEmpty, List.isEmpty_nil, List.size_toArray, List.map, List.length_map, List.length_cons, List.length_nil, Option.map, Option.bind, Option.getD, Option.isSome, List.replicate, Bool.false_eq_true, implies_true, forall_const, Array.toList, Array.isEmpty, List.append, List.nil_append, List.cons_append, List.drop_zero, List.take_length, List.take_succ_cons, List.take_zero, List.take_nil, List.getElem?_map, List.getElem?_cons_zero, List.getElem?_cons_succ, List.getElem?_nil, List.append_nil, a1, shr32, hy, a2, s2, hz, a3, s3,  w8, tab_at d3.1 d3.2, wl, wt, lenR]
    · have d2 : 0 ≤ y ∧ y < 65536 := by omega
      have e2 : y = y := rfl
      by_cases a3 : y ≥ 256
      · have b3 := bl_shift 8 256 (by decide) d2.1 a3
        have d3 : 0 ≤ y / 256 ∧ y / 256 < 256 := by omega
        generalize ht : y / 256 = t at *
        have s2 : shrI .u64 y 16 = y / 65536 := shr_lit .u64 y 16 (by decide)
        have s3 : shrI .u64 y 8 = y / 256 := shr_lit .u64 y 8 (by decide)
        have w8 : IntKind.u8.wrap t = t := by rw [IntKind.wrap_u8]; omega
        have hb := bitLen_le8 t.toNat (by omega)
        have wl : IntKind.i64.wrap (bitLen t.toNat : Int) = bitLen t.toNat := by rw [wi]; omega
        have wt : IntKind.i64.wrap (40 + (bitLen t.toNat : Int)) = bitLen x.toNat := by rw [wi]; omega
        simp only [Try.f127, go_sem, Nat.reduceAdd, Nat.reduceSub, Nat.reduceMul, Nat.reduceEqDiff, Nat.reduceBEq, Nat.reduceLT, Nat.reduceLeDiff, Nat.reducePow, Int.cast_ofNat_Int, IntWalk.i64_in, IntWalk.u64_in, IntWalk.u8_in, Int.reduceToNat, Int.reduceLT, Int.reduceLE, Int.reduceGT, Int.reduceGE, Int.reduceEq, Int.reduceNeg, Int.reduceAdd, Int.reduceSub, ↓reduceIte, reduceCtorEq, beq_self_eq_true, Bool.true_beq, Bool.false_beq, Bool.and_true, Bool.true_and, Bool.false_and, Bool.and_false, Bool.and_self, Bool.not_true, Bool.not_false, Bool.not_eq_true, cond_true, cond_false, if_true, if_false, and_true, true_and, and_self, decide_true, decide_false, Bool.or_true, Bool.true_or, Bool.or_false, Bool.false_or, List.isEmpty, List.isEmpty_nil, List.size_toArray, List.map, List.length_map, List.length_cons, List.length_nil, Option.map, Option.bind, Option.getD, Option.isSome, List.replicate, Bool.false_eq_true, implies_true, forall_const, Array.toList, Array.isEmpty, List.append, List.nil_append, List.cons_append, List.drop_zero, List.take_length, List.take_succ_cons, List.take_zero, List.take_nil, List.getElem?_map, List.getElem?_cons_zero, List.getElem?_cons_succ, List.getElem?_nil, List.append_nil, a1, shr32, hy, a2, s2,  a3, s3, ht, w8, tab_at d3.1 d3.2, wl, wt, lenR]
      · have d3 : 0 ≤ y ∧ y < 256 := by omega
        have e3 : y = y := rfl
        have s2 : shrI .u64 y 16 = y / 65536 := shr_lit .u64 y 16 (by decide)
        have s3 : shrI .u64 y 8 = y / 256 := shr_lit .u64 y 8 (by decide)
        have w8 : IntKind.u8.wrap y = y := by rw [IntKind.wrap_u8]; omega
        have hb := bitLen_le8 y.toNat (by omega)
        have wl : IntKind.i64.wrap (bitLen y.toNat : Int) = bitLen y.toNat := by rw [wi]; omega
        have wt : IntKind.i64.wrap (32 + (bitLen y.toNat : Int)) = bitLen x.toNat := by rw [wi]; omega
        simp only [Try.f127, go_sem, Nat.reduceAdd, Nat.reduceSub, Nat.reduceMul, Nat.reduceEqDiff, Nat.reduceBEq, Nat.reduceLT, Nat.reduceLeDiff, Nat.reducePow, Int.cast_ofNat_Int, IntWalk.i64_in, IntWalk.u64_in, IntWalk.u8_in, Int.reduceToNat, Int.reduceLT, Int.reduceLE, Int.reduceGT, Int.reduceGE, Int.reduceEq, Int.reduceNeg, Int.reduceAdd, Int.reduceSub, ↓reduceIte, reduceCtorEq, beq_self_eq_true, Bool.true_beq, Bool.false_beq, Bool.and_true, Bool.true_and, Bool.false_and, Bool.and_false, Bool.and_self, Bool.not_true, Bool.not_false, Bool.not_eq_true, cond_true, cond_false, if_true, if_false, and_true, true_and, and_self, decide_true, decide_false, Bool.or_true, Bool.true_or, Bool.or_false, Bool.false_or, List.isEmpty, List.isEmpty_nil, List.size_toArray, List.map, List.length_map, List.length_cons, List.length_nil, Option.map, Option.bind, Option.getD, Option.isSome, List.replicate, Bool.false_eq_true, implies_true, forall_const, Array.toList, Array.isEmpty, List.append, List.nil_append, List.cons_append, List.drop_zero, List.take_length, List.take_succ_cons, List.take_zero, List.take_nil, List.getElem?_map, List.getElem?_cons_zero, List.getElem?_cons_succ, List.getElem?_nil, List.append_nil, a1, shr32, hy, a2, s2,  a3, s3,  w8, tab_at d3.1 d3.2, wl, wt, lenR]
  · have d1 : 0 ≤ x ∧ x < 4294967296 := by omega
    have e1 : x = x := rfl
    by_cases a2 : x ≥ 65536
    · have b2 := bl_shift 16 65536 (by decide) d1.1 a2
      have d2 : 0 ≤ x / 65536 ∧ x / 65536 < 65536 := by omega
      generalize hz : x / 65536 = z at *
      by_cases a3 : z ≥ 256
      · have b3 := bl_shift 8 256 (by decide) d2.1 a3
        have d3 : 0 ≤ z / 256 ∧ z / 256 < 256 := by omega
        generalize ht : z / 256 = t at *
        have s2 : shrI .u64 x 16 = x / 65536 := shr_lit .u64 x 16 (by decide)
        have s3 : shrI .u64 z 8 = z / 256 := shr_lit .u64 z 8 (by decide)
        have w8 : IntKind.u8.wrap t = t := by rw [IntKind.wrap_u8]; omega
        have hb := bitLen_le8 t.toNat (by omega)
        have wl : IntKind.i64.wrap (bitLen t.toNat : Int) = bitLen t.toNat := by rw [wi]; omega
        have wt : IntKind.i64.wrap (24 + (bitLen t.toNat : Int)) = bitLen x.toNat := by rw [wi]; omega
        simp only [Try.f127, go_sem, Nat.reduceAdd, Nat.reduceSub, Nat.reduceMul, Nat.reduceEqDiff, Nat.reduceBEq, Nat.reduceLT, Nat.reduceLeDiff, Nat.reducePow, Int.cast_ofNat_Int, IntWalk.i64_in, IntWalk.u64_in, IntWalk.u8_in, Int.reduceToNat, Int.reduceLT, Int.reduceLE, Int.reduceGT, Int.reduceGE, Int.reduceEq, Int.reduceNeg, Int.reduceAdd, Int.reduceSub, ↓reduceIte, reduceCtorEq, beq_self_eq_true, Bool.true_beq, Bool.false_beq, Bool.and_true, Bool.true_and, Bool.false_and, Bool.and_false, Bool.and_self, Bool.not_true, Bool.not_false, Bool.not_eq_true, cond_true, cond_false, if_true, if_false, and_true, true_and, and_self, decide_true, decide_false, Bool.or_true, Bool.true_or, Bool.or_false, Bool.false_or, List.isEmpty, List.isEmpty_nil, List.size_toArray, List.map, List.length_map, List.length_cons, List.length_nil, Option.map, Option.bind, Option.getD, Option.isSome, List.replicate, Bool.false_eq_true, implies_true, forall_const, Array.toList, Array.isEmpty, List.append, List.nil_append, List.cons_append, List.drop_zero, List.take_length, List.take_succ_cons, List.take_zero, List.take_nil, List.getElem?_map, List.getElem?_cons_zero, List.getElem?_cons_succ, List.getElem?_nil, List.append_nil, a1, shr32,  a2, s2, hz, a3, s3, ht, w8, tab_at d3.1 d3.2, wl, wt, lenR]
      · have d3 : 0 ≤ z ∧ z < 256 := by omega
        have e3 : z = z := rfl
        have s2 : shrI .u64 x 16 = x / 65536 := shr_lit .u64 x 16 (by decide)
        have s3 : shrI .u64 z 8 = z / 256 := shr_lit .u64 z 8 (by decide)
        have w8 : IntKind.u8.wrap z = z := by rw [IntKind.wrap_u8]; omega
        have hb := bitLen_le8 z.toNat (by omega)
        have wl : IntKind.i64.wrap (bitLen z.toNat : Int) = bitLen z.toNat := by rw [wi]; omega
        have wt : IntKind.i64.wrap (16 + (bitLen z.toNat : Int)) = bitLen x.toNat := by rw [wi]; omega
        simp only [Try.f127, go_sem, Nat.reduceAdd, Nat.reduceSub, Nat.reduceMul, Nat.reduceEqDiff, Nat.reduceBEq, Nat.reduceLT, Nat.reduceLeDiff, Nat.reducePow, Int.cast_ofNat_Int, IntWalk.i64_in, IntWalk.u64_in, IntWalk.u8_in, Int.reduceToNat, Int.reduceLT, Int.reduceLE, Int.reduceGT, Int.reduceGE, Int.reduceEq, Int.reduceNeg, Int.reduceAdd, Int.reduceSub, ↓reduceIte, reduceCtorEq, beq_self_eq_true, Bool.true_beq, Bool.false_beq, Bool.and_true, Bool.true_and, Bool.false_and, Bool.and_false, Bool.and_self, Bool.not_true, Bool.not_false, Bool.not_eq_true, cond_true, cond_false, if_true, if_false, and_true, true_and, and_self, decide_true, decide_false, Bool.or_true, Bool.true_or, Bool.or_false, Bool.false_or, List.isEmpty, List.isEmpty_nil, List.size_toArray, List.map, List.length_map, List.length_cons, List.length_nil, Option.map, Option.bind, Option.getD, Option.isSome, List.replicate, Bool.false_eq_true, implies_true, forall_const, Array.toList, Array.isEmpty, List.append, List.nil_append, List.cons_append, List.drop_zero, List.take_length, List.take_succ_cons, List.take_zero, List.take_nil, List.getElem?_map, List.getElem?_cons_zero, List.getElem?_cons_succ, List.getElem?_nil, List.append_nil, a1, shr32,  a2, s2, hz, a3, s3,  w8, tab_at d3.1 d3.2, wl, wt, lenR]
    · have d2 : 0 ≤ x ∧ x < 65536 := by omega
      have e2 : x = x := rfl
      by_cases a3 : x ≥ 256
      · have b3 := bl_shift 8 256 (by decide) d2.1 a3
        have d3 : 0 ≤ x / 256 ∧ x / 256 < 256 := by omega
        generalize ht : x / 256 = t at *
        have s2 : shrI .u64 x 16 = x / 65536 := shr_lit .u64 x 16 (by decide)
        have s3 : shrI .u64 x 8 = x / 256 := shr_lit .u64 x 8 (by decide)
        have w8 : IntKind.u8.wrap t = t := by rw [IntKind.wrap_u8]; omega
        have hb := bitLen_le8 t.toNat (by omega)
        have wl : IntKind.i64.wrap (bitLen t.toNat : Int) = bitLen t.toNat := by rw [wi]; omega
        have wt : IntKind.i64.wrap (8 + (bitLen t.toNat : Int)) = bitLen x.toNat := by rw [wi]; omega
        simp only [Try.f127, go_sem, Nat.reduceAdd, Nat.reduceSub, Nat.reduceMul, Nat.reduceEqDiff, Nat.reduceBEq, Nat.reduceLT, Nat.reduceLeDiff, Nat.reducePow, Int.cast_ofNat_Int, IntWalk.i64_in, IntWalk.u64_in, IntWalk.u8_in, Int.reduceToNat, Int.reduceLT, Int.reduceLE, Int.reduceGT, Int.reduceGE, Int.reduceEq, Int.reduceNeg, Int.reduceAdd, Int.reduceSub, ↓reduceIte, reduceCtorEq, beq_self_eq_true, Bool.true_beq, Bool.false_beq, Bool.and_true, Bool.true_and, Bool.false_and, Bool.and_false, Bool.and_self, Bool.not_true, Bool.not_false, Bool.not_eq_true, cond_true, cond_false, if_true, if_false, and_true, true_and, and_self, decide_true, decide_false, Bool.or_true, Bool.true_or, Bool.or_false, Bool.false_or, List.isEmpty, List.isEmpty_nil, List.size_toArray, List.map, List.length_map, List.length_cons, List.length_nil, Option.map, Option.bind, Option.getD, Option.isSome, List.replicate, Bool.false_eq_true, implies_true, forall_const, Array.toList, Array.isEmpty, List.append, List.nil_append, List.cons_append, List.drop_zero, List.take_length, List.take_succ_cons, List.take_zero, List.take_nil, List.getElem?_map, List.getElem?_cons_zero, List.getElem?_cons_succ, List.getElem?_nil, List.append_nil, a1, shr32,  a2, s2,  a3, s3, ht, w8, tab_at d3.1 d3.2, wl, wt, lenR]
      · have d3 : 0 ≤ x ∧ x < 256 := by omega
        have e3 : x = x := rfl
        have s2 : shrI .u64 x 16 = x / 65536 := shr_lit .u64 x 16 (by decide)
        have s3 : shrI .u64 x 8 = x / 256 := shr_lit .u64 x 8 (by decide)
        have w8 : IntKind.u8.wrap x = x := by rw [IntKind.wrap_u8]; omega
        have hb := bitLen_le8 x.toNat (by omega)
        have wl : IntKind.i64.wrap (bitLen x.toNat : Int) = bitLen x.toNat := by rw [wi]; omega
        have wt : IntKind.i64.wrap (0 + (bitLen x.toNat : Int)) = bitLen x.toNat := by rw [wi]; omega
        have wz : IntKind.i64.wrap (0 + (bitLen x.toNat : Int)) = bitLen x.toNat := wt
        simp only [Try.f127, go_sem, Nat.reduceAdd, Nat.reduceSub, Nat.reduceMul, Nat.reduceEqDiff, Nat.reduceBEq, Nat.reduceLT, Nat.reduceLeDiff, Nat.reducePow, Int.cast_ofNat_Int, IntWalk.i64_in, IntWalk.u64_in, IntWalk.u8_in, Int.reduceToNat, Int.reduceLT, Int.reduceLE, Int.reduceGT, Int.reduceGE, Int.reduceEq, Int.reduceNeg, Int.reduceAdd, Int.reduceSub, ↓reduceIte, reduceCtorEq, beq_self_eq_true, Bool.true_beq, Bool.false_beq, Bool.and_true, Bool.true_and, Bool.false_and, Bool.and_false, Bool.and_self, Bool.not_true, Bool.not_false, Bool.not_eq_true, cond_true, cond_false, if_true, if_false, and_true, true_and, and_self, decide_true, decide_false, Bool.or_true, Bool.true_or, Bool.or_false, Bool.false_or, List.isEmpty, List.isEmpty_nil, List.size_toArray, List.map, List.length_map, List.length_cons, List.length_nil, Option.map, Option.bind, Option.getD, Option.isSome, List.replicate, Bool.false_eq_true, implies_true, forall_const, Array.toList, Array.isEmpty, List.append, List.nil_append, List.cons_append, List.drop_zero, List.take_length, List.take_succ_cons, List.take_zero, List.take_nil, List.getElem?_map, List.getElem?_cons_zero, List.getElem?_cons_succ, List.getElem?_nil, List.append_nil, a1, shr32,  a2, s2,  a3, s3,  w8, tab_at d3.1 d3.2, wl, wt, lenR]
/-! ### LeadingZeros64 -/
noncomputable def sLz : Ev.Spec := specC (c1 .u64) U fun x => [.int .i64 (64 - bitLen x.toNat)]
theorem sLz_run (x : Int) (hx : U x) : sLz.run [.int .u64 x] = some [.int .i64 (64 - bitLen x.toNat)] := specC_run (c1 .u64) _ _ x hx
theorem bl_le {x : Int} (hx : U x) : bitLen x.toNat ≤ 64 := by
  obtain ⟨h0, h1⟩ := hx
  by_cases h : x.toNat = 0
  · rw [h]; decide
  · obtain ⟨a, b⟩ := bitLen_spec x.toNat
    refine Nat.le_of_not_lt fun hc => ?_
    have := b h
    have : 2 ^ 64 ≤ 2 ^ (bitLen x.toNat - 1) := Nat.pow_le_pow_right (by decide) (by omega)
    have : (2 : Nat) ^ 64 = 18446744073709551616 := by decide
    omega
theorem eLz (x : Int) (hx : U x) : evTop Try.prog [] T1 0 2 152 [.int .u64 x] = some [.int .i64 (64 - bitLen x.toNat)] := by
  unfold evTop
  simp only [List.map]
  rw [evF_s (fn := Try.f152) (msk := en152.ms) (hT := by rfl) (hb := by rfl)]
  have hb := bl_le hx
  have w : IntKind.i64.wrap (64 - (bitLen x.toNat : Int)) = 64 - bitLen x.toNat := by rw [wi]; omega
  simp only [Try.f152, go_sem, Nat.reduceAdd, Nat.reduceSub, Nat.reduceMul, Nat.reduceEqDiff, Nat.reduceBEq, Nat.reduceLT, Nat.reduceLeDiff, Nat.reducePow, Int.cast_ofNat_Int, IntWalk.i64_in, IntWalk.u64_in, IntWalk.u8_in, Int.reduceToNat, Int.reduceLT, Int.reduceLE, Int.reduceGT, Int.reduceGE, Int.reduceEq, Int.reduceNeg, Int.reduceAdd, Int.reduceSub, ↓reduceIte, reduceCtorEq, beq_self_eq_true, Bool.true_beq, Bool.false_beq, Bool.and_true, Bool.true_and, Bool.false_and, Bool.and_false, Bool.and_self, Bool.not_true, Bool.not_false, Bool.not_eq_true, cond_true, cond_false, if_true, if_false, and_true, true_and, and_self, decide_true, decide_false, Bool.or_true, Bool.true_or, Bool.or_false, Bool.false_or, List.isEmpty, List.isEmpty_nil, List.size_toArray, List.map, List.length_map, List.length_cons, List.length_nil, Option.map, Option.bind, Option.getD, Option.isSome, List.replicate, Bool.false_eq_true, implies_true, forall_const, Array.toList, Array.isEmpty, List.append, List.nil_append, List.cons_append, List.drop_zero, List.take_length, List.take_succ_cons, List.take_zero, List.take_nil, List.getElem?_map, List.getElem?_cons_zero, List.getElem?_cons_succ, List.getElem?_nil, List.append_nil, eLen x hx, lenR, w]
theorem sLz_ok : SpecOk Try.prog 152 sLz := specC_ok mixed specs_nil T1_ok fun x hp => ⟨0, 2, eLz x hp⟩
#print axioms sLz_ok
#print axioms sAdd_ok
#print axioms sMul_ok
end Go.Proofs.YtmhjmjodchbhlaaR.Num1Pull
