/- The row of the law SensorBleeds: for every input the call returns true. Over the evaluator's contract of the law's function. No conditions. -/
import Derived.Test.YtjplkbeolakbjaaMSensorBleeds9
import Derived.Test.YtjplkbeolakbjaaRows
import Derived.WalkKit
import Derived.ProofKit
import Derived.OpenShut
import Derived.ShutString
import Derived.ChangeOld
import Derived.Below
import Derived.SizedLaws
import Derived.Carry
import Derived.WideShapes
import Derived.KernelRfl
section
set_option linter.unusedVariables false
set_option linter.unusedSimpArgs false
set_option maxRecDepth 100000
namespace Go.Proofs.Ytjplkbeolakbjaa.MixSens
open Go.Ev Go.Proofs.Ytjplkbeolakbjaa.FxSens
attribute [local go_sem] Ev.putR_s Ev.putR_0 Ev.thenO_s Ev.thenO_0 Ev.seqR_n Ev.seqR_e Ev.seqR_r Ev.seqR_0 Ev.blkR_e Ev.blkR_n Ev.blkR_r Ev.blkR_0 Ev.normR_s Ev.normR_0 Ev.outR_r Ev.outR_n Ev.outR_0 Ev.retS_s Ev.retS_0 Ev.pureO_s Ev.pureO_0 Ev.topR_0 Ev.topR_t Ev.topR_t0 Ev.oneL_0 Ev.oneL_s Ev.topR_d Ev.topR_nils Ev.topR_agg Ev.topR_rs Ev.evOp_move Ev.evOp_assign Ev.evOp_pick Ev.evOp_alloc Ev.evOp_box Ev.evOp_build Ev.evOp_buildSlice Ev.evOp_load Ev.evOp_store Ev.evOp_makeMap Ev.evOp_lookup Ev.evOp_mapUpdate Ev.evOp_insert Ev.evOp_nilCheck Ev.evOp_binOp Ev.evOp_unOp Ev.evOp_convert Ev.evOp_makeFunc Ev.evOp_makeSlice Ev.evOp_slice Ev.evOp_fieldAddr Ev.evOp_field Ev.evOp_indexAddr Ev.evOp_index Ev.evOp_extract Ev.evOp_call Ev.evOp_append Ev.evOp_len Ev.evOp_min Ev.evOp_max Ev.condR_b Ev.condR_t Ev.evOps_nil Ev.evOps_plain Ev.evOps_guard Ev.runG_eq Ev.skipG_eq Ev.condL_tt Ev.condL_ff Ev.condL_tf Ev.condL_ft Ev.condL_u Ev.condC_t Ev.condC_f Ev.evC_skip Ev.evC_ret Ev.evC_exit Ev.evC_label Ev.evC_region Ev.evC_draw Ev.evC_seq Ev.evC_cond Ev.evC_block Ev.evC_loop Ev.fin_d Ev.fin_nils Ev.fin_agg_ Ev.fin_rs Ev.finS_s Ev.mapO_fin Ev.upd_upd Ev.argv_d Ev.argv_nils Ev.argv_agg Ev.argv_rs Ev.argv_p Ev.appendTo_nils Ev.appendTo_rs Ev.consV_d Ev.consV_agg Ev.consV_p Ev.consV_rs Ev.consV_nils Ev.consV_fn Ev.consV_und Ev.consV_jk Ev.consV_grown Ev.topR_grown Ev.len_grown Ev.consV_mp Ev.sameK_i Ev.sameK_s Ev.mget_0 Ev.mget_hit Ev.mget_miss Ev.mput_0 Ev.mput_hit Ev.mput_miss Ev.apartAll Ev.apartL Ev.apartV Ev.freeAll Ev.sel Ev.keyOfV Ev.evLookup Ev.evPut Ev.hintOk Ev.keyOk Ev.consP Ev.lookV Ev.guardV Ev.dstAt Ev.evPure Ev.evStore Ev.evPureB Ev.evBin Ev.evBinO Ev.evNil Ev.isNilC Ev.evUn Ev.evConv Ev.evSlice Ev.optI Ev.lenV Ev.elemT Ev.foldI Ev.capsOk Ev.noTup Ev.nth Ev.setN Ev.pad Ev.V.get Ev.V.put Ev.putD Ev.hasT Ev.newBlk Ev.upd Ev.keq Ev.empty Ev.evCall Ev.V.args Ev.argP Ev.callOf Ev.evNilP Ev.isNilP Ev.look Ev.V.view.views Ev.V.view Ev.V.toD Ev.V.toD.V.toDs Ev.V.pure.pures Ev.V.pure Ev.D.flat.flats Ev.D.flat Ev.mkAgg Ev.allD Ev.aggParts Ev.setParts Ev.setElems Ev.getPath Ev.setPath Ev.subL Ev.eqD Ev.eqD.eqDs Ev.and2 Ev.strCut Ev.evalT Ev.constT Ev.evArgs Ev.mask Ev.maskOf Ev.tableOf Ev.compT Ev.resV Ev.retV Ev.mapO Ev.elemsOf Int.cast_ofNat_Int IntWalk.i64_in IntWalk.u64_in IntWalk.u8_in beq_self_eq_true Bool.true_beq Bool.false_beq Bool.and_true Bool.true_and Bool.false_and Bool.and_false Bool.and_self Bool.not_true Bool.not_false Bool.not_eq_true cond_true cond_false if_true if_false and_true true_and and_self decide_true decide_false Bool.or_true Bool.true_or Bool.or_false Bool.false_or List.isEmpty List.isEmpty_nil List.size_toArray List.map List.length_map List.length_cons List.length_nil Option.map Option.bind Option.getD Option.isSome List.replicate Bool.false_eq_true implies_true forall_const Array.toList Array.isEmpty List.append List.nil_append List.cons_append List.drop_zero List.take_length List.take_succ_cons List.take_zero List.take_nil List.getElem?_map List.getElem?_cons_zero List.getElem?_cons_succ List.getElem?_nil List.append_nil
attribute [local go_sem] FxSens.tk2 FxSens.ik2 FxSens.zv2 FxSens.tk3 FxSens.ik3 FxSens.zv3 FxSens.by3 FxSens.so3 FxSens.tk4 FxSens.ub4 FxSens.zv4 FxSens.tk22 FxSens.ik22 FxSens.zv22 FxSens.tk27 FxSens.ik27 FxSens.zv27 FxSens.by27 FxSens.so27 FxSens.tk32 FxSens.zv32 FxSens.tk36 FxSens.ik36 FxSens.zv36 FxSens.tk47 FxSens.ik47 FxSens.zv47 FxSens.by47 FxSens.so47 FxSens.tk54 FxSens.zv54 FxSens.tk56 FxSens.ct56 FxSens.zv56 FxSens.tk73 FxSens.zv73 FxSens.tk96 FxSens.ik96 FxSens.zv96 FxSens.tk97 FxSens.ct97 FxSens.zv97 FxSens.by97 FxSens.so97 FxSens.tk98 FxSens.zv98 FxSens.tk107 FxSens.zv107 FxSens.tk120 FxSens.zv120 FxSens.tk124 FxSens.zv124 FxSens.tk152 FxSens.zv152 FxSens.tk155 FxSens.zv155 FxSens.mk10_1000000 FxSens.mk15_1000000 FxSens.dw17_6 FxSens.nc17_6 FxSens.mk17_0 FxSens.mk17_1000001 FxSens.mk17_1000002 FxSens.mk17_1000000 FxSens.mk18_1000000 FxSens.mk19_1000000 FxSens.dw39_6 FxSens.nc39_6 FxSens.mk39_0 FxSens.mk39_1000001 FxSens.mk39_1000002 FxSens.mk39_1000000 FxSens.mk42_1000000 FxSens.mk43_1000001 FxSens.mk43_1000000 FxSens.mk44_0 FxSens.mk44_2 FxSens.mk44_1000001 FxSens.mk44_1000002 FxSens.mk44_1000003 FxSens.mk44_1000004 FxSens.mk44_1000000 FxSens.mk45_0 FxSens.mk45_2 FxSens.mk45_4 FxSens.mk45_1000001 FxSens.mk45_1000002 FxSens.mk45_1000003 FxSens.mk45_1000004 FxSens.mk45_1000005 FxSens.mk45_1000006 FxSens.mk45_1000000 FxSens.dw46_28 FxSens.nc46_28 FxSens.mk46_0 FxSens.mk46_2 FxSens.mk46_4 FxSens.mk46_1000001 FxSens.mk46_1000002 FxSens.mk46_1000003 FxSens.mk46_1000004 FxSens.mk46_1000005 FxSens.mk46_1000006 FxSens.mk46_1000000 FxSens.dw47_6 FxSens.nc47_6 FxSens.mk47_0 FxSens.mk47_1000001 FxSens.mk47_1000002 FxSens.mk47_1000000 FxSens.dw48_10 FxSens.nc48_10 FxSens.dw48_11 FxSens.nc48_11 FxSens.mk48_0 FxSens.mk48_1000001 FxSens.mk48_1000002 FxSens.mk48_1000000 FxSens.mk61_1000000 FxSens.mk83_1000000 FxSens.mk84_1000000 FxSens.mk85_1000000 FxSens.mk86_1000000 FxSens.mk87_1000000 FxSens.dw88_1 FxSens.nc88_1 FxSens.mk88_1000000 FxSens.dw89_5 FxSens.nc89_5 FxSens.mk89_0 FxSens.mk89_1000001 FxSens.mk89_1000002 FxSens.mk89_1000000 FxSens.mk90_1000000 FxSens.dw91_3 FxSens.nc91_3 FxSens.mk91_0 FxSens.mk91_1000001 FxSens.mk91_1000002 FxSens.mk91_1000000 FxSens.mk92_1000000 FxSens.mk93_1000000 FxSens.mk94_0 FxSens.mk94_1000001 FxSens.mk94_1000002 FxSens.mk94_1000000 FxSens.dw95_3 FxSens.nc95_3 FxSens.dw95_6 FxSens.nc95_6 FxSens.mk95_0 FxSens.mk95_1000001 FxSens.mk95_1000002 FxSens.mk95_1000000 FxSens.mk114_1000000 FxSens.mk115_1000000 FxSens.mk116_1000000 FxSens.mk117_1000000 FxSens.mk118_1000000 FxSens.mk119_1000000 FxSens.mk128_0 FxSens.mk128_1000001 FxSens.mk128_1000002 FxSens.mk128_1000000 FxSens.mk129_0 FxSens.mk129_1000001 FxSens.mk129_1000002 FxSens.mk129_1000000 FxSens.mk130_0 FxSens.mk130_1000001 FxSens.mk130_1000002 FxSens.mk130_1000000
noncomputable def TM : Table := tableOf [(15, en15), (17, en17), (18, en18), (19, en19), (61, en61)]
def stir (x k : Int) : Int := bitsI .xor .u64 x (shrI .u64 x k)
def mix0 (s n : Int) : Int := IntKind.u64.wrap (s + IntKind.u64.wrap (IntKind.u64.wrap (IntKind.i64.wrap (n + 1)) * 11400714819323198485))
def mix1 (x : Int) : Int := stir (IntKind.u64.wrap (stir (IntKind.u64.wrap (stir x 30 * 13787848793156543929)) 27 * 10723151780598845931)) 31
def mixI (s n : Int) : Int := mix1 (mix0 s n)
theorem e_mix (L : Nat) (s n : Int) : evTop Try.prog [] TM L 1 15 [.int .u64 s, .int .i64 n] = some [.int .u64 (mixI s n)] := by
  unfold evTop
  simp only [List.map]
  rw [evF_s (fn := Try.f15) (msk := en15.ms) (hT := by rfl) (hb := by rfl)]
  simp only [Try.f15, go_sem, Nat.reduceAdd, Nat.reduceSub, Nat.reduceMul, Nat.reduceEqDiff, Nat.reduceBEq, Nat.reduceLT, Nat.reduceLeDiff, Nat.reducePow, Int.reduceToNat, Int.reduceLT, Int.reduceLE, Int.reduceGT, Int.reduceGE, Int.reduceEq, Int.reduceNeg, Int.reduceAdd, Int.reduceSub, ↓reduceIte, reduceCtorEq, mixI, mix1, mix0, stir]
theorem wu (n : Int) : IntKind.u64.wrap n = n % 18446744073709551616 := by simp [IntKind.wrap, IntKind.bits, IntKind.signed]
theorem wu_wu (n : Int) : IntKind.u64.wrap (IntKind.u64.wrap n) = IntKind.u64.wrap n := by rw [wu, wu]; omega
theorem bits_wu (o : BinOp) (x y : Int) : IntKind.u64.wrap (bitsI o .u64 x y) = bitsI o .u64 x y := by unfold bitsI; split <;> rw [wu_wu]
theorem mix0_eq (s n : Int) : IntKind.u64.wrap (IntKind.u64.wrap (s + IntKind.u64.wrap (IntKind.u64.wrap n * 11400714819323198485)) + 11400714819323198485) = mix0 s n := by
  unfold mix0
  rw [IntKind.wrap_i64]
  simp only [wu]
  omega
theorem e_mixed (L : Nat) (s n : Int) : evTop Try.prog [] TM (L + 4) 1 17 [.int .u64 s, .int .i64 n] = some [.int .u64 (mixI s n)] := by
  unfold evTop
  simp only [List.map]
  rw [evF_s (fn := Try.f17) (msk := en17.ms) (hT := by rfl) (hb := by rfl)]
  simp only [Try.f17, go_sem, Nat.reduceAdd, Nat.reduceSub, Nat.reduceMul, Nat.reduceEqDiff, Nat.reduceBEq, Nat.reduceLT, Nat.reduceLeDiff, Nat.reducePow, Int.reduceToNat, Int.reduceLT, Int.reduceLE, Int.reduceGT, Int.reduceGE, Int.reduceEq, Int.reduceNeg, Int.reduceAdd, Int.reduceSub, ↓reduceIte, reduceCtorEq, iter_s]
  rw [Int.mul_one, bits_wu, mix0_eq, mixI, mix1, stir, stir, stir]
def high (x y : Int) : Int := IntKind.u64.wrap (IntKind.u64.wrap (IntKind.u64.wrap (shrI .u64 x 32 * shrI .u64 y 32) + shrI .u64 (IntKind.u64.wrap (IntKind.u64.wrap (shrI .u64 x 32 * bitsI .and .u64 y 4294967295) + shrI .u64 (IntKind.u64.wrap (bitsI .and .u64 x 4294967295 * bitsI .and .u64 y 4294967295)) 32)) 32) +
  shrI .u64 (IntKind.u64.wrap (bitsI .and .u64 (IntKind.u64.wrap (IntKind.u64.wrap (shrI .u64 x 32 * bitsI .and .u64 y 4294967295) + shrI .u64 (IntKind.u64.wrap (bitsI .and .u64 x 4294967295 * bitsI .and .u64 y 4294967295)) 32)) 4294967295 + IntKind.u64.wrap (bitsI .and .u64 x 4294967295 * shrI .u64 y 32))) 32)
def belowI (x n : Int) : Int := if n < 1 then 0 else IntKind.i64.wrap (high x (IntKind.u64.wrap n))
theorem e_below (L : Nat) (s n : Int) : evTop Try.prog [] TM L 2 18 [.int .u64 s, .int .i64 n] = some [.int .i64 (belowI s n)] := by
  unfold evTop
  simp only [List.map]
  rw [evF_s (fn := Try.f18) (msk := en18.ms) (hT := by rfl) (hb := by rfl)]
  by_cases h : n < 1
  · rw [belowI, if_pos h]
    simp only [Try.f18, go_sem, Nat.reduceAdd, Nat.reduceSub, Nat.reduceMul, Nat.reduceEqDiff, Nat.reduceBEq, Nat.reduceLT, Nat.reduceLeDiff, Nat.reducePow, Int.reduceToNat, Int.reduceLT, Int.reduceLE, Int.reduceGT, Int.reduceGE, Int.reduceEq, Int.reduceNeg, Int.reduceAdd, Int.reduceSub, ↓reduceIte, reduceCtorEq, h]
  rw [belowI, if_neg h]
  simp only [Try.f18, go_sem, Nat.reduceAdd, Nat.reduceSub, Nat.reduceMul, Nat.reduceEqDiff, Nat.reduceBEq, Nat.reduceLT, Nat.reduceLeDiff, Nat.reducePow, Int.reduceToNat, Int.reduceLT, Int.reduceLE, Int.reduceGT, Int.reduceGE, Int.reduceEq, Int.reduceNeg, Int.reduceAdd, Int.reduceSub, ↓reduceIte, reduceCtorEq, h]
  rw [evF_s (fn := Try.f61) (msk := en61.ms) (hT := by rfl) (hb := by rfl)]
  simp only [Try.f61, go_sem, Nat.reduceAdd, Nat.reduceSub, Nat.reduceMul, Nat.reduceEqDiff, Nat.reduceBEq, Nat.reduceLT, Nat.reduceLeDiff, Nat.reducePow, Int.reduceToNat, Int.reduceLT, Int.reduceLE, Int.reduceGT, Int.reduceGE, Int.reduceEq, Int.reduceNeg, Int.reduceAdd, Int.reduceSub, ↓reduceIte, reduceCtorEq, high]
theorem e_under (L : Nat) (s n : Int) : evTop Try.prog [] TM L 2 19 [.int .u64 s, .int .i64 n] = some [.int .i64 (belowI s n)] := by
  unfold evTop
  simp only [List.map]
  rw [evF_s (fn := Try.f19) (msk := en19.ms) (hT := by rfl) (hb := by rfl)]
  by_cases h : n < 1
  · rw [belowI, if_pos h]
    simp only [Try.f19, go_sem, Nat.reduceAdd, Nat.reduceSub, Nat.reduceMul, Nat.reduceEqDiff, Nat.reduceBEq, Nat.reduceLT, Nat.reduceLeDiff, Nat.reducePow, Int.reduceToNat, Int.reduceLT, Int.reduceLE, Int.reduceGT, Int.reduceGE, Int.reduceEq, Int.reduceNeg, Int.reduceAdd, Int.reduceSub, ↓reduceIte, reduceCtorEq, h]
  rw [belowI, if_neg h]
  simp only [Try.f19, go_sem, Nat.reduceAdd, Nat.reduceSub, Nat.reduceMul, Nat.reduceEqDiff, Nat.reduceBEq, Nat.reduceLT, Nat.reduceLeDiff, Nat.reducePow, Int.reduceToNat, Int.reduceLT, Int.reduceLE, Int.reduceGT, Int.reduceGE, Int.reduceEq, Int.reduceNeg, Int.reduceAdd, Int.reduceSub, ↓reduceIte, reduceCtorEq, h]
  rw [Int.add_comm (IntKind.u64.wrap (bitsI .and .u64 s 4294967295 * shrI .u64 (IntKind.u64.wrap n) 32)), high]
/-- Both as contracts that compute. -/
def s_mix : Ev.Spec := ⟨fun xs => match xs with | [.int .u64 s, .int .i64 n] => some [.int .u64 (mixI s n)] | _ => none⟩
def s_below : Ev.Spec := ⟨fun xs => match xs with | [.int .u64 s, .int .i64 n] => some [.int .i64 (belowI s n)] | _ => none⟩
theorem s_mix_run (s n : Int) : s_mix.run [.int .u64 s, .int .i64 n] = some [.int .u64 (mixI s n)] := rfl
theorem s_below_run (s n : Int) : s_below.run [.int .u64 s, .int .i64 n] = some [.int .i64 (belowI s n)] := rfl
theorem mix_inv {xs rs : List D} (h : s_mix.run xs = some rs) : ∃ s n, xs = [.int .u64 s, .int .i64 n] ∧ rs = [.int .u64 (mixI s n)] := by
  simp only [s_mix] at h
  split at h
  · exact ⟨_, _, rfl, by simpa using h.symm⟩
  · cases h
theorem below_inv {xs rs : List D} (h : s_below.run xs = some rs) : ∃ s n, xs = [.int .u64 s, .int .i64 n] ∧ rs = [.int .i64 (belowI s n)] := by
  simp only [s_below] at h
  split at h
  · exact ⟨_, _, rfl, by simpa using h.symm⟩
  · cases h
theorem tableM : TableOk Try.prog (([] : Specs).map (·.1)) TM := table_cons Try.func15 (by kernel_rfl) (by kernel_rfl) (table_cons Try.func17 (by kernel_rfl) (by kernel_rfl) (table_cons Try.func18 (by kernel_rfl) (by kernel_rfl) (table_cons Try.func19 (by kernel_rfl) (by kernel_rfl) (table_cons Try.func61 (by kernel_rfl) (by kernel_rfl) table_nil))))
theorem mix_ok : SpecOk Try.prog 15 s_mix := spec_of_ev mixed specs_nil tableM fun xs rs h => by
  obtain ⟨s, n, rfl, rfl⟩ := mix_inv h
  exact ⟨0, 1, e_mix 0 s n⟩
theorem mixed_ok : SpecOk Try.prog 17 s_mix := spec_of_ev mixed specs_nil tableM fun xs rs h => by
  obtain ⟨s, n, rfl, rfl⟩ := mix_inv h
  exact ⟨4, 1, e_mixed 0 s n⟩
theorem below_ok : SpecOk Try.prog 18 s_below := spec_of_ev mixed specs_nil tableM fun xs rs h => by
  obtain ⟨s, n, rfl, rfl⟩ := below_inv h
  exact ⟨0, 2, e_below 0 s n⟩
theorem under_ok : SpecOk Try.prog 19 s_below := spec_of_ev mixed specs_nil tableM fun xs rs h => by
  obtain ⟨s, n, rfl, rfl⟩ := below_inv h
  exact ⟨0, 2, e_under 0 s n⟩
#print axioms under_ok
end Go.Proofs.Ytjplkbeolakbjaa.MixSens
end
section
set_option maxRecDepth 1000000
namespace Go.Proofs.Ytjplkbeolakbjaa.Sens0Sens
open Go.Ev Go.Proofs.Ytjplkbeolakbjaa.FxSens Go.Proofs.Ytjplkbeolakbjaa.MixSens
/-- A function of no arguments whose answer is known. -/
def known (r : List D) : Ev.Spec := ⟨fun xs => match xs with | [] => some r | _ => none⟩
theorem known_ok {G : Specs} {T : Table} {f : FuncId} {r : List D} (L c : Nat) (hG : ∀ g s, Ev.look G g = some s → SpecOk Try.prog g s) (hT : TableOk Try.prog (G.map (·.1)) T) (h : evTop Try.prog G T L c f [] = some r) : SpecOk Try.prog f (known r) :=
  spec_of_ev mixed hG hT fun xs rs hr => by
    simp only [known] at hr
    split at hr
    · cases hr; exact ⟨L, c, h⟩
    · cases hr
def tinyD : D := .agg 56 [.int .i64 1, .int .i64 3, .sl 3 [.int .i64 5, .int .i64 5, .int .i64 5], .sl 47 [.int .i64 0, .int .i64 0, .int .i64 0], .sl 3 [.int .i64 4096, .int .i64 4096, .int .i64 2048], .int .i64 10, .int .i64 2, .int .i64 0]
noncomputable def T83 : Table := tableOf [(83, en83)]
theorem e83 : evTop Try.prog [] T83 30 8 83 [] = some [tinyD] := by kernel_rfl
theorem s83_ok : SpecOk Try.prog 83 (known [tinyD]) := known_ok 30 8 specs_nil (table_cons Try.func83 (by kernel_rfl) (by kernel_rfl) table_nil) e83
def G42 : Specs := [(15, s_mix), (18, s_below), (83, known [tinyD])]
noncomputable def T42 : Table := tableOf [(42, en42), (45, en45), (48, en48), (47, en47), (39, en39), (86, en86), (43, en43), (84, en84), (85, en85), (87, en87), (114, en114), (115, en115), (116, en116), (117, en117), (118, en118), (119, en119), (128, en128), (129, en129), (130, en130), (88, en88), (89, en89), (90, en90), (91, en91), (92, en92)]
theorem e42 : evTop Try.prog G42 T42 30 8 42 [] = some [.bool true] := by kernel_rfl
theorem G42_ok : ∀ g s, Ev.look G42 g = some s → SpecOk Try.prog g s := specs_cons mix_ok (specs_cons below_ok (specs_cons s83_ok specs_nil))
theorem T42_ok : TableOk Try.prog (G42.map (·.1)) T42 := (table_cons Try.func42 (by kernel_rfl) (by kernel_rfl) (table_cons Try.func45 (by kernel_rfl) (by kernel_rfl) (table_cons Try.func48 (by kernel_rfl) (by kernel_rfl) (table_cons Try.func47 (by kernel_rfl) (by kernel_rfl) (table_cons Try.func39 (by kernel_rfl) (by kernel_rfl) (table_cons Try.func86 (by kernel_rfl) (by kernel_rfl) (table_cons Try.func43 (by kernel_rfl) (by kernel_rfl) (table_cons Try.func84 (by kernel_rfl) (by kernel_rfl) (table_cons Try.func85 (by kernel_rfl) (by kernel_rfl) (table_cons Try.func87 (by kernel_rfl) (by kernel_rfl) (table_cons Try.func114 (by kernel_rfl) (by kernel_rfl) (table_cons Try.func115 (by kernel_rfl) (by kernel_rfl) (table_cons Try.func116 (by kernel_rfl) (by kernel_rfl) (table_cons Try.func117 (by kernel_rfl) (by kernel_rfl) (table_cons Try.func118 (by kernel_rfl) (by kernel_rfl) (table_cons Try.func119 (by kernel_rfl) (by kernel_rfl) (table_cons Try.func128 (by kernel_rfl) (by kernel_rfl) (table_cons Try.func129 (by kernel_rfl) (by kernel_rfl) (table_cons Try.func130 (by kernel_rfl) (by kernel_rfl) (table_cons Try.func88 (by kernel_rfl) (by kernel_rfl) (table_cons Try.func89 (by kernel_rfl) (by kernel_rfl) (table_cons Try.func90 (by kernel_rfl) (by kernel_rfl) (table_cons Try.func91 (by kernel_rfl) (by kernel_rfl) (table_cons Try.func92 (by kernel_rfl) (by kernel_rfl) table_nil))))))))))))))))))))))))
theorem s42_ok : SpecOk Try.prog 42 (known [.bool true]) := known_ok 30 8 G42_ok T42_ok e42
#print axioms s42_ok
end Go.Proofs.Ytjplkbeolakbjaa.Sens0Sens
end
section
set_option linter.unusedVariables false
set_option linter.unusedSimpArgs false
set_option maxRecDepth 100000
namespace Go.Proofs.Ytjplkbeolakbjaa.Eq47Sens
open Go.Ev Go.Proofs.Ytjplkbeolakbjaa.FxSens
attribute [local go_sem] Ev.putR_s Ev.putR_0 Ev.thenO_s Ev.thenO_0 Ev.seqR_n Ev.seqR_e Ev.seqR_r Ev.seqR_0 Ev.blkR_e Ev.blkR_n Ev.blkR_r Ev.blkR_0 Ev.normR_s Ev.normR_0 Ev.outR_r Ev.outR_n Ev.outR_0 Ev.retS_s Ev.retS_0 Ev.pureO_s Ev.pureO_0 Ev.topR_0 Ev.topR_t Ev.topR_t0 Ev.oneL_0 Ev.oneL_s Ev.topR_d Ev.topR_nils Ev.topR_agg Ev.topR_rs Ev.evOp_move Ev.evOp_assign Ev.evOp_pick Ev.evOp_alloc Ev.evOp_box Ev.evOp_build Ev.evOp_buildSlice Ev.evOp_load Ev.evOp_store Ev.evOp_makeMap Ev.evOp_lookup Ev.evOp_mapUpdate Ev.evOp_insert Ev.evOp_nilCheck Ev.evOp_binOp Ev.evOp_unOp Ev.evOp_convert Ev.evOp_makeFunc Ev.evOp_makeSlice Ev.evOp_slice Ev.evOp_fieldAddr Ev.evOp_field Ev.evOp_indexAddr Ev.evOp_index Ev.evOp_extract Ev.evOp_call Ev.evOp_append Ev.evOp_len Ev.evOp_min Ev.evOp_max Ev.condR_b Ev.condR_t Ev.evOps_nil Ev.evOps_plain Ev.evOps_guard Ev.runG_eq Ev.skipG_eq Ev.condL_tt Ev.condL_ff Ev.condL_tf Ev.condL_ft Ev.condL_u Ev.condC_t Ev.condC_f Ev.evC_skip Ev.evC_ret Ev.evC_exit Ev.evC_label Ev.evC_region Ev.evC_draw Ev.evC_seq Ev.evC_cond Ev.evC_block Ev.evC_loop Ev.fin_d Ev.fin_nils Ev.fin_agg_ Ev.fin_rs Ev.finS_s Ev.mapO_fin Ev.upd_upd Ev.argv_d Ev.argv_nils Ev.argv_agg Ev.argv_rs Ev.argv_p Ev.appendTo_nils Ev.appendTo_rs Ev.consV_d Ev.consV_agg Ev.consV_p Ev.consV_rs Ev.consV_nils Ev.consV_fn Ev.consV_und Ev.consV_jk Ev.consV_grown Ev.topR_grown Ev.len_grown Ev.consV_mp Ev.sameK_i Ev.sameK_s Ev.mget_0 Ev.mget_hit Ev.mget_miss Ev.mput_0 Ev.mput_hit Ev.mput_miss Ev.apartAll Ev.apartL Ev.apartV Ev.freeAll Ev.sel Ev.keyOfV Ev.evLookup Ev.evPut Ev.hintOk Ev.keyOk Ev.consP Ev.lookV Ev.guardV Ev.dstAt Ev.evPure Ev.evStore Ev.evPureB Ev.evBin Ev.evBinO Ev.evNil Ev.isNilC Ev.evUn Ev.evConv Ev.evSlice Ev.optI Ev.lenV Ev.elemT Ev.foldI Ev.capsOk Ev.noTup Ev.nth Ev.setN Ev.pad Ev.V.get Ev.V.put Ev.putD Ev.hasT Ev.newBlk Ev.upd Ev.keq Ev.empty Ev.evCall Ev.V.args Ev.argP Ev.callOf Ev.evNilP Ev.isNilP Ev.look Ev.V.view.views Ev.V.view Ev.V.toD Ev.V.toD.V.toDs Ev.V.pure.pures Ev.V.pure Ev.D.flat.flats Ev.D.flat Ev.mkAgg Ev.allD Ev.aggParts Ev.setParts Ev.setElems Ev.getPath Ev.setPath Ev.subL Ev.eqD Ev.eqD.eqDs Ev.and2 Ev.strCut Ev.evalT Ev.constT Ev.evArgs Ev.mask Ev.maskOf Ev.tableOf Ev.compT Ev.resV Ev.retV Ev.mapO Ev.elemsOf Int.cast_ofNat_Int IntWalk.i64_in IntWalk.u64_in IntWalk.u8_in beq_self_eq_true Bool.true_beq Bool.false_beq Bool.and_true Bool.true_and Bool.false_and Bool.and_false Bool.and_self Bool.not_true Bool.not_false Bool.not_eq_true cond_true cond_false if_true if_false and_true true_and and_self decide_true decide_false Bool.or_true Bool.true_or Bool.or_false Bool.false_or List.isEmpty List.isEmpty_nil List.size_toArray List.map List.length_map List.length_cons List.length_nil Option.map Option.bind Option.getD Option.isSome List.replicate Bool.false_eq_true implies_true forall_const Array.toList Array.isEmpty List.append List.nil_append List.cons_append List.drop_zero List.take_length List.take_succ_cons List.take_zero List.take_nil List.getElem?_map List.getElem?_cons_zero List.getElem?_cons_succ List.getElem?_nil List.append_nil
attribute [local go_sem] FxSens.tk2 FxSens.ik2 FxSens.zv2 FxSens.tk3 FxSens.ik3 FxSens.zv3 FxSens.by3 FxSens.so3 FxSens.tk4 FxSens.ub4 FxSens.zv4 FxSens.tk22 FxSens.ik22 FxSens.zv22 FxSens.tk27 FxSens.ik27 FxSens.zv27 FxSens.by27 FxSens.so27 FxSens.tk32 FxSens.zv32 FxSens.tk36 FxSens.ik36 FxSens.zv36 FxSens.tk47 FxSens.ik47 FxSens.zv47 FxSens.by47 FxSens.so47 FxSens.tk54 FxSens.zv54 FxSens.tk56 FxSens.ct56 FxSens.zv56 FxSens.tk73 FxSens.zv73 FxSens.tk96 FxSens.ik96 FxSens.zv96 FxSens.tk97 FxSens.ct97 FxSens.zv97 FxSens.by97 FxSens.so97 FxSens.tk98 FxSens.zv98 FxSens.tk107 FxSens.zv107 FxSens.tk120 FxSens.zv120 FxSens.tk124 FxSens.zv124 FxSens.tk152 FxSens.zv152 FxSens.tk155 FxSens.zv155 FxSens.mk10_1000000 FxSens.mk15_1000000 FxSens.dw17_6 FxSens.nc17_6 FxSens.mk17_0 FxSens.mk17_1000001 FxSens.mk17_1000002 FxSens.mk17_1000000 FxSens.mk18_1000000 FxSens.mk19_1000000 FxSens.dw39_6 FxSens.nc39_6 FxSens.mk39_0 FxSens.mk39_1000001 FxSens.mk39_1000002 FxSens.mk39_1000000 FxSens.mk42_1000000 FxSens.mk43_1000001 FxSens.mk43_1000000 FxSens.mk44_0 FxSens.mk44_2 FxSens.mk44_1000001 FxSens.mk44_1000002 FxSens.mk44_1000003 FxSens.mk44_1000004 FxSens.mk44_1000000 FxSens.mk45_0 FxSens.mk45_2 FxSens.mk45_4 FxSens.mk45_1000001 FxSens.mk45_1000002 FxSens.mk45_1000003 FxSens.mk45_1000004 FxSens.mk45_1000005 FxSens.mk45_1000006 FxSens.mk45_1000000 FxSens.dw46_28 FxSens.nc46_28 FxSens.mk46_0 FxSens.mk46_2 FxSens.mk46_4 FxSens.mk46_1000001 FxSens.mk46_1000002 FxSens.mk46_1000003 FxSens.mk46_1000004 FxSens.mk46_1000005 FxSens.mk46_1000006 FxSens.mk46_1000000 FxSens.dw47_6 FxSens.nc47_6 FxSens.mk47_0 FxSens.mk47_1000001 FxSens.mk47_1000002 FxSens.mk47_1000000 FxSens.dw48_10 FxSens.nc48_10 FxSens.dw48_11 FxSens.nc48_11 FxSens.mk48_0 FxSens.mk48_1000001 FxSens.mk48_1000002 FxSens.mk48_1000000 FxSens.mk61_1000000 FxSens.mk83_1000000 FxSens.mk84_1000000 FxSens.mk85_1000000 FxSens.mk86_1000000 FxSens.mk87_1000000 FxSens.dw88_1 FxSens.nc88_1 FxSens.mk88_1000000 FxSens.dw89_5 FxSens.nc89_5 FxSens.mk89_0 FxSens.mk89_1000001 FxSens.mk89_1000002 FxSens.mk89_1000000 FxSens.mk90_1000000 FxSens.dw91_3 FxSens.nc91_3 FxSens.mk91_0 FxSens.mk91_1000001 FxSens.mk91_1000002 FxSens.mk91_1000000 FxSens.mk92_1000000 FxSens.mk93_1000000 FxSens.mk94_0 FxSens.mk94_1000001 FxSens.mk94_1000002 FxSens.mk94_1000000 FxSens.dw95_3 FxSens.nc95_3 FxSens.dw95_6 FxSens.nc95_6 FxSens.mk95_0 FxSens.mk95_1000001 FxSens.mk95_1000002 FxSens.mk95_1000000 FxSens.mk114_1000000 FxSens.mk115_1000000 FxSens.mk116_1000000 FxSens.mk117_1000000 FxSens.mk118_1000000 FxSens.mk119_1000000 FxSens.mk128_0 FxSens.mk128_1000001 FxSens.mk128_1000002 FxSens.mk128_1000000 FxSens.mk129_0 FxSens.mk129_1000001 FxSens.mk129_1000002 FxSens.mk129_1000000 FxSens.mk130_0 FxSens.mk130_1000001 FxSens.mk130_1000002 FxSens.mk130_1000000
noncomputable def T : Table := tableOf [(47, en47)]
def en (l : List Int) : D := .sl 27 (l.map (.int .i64))
def hd (a b : List Int) (i : Nat) : List V := hd47_0 (.d (en a)) (.d (en b)) (.d (.int .i64 a.length)) (.d (.int .i64 i))
def R (a b : List Int) (st : Store) (i : Nat) : Out := if a.drop i = b.drop i then some (.exit 0, hx47_0, st) else some (.ret, hr47 (.d (.bool false)), st)
theorem loop (L : Nat) (call : Caller) (lv : Nat) (a b : List Int) (st : Store) (hl : a.length ≤ 4611686018427387904) (hab : b.length = a.length) :
    ∀ (m i : Nat) (env : List V), i ≤ a.length → a.length - i < m → mask (maskOf en47.ms 0) env = hd a b i →
      iter (evC Try.prog [] call L en47.ms lv 0 lb47_0) (maskOf en47.ms 0) m env st = R a b st i := by
  refine iter_wf _ _ (fun i => i ≤ a.length) (hd a b) (fun _ => st) (R a b st) (fun i => a.length - i) ?_
  intro i hi k hk
  by_cases hin : i < a.length
  case neg =>
    obtain rfl : i = a.length := by omega
    have hlt : ¬ (a.length : Int) < a.length := by omega
    have hR : R a b st a.length = some (.exit 0, hx47_0, st) := by rw [R, List.drop_length, ← hab, List.drop_length, if_pos rfl]
    rw [hR]
    simp only [lb47_0, loopN, loops, hd, hd47_0, hx47_0, Try.f47, go_sem, Nat.reduceAdd, Nat.reduceSub, Nat.reduceMul, Nat.reduceEqDiff, Nat.reduceBEq, Nat.reduceLT, Nat.reduceLeDiff, Nat.reducePow, Int.reduceToNat, Int.reduceLT, Int.reduceLE, Int.reduceGT, Int.reduceGE, Int.reduceEq, Int.reduceNeg, Int.reduceAdd, Int.reduceSub, ↓reduceIte, reduceCtorEq, hlt]
  have hlt : (i : Int) < a.length := by omega
  have hlb : (i : Int) < b.length := by omega
  have hxa : (a.map (D.int .i64))[i]? = some (.int .i64 a[i]) := by simp [hin]
  have hxb : (b.map (D.int .i64))[i]? = some (.int .i64 b[i]) := by simp [hab, hin]
  have hw : IntKind.i64.wrap ((i : Int) + 1) = ((i + 1 : Nat) : Int) := by rw [IntWalk.i64_in _ (by omega)]; rfl
  have h0 : (0 : Int) ≤ (i : Int) := by omega
  have ht : ((i : Int)).toNat = i := by omega
  have hda : a.drop i = a[i] :: a.drop (i + 1) := List.drop_eq_getElem_cons hin
  have hdb : b.drop i = b[i] :: b.drop (i + 1) := List.drop_eq_getElem_cons (by omega)
  by_cases hp : a[i] = b[i]
  · have hR : R a b st i = R a b st (i + 1) := by simp only [R, hda, hdb, List.cons.injEq, hp, true_and]
    rw [hR]
    simp only [lb47_0, loopN, loops, hd, hd47_0, en, Try.f47, go_sem, Nat.reduceAdd, Nat.reduceSub, Nat.reduceMul, Nat.reduceEqDiff, Nat.reduceBEq, Nat.reduceLT, Nat.reduceLeDiff, Nat.reducePow, Int.reduceToNat, Int.reduceLT, Int.reduceLE, Int.reduceGT, Int.reduceGE, Int.reduceEq, Int.reduceNeg, Int.reduceAdd, Int.reduceSub, ↓reduceIte, reduceCtorEq, hlt, hlb, hxa, hxb, h0, ht, hp, hw]
    exact hk (i + 1) _ (by omega) (by omega) (by simp only [hd, hd47_0, en, go_sem, Nat.reduceAdd, Nat.reduceSub, Nat.reduceMul, Nat.reduceEqDiff, Nat.reduceBEq, Nat.reduceLT, Nat.reduceLeDiff, Nat.reducePow, Int.reduceToNat, Int.reduceLT, Int.reduceLE, Int.reduceGT, Int.reduceGE, Int.reduceEq, Int.reduceNeg, Int.reduceAdd, Int.reduceSub, ↓reduceIte, reduceCtorEq, hw])
  · have hR : R a b st i = some (.ret, hr47 (.d (.bool false)), st) := by
      rw [R, if_neg (by rw [hda, hdb]; intro h; exact hp (List.cons.inj h).1)]
    rw [hR]
    simp only [lb47_0, loopN, loops, hd, hd47_0, hr47, en, Try.f47, go_sem, Nat.reduceAdd, Nat.reduceSub, Nat.reduceMul, Nat.reduceEqDiff, Nat.reduceBEq, Nat.reduceLT, Nat.reduceLeDiff, Nat.reducePow, Int.reduceToNat, Int.reduceLT, Int.reduceLE, Int.reduceGT, Int.reduceGE, Int.reduceEq, Int.reduceNeg, Int.reduceAdd, Int.reduceSub, ↓reduceIte, reduceCtorEq, hlt, hlb, hxa, hxb, h0, ht, hp]
theorem e (a b : List Int) (hl : a.length ≤ 4611686018427387904) : ∃ L c, evTop Try.prog [] T L c 47 [en a, en b] = some [.bool (decide (a = b))] := by
  refine ⟨a.length + 1, 1, ?_⟩
  unfold evTop
  simp only [List.map]
  rw [evF_s (fn := Try.f47) (msk := en47.ms) (hT := by rfl) (hb := by rfl)]
  by_cases hab : a.length = b.length
  case neg =>
    have hne : ¬ (a.length : Int) = b.length := by omega
    have hd : decide (a = b) = false := decide_eq_false (fun h => hab (by rw [h]))
    rw [hd]
    simp only [en, Try.f47, go_sem, Nat.reduceAdd, Nat.reduceSub, Nat.reduceMul, Nat.reduceEqDiff, Nat.reduceBEq, Nat.reduceLT, Nat.reduceLeDiff, Nat.reducePow, Int.reduceToNat, Int.reduceLT, Int.reduceLE, Int.reduceGT, Int.reduceGE, Int.reduceEq, Int.reduceNeg, Int.reduceAdd, Int.reduceSub, ↓reduceIte, reduceCtorEq, hne]
  have heq : (b.length : Int) = a.length := by omega
  simp only [en, Try.f47, go_sem, Nat.reduceAdd, Nat.reduceSub, Nat.reduceMul, Nat.reduceEqDiff, Nat.reduceBEq, Nat.reduceLT, Nat.reduceLeDiff, Nat.reducePow, Int.reduceToNat, Int.reduceLT, Int.reduceLE, Int.reduceGT, Int.reduceGE, Int.reduceEq, Int.reduceNeg, Int.reduceAdd, Int.reduceSub, ↓reduceIte, reduceCtorEq, heq]
  conv in iter _ _ _ _ _ => change iter (evC _ _ _ _ en47.ms _ _ lb47_0) (maskOf en47.ms 0) _ _ _
  rw [loop _ _ _ a b _ hl hab.symm _ 0 _ (by omega) (by omega) (by simp only [hd, hd47_0, en, go_sem, Nat.reduceAdd, Nat.reduceSub, Nat.reduceMul, Nat.reduceEqDiff, Nat.reduceBEq, Nat.reduceLT, Nat.reduceLeDiff, Nat.reducePow, Int.reduceToNat, Int.reduceLT, Int.reduceLE, Int.reduceGT, Int.reduceGE, Int.reduceEq, Int.reduceNeg, Int.reduceAdd, Int.reduceSub, ↓reduceIte, reduceCtorEq])]
  rw [R, List.drop_zero, List.drop_zero]
  by_cases hp : a = b
  · rw [if_pos hp, decide_eq_true hp]
    simp only [hx47_0, go_sem, Nat.reduceAdd, Nat.reduceSub, Nat.reduceMul, Nat.reduceEqDiff, Nat.reduceBEq, Nat.reduceLT, Nat.reduceLeDiff, Nat.reducePow, Int.reduceToNat, Int.reduceLT, Int.reduceLE, Int.reduceGT, Int.reduceGE, Int.reduceEq, Int.reduceNeg, Int.reduceAdd, Int.reduceSub, ↓reduceIte, reduceCtorEq]
  · rw [if_neg hp, decide_eq_false hp]
    simp only [hr47, go_sem, Nat.reduceAdd, Nat.reduceSub, Nat.reduceMul, Nat.reduceEqDiff, Nat.reduceBEq, Nat.reduceLT, Nat.reduceLeDiff, Nat.reducePow, Int.reduceToNat, Int.reduceLT, Int.reduceLE, Int.reduceGT, Int.reduceGE, Int.reduceEq, Int.reduceNeg, Int.reduceAdd, Int.reduceSub, ↓reduceIte, reduceCtorEq]
theorem map_inj {k : IntKind} {l l' : List Int} (h : l.map (D.int k) = l'.map (D.int k)) : l = l' := by
  induction l generalizing l' with
  | nil => cases l' with
    | nil => rfl
    | cons _ _ => cases h
  | cons x r ih => cases l' with
    | nil => cases h
    | cons y q => simp only [List.map_cons, List.cons.injEq, D.int.injEq, true_and] at h; rw [h.1, ih h.2]
noncomputable def s47 : Ev.Spec := mkSpec (fun x : List Int × List Int => [en x.1, en x.2]) (fun x => x.1.length ≤ 4611686018427387904) (fun x => [.bool (decide (x.1 = x.2))])
theorem s47_run (a b : List Int) (hl : a.length ≤ 4611686018427387904) : s47.run [.sl 27 (a.map (.int .i64)), .sl 27 (b.map (.int .i64))] = some [.bool (decide (a = b))] := by
  unfold s47
  exact mkSpec_run (enc := fun x : List Int × List Int => [en x.1, en x.2]) (pre := fun x => x.1.length ≤ 4611686018427387904) (fun x y h => by
    simp only [en, List.cons.injEq, D.sl.injEq, and_true, true_and] at h
    exact Prod.ext (map_inj h.1) (map_inj h.2)) (a, b) hl
theorem s47_ok : SpecOk Try.prog 47 s47 := spec_of mixed specs_nil (table_cons Try.func47 (by kernel_rfl) (by kernel_rfl) table_nil) fun x hp => e x.1 x.2 hp
#print axioms s47_ok
end Go.Proofs.Ytjplkbeolakbjaa.Eq47Sens
end
section
set_option linter.unusedVariables false
set_option linter.unusedSimpArgs false
set_option maxRecDepth 100000
namespace Go.Proofs.Ytjplkbeolakbjaa.TopSensorBleeds
open Go.Ev Go.Proofs.Ytjplkbeolakbjaa.FxSens Go.Proofs.Ytjplkbeolakbjaa.ChkSens Go.Proofs.Ytjplkbeolakbjaa.Sens0Sens
open Go.Proofs.Ytjplkbeolakbjaa.Bleed3Sens (bleedE lst sBl sBl_run bleed_ok)
attribute [local go_sem] Ev.putR_s Ev.putR_0 Ev.thenO_s Ev.thenO_0 Ev.seqR_n Ev.seqR_e Ev.seqR_r Ev.seqR_0 Ev.blkR_e Ev.blkR_n Ev.blkR_r Ev.blkR_0 Ev.normR_s Ev.normR_0 Ev.outR_r Ev.outR_n Ev.outR_0 Ev.retS_s Ev.retS_0 Ev.pureO_s Ev.pureO_0 Ev.topR_0 Ev.topR_t Ev.topR_t0 Ev.oneL_0 Ev.oneL_s Ev.topR_d Ev.topR_nils Ev.topR_agg Ev.topR_rs Ev.evOp_move Ev.evOp_assign Ev.evOp_pick Ev.evOp_alloc Ev.evOp_box Ev.evOp_build Ev.evOp_buildSlice Ev.evOp_load Ev.evOp_store Ev.evOp_makeMap Ev.evOp_lookup Ev.evOp_mapUpdate Ev.evOp_insert Ev.evOp_nilCheck Ev.evOp_binOp Ev.evOp_unOp Ev.evOp_convert Ev.evOp_makeFunc Ev.evOp_makeSlice Ev.evOp_slice Ev.evOp_fieldAddr Ev.evOp_field Ev.evOp_indexAddr Ev.evOp_index Ev.evOp_extract Ev.evOp_call Ev.evOp_append Ev.evOp_len Ev.evOp_min Ev.evOp_max Ev.condR_b Ev.condR_t Ev.evOps_nil Ev.evOps_plain Ev.evOps_guard Ev.runG_eq Ev.skipG_eq Ev.condL_tt Ev.condL_ff Ev.condL_tf Ev.condL_ft Ev.condL_u Ev.condC_t Ev.condC_f Ev.evC_skip Ev.evC_ret Ev.evC_exit Ev.evC_label Ev.evC_region Ev.evC_draw Ev.evC_seq Ev.evC_cond Ev.evC_block Ev.evC_loop Ev.fin_d Ev.fin_nils Ev.fin_agg_ Ev.fin_rs Ev.finS_s Ev.mapO_fin Ev.upd_upd Ev.argv_d Ev.argv_nils Ev.argv_agg Ev.argv_rs Ev.argv_p Ev.appendTo_nils Ev.appendTo_rs Ev.consV_d Ev.consV_agg Ev.consV_p Ev.consV_rs Ev.consV_nils Ev.consV_fn Ev.consV_und Ev.consV_jk Ev.consV_grown Ev.topR_grown Ev.len_grown Ev.consV_mp Ev.sameK_i Ev.sameK_s Ev.mget_0 Ev.mget_hit Ev.mget_miss Ev.mput_0 Ev.mput_hit Ev.mput_miss Ev.apartAll Ev.apartL Ev.apartV Ev.freeAll Ev.sel Ev.keyOfV Ev.evLookup Ev.evPut Ev.hintOk Ev.keyOk Ev.consP Ev.lookV Ev.guardV Ev.dstAt Ev.evPure Ev.evStore Ev.evPureB Ev.evBin Ev.evBinO Ev.evNil Ev.isNilC Ev.evUn Ev.evConv Ev.evSlice Ev.optI Ev.lenV Ev.elemT Ev.foldI Ev.capsOk Ev.noTup Ev.nth Ev.setN Ev.pad Ev.V.get Ev.V.put Ev.putD Ev.hasT Ev.newBlk Ev.upd Ev.keq Ev.empty Ev.evCall Ev.V.args Ev.argP Ev.callOf Ev.evNilP Ev.isNilP Ev.look Ev.V.view.views Ev.V.view Ev.V.toD Ev.V.toD.V.toDs Ev.V.pure.pures Ev.V.pure Ev.D.flat.flats Ev.D.flat Ev.mkAgg Ev.allD Ev.aggParts Ev.setParts Ev.setElems Ev.getPath Ev.setPath Ev.subL Ev.eqD Ev.eqD.eqDs Ev.and2 Ev.strCut Ev.evalT Ev.constT Ev.evArgs Ev.mask Ev.maskOf Ev.tableOf Ev.compT Ev.resV Ev.retV Ev.mapO Ev.elemsOf Int.cast_ofNat_Int IntWalk.i64_in IntWalk.u64_in IntWalk.u8_in beq_self_eq_true Bool.true_beq Bool.false_beq Bool.and_true Bool.true_and Bool.false_and Bool.and_false Bool.and_self Bool.not_true Bool.not_false Bool.not_eq_true cond_true cond_false if_true if_false and_true true_and and_self decide_true decide_false Bool.or_true Bool.true_or Bool.or_false Bool.false_or List.isEmpty List.isEmpty_nil List.size_toArray List.map List.length_map List.length_cons List.length_nil Option.map Option.bind Option.getD Option.isSome List.replicate Bool.false_eq_true implies_true forall_const Array.toList Array.isEmpty List.append List.nil_append List.cons_append List.drop_zero List.take_length List.take_succ_cons List.take_zero List.take_nil List.getElem?_map List.getElem?_cons_zero List.getElem?_cons_succ List.getElem?_nil List.append_nil
attribute [local go_sem] FxSens.tk2 FxSens.ik2 FxSens.zv2 FxSens.tk3 FxSens.ik3 FxSens.zv3 FxSens.by3 FxSens.so3 FxSens.tk4 FxSens.ub4 FxSens.zv4 FxSens.tk22 FxSens.ik22 FxSens.zv22 FxSens.tk27 FxSens.ik27 FxSens.zv27 FxSens.by27 FxSens.so27 FxSens.tk32 FxSens.zv32 FxSens.tk36 FxSens.ik36 FxSens.zv36 FxSens.tk47 FxSens.ik47 FxSens.zv47 FxSens.by47 FxSens.so47 FxSens.tk54 FxSens.zv54 FxSens.tk56 FxSens.ct56 FxSens.zv56 FxSens.tk73 FxSens.zv73 FxSens.tk96 FxSens.ik96 FxSens.zv96 FxSens.tk97 FxSens.ct97 FxSens.zv97 FxSens.by97 FxSens.so97 FxSens.tk98 FxSens.zv98 FxSens.tk107 FxSens.zv107 FxSens.tk120 FxSens.zv120 FxSens.tk124 FxSens.zv124 FxSens.tk152 FxSens.zv152 FxSens.tk155 FxSens.zv155 FxSens.mk10_1000000 FxSens.mk15_1000000 FxSens.dw17_6 FxSens.nc17_6 FxSens.mk17_0 FxSens.mk17_1000001 FxSens.mk17_1000002 FxSens.mk17_1000000 FxSens.mk18_1000000 FxSens.mk19_1000000 FxSens.dw39_6 FxSens.nc39_6 FxSens.mk39_0 FxSens.mk39_1000001 FxSens.mk39_1000002 FxSens.mk39_1000000 FxSens.mk42_1000000 FxSens.mk43_1000001 FxSens.mk43_1000000 FxSens.mk44_0 FxSens.mk44_2 FxSens.mk44_1000001 FxSens.mk44_1000002 FxSens.mk44_1000003 FxSens.mk44_1000004 FxSens.mk44_1000000 FxSens.mk45_0 FxSens.mk45_2 FxSens.mk45_4 FxSens.mk45_1000001 FxSens.mk45_1000002 FxSens.mk45_1000003 FxSens.mk45_1000004 FxSens.mk45_1000005 FxSens.mk45_1000006 FxSens.mk45_1000000 FxSens.dw46_28 FxSens.nc46_28 FxSens.mk46_0 FxSens.mk46_2 FxSens.mk46_4 FxSens.mk46_1000001 FxSens.mk46_1000002 FxSens.mk46_1000003 FxSens.mk46_1000004 FxSens.mk46_1000005 FxSens.mk46_1000006 FxSens.mk46_1000000 FxSens.dw47_6 FxSens.nc47_6 FxSens.mk47_0 FxSens.mk47_1000001 FxSens.mk47_1000002 FxSens.mk47_1000000 FxSens.dw48_10 FxSens.nc48_10 FxSens.dw48_11 FxSens.nc48_11 FxSens.mk48_0 FxSens.mk48_1000001 FxSens.mk48_1000002 FxSens.mk48_1000000 FxSens.mk61_1000000 FxSens.mk83_1000000 FxSens.mk84_1000000 FxSens.mk85_1000000 FxSens.mk86_1000000 FxSens.mk87_1000000 FxSens.dw88_1 FxSens.nc88_1 FxSens.mk88_1000000 FxSens.dw89_5 FxSens.nc89_5 FxSens.mk89_0 FxSens.mk89_1000001 FxSens.mk89_1000002 FxSens.mk89_1000000 FxSens.mk90_1000000 FxSens.dw91_3 FxSens.nc91_3 FxSens.mk91_0 FxSens.mk91_1000001 FxSens.mk91_1000002 FxSens.mk91_1000000 FxSens.mk92_1000000 FxSens.mk93_1000000 FxSens.mk94_0 FxSens.mk94_1000001 FxSens.mk94_1000002 FxSens.mk94_1000000 FxSens.dw95_3 FxSens.nc95_3 FxSens.dw95_6 FxSens.nc95_6 FxSens.mk95_0 FxSens.mk95_1000001 FxSens.mk95_1000002 FxSens.mk95_1000000 FxSens.mk114_1000000 FxSens.mk115_1000000 FxSens.mk116_1000000 FxSens.mk117_1000000 FxSens.mk118_1000000 FxSens.mk119_1000000 FxSens.mk128_0 FxSens.mk128_1000001 FxSens.mk128_1000002 FxSens.mk128_1000000 FxSens.mk129_0 FxSens.mk129_1000001 FxSens.mk129_1000002 FxSens.mk129_1000000 FxSens.mk130_0 FxSens.mk130_1000001 FxSens.mk130_1000002 FxSens.mk130_1000000
noncomputable def G : Specs := [(42, known [.bool true]), (45, sBl), (46, sBl), (47, Eq47Sens.s47)]
noncomputable def T : Table := tableOf [(10, en10)]
theorem G_ok : ∀ g s, Ev.look G g = some s → SpecOk Try.prog g s := specs_cons s42_ok (specs_cons bleed_ok (specs_cons Bled4Sens.bled_ok (specs_cons Eq47Sens.s47_ok specs_nil)))
theorem T_ok : TableOk Try.prog (G.map (·.1)) T := (table_cons Try.func10 (by kernel_rfl) (by kernel_rfl) table_nil)
theorem known_run (r : List D) : (known r).run [] = some r := rfl
theorem top (a0_0 : Int) (a0_1 : Int) (a0_2 : List Int) (a0_3 : List Int) (a0_4 : List Int) (a0_5 : Int) (a0_6 : Int) (a0_7 : Int) (a1 : List Int) (h0 : ((Lit.int .i64 a0_0).wf = true) ∧ ((Lit.int .i64 a0_1).wf = true) ∧ (a0_2.length * 8 ≤ 140737488351232 ∧ ∀ y ∈ a0_2, (Lit.int .i64 y).wf = true) ∧ (a0_3.length * 8 ≤ 140737488351232 ∧ ∀ y ∈ a0_3, (Lit.int .i64 y).wf = true) ∧ (a0_4.length * 8 ≤ 140737488351232 ∧ ∀ y ∈ a0_4, (Lit.int .i64 y).wf = true) ∧ ((Lit.int .i64 a0_5).wf = true) ∧ ((Lit.int .i64 a0_6).wf = true) ∧ ((Lit.int .i64 a0_7).wf = true) ∧ True) (h1 : a1.length * 8 ≤ 140737488351232 ∧ ∀ y ∈ a1, (Lit.int .i64 y).wf = true) : ∃ L c, evTop Try.prog G T L c 10 [D.agg 56 [.int .i64 a0_0, .int .i64 a0_1, D.sl 3 (a0_2.map (.int .i64)), D.sl 47 (a0_3.map (.int .i64)), D.sl 3 (a0_4.map (.int .i64)), .int .i64 a0_5, .int .i64 a0_6, .int .i64 a0_7], D.sl 27 (a1.map (.int .i64))] = some [.bool true] := by
  refine ⟨0, 1, ?_⟩
  have hl : (bleedE ⟨a0_0, a0_1, a0_2, a0_3, a0_4, a0_5, a0_6, a0_7⟩ a1).1.length ≤ 4611686018427387904 := by
    unfold bleedE
    split
    · simp
    split
    · simp
    · simp only [lst, List.length_map, List.length_range]; omega
  have hr := sBl_run ⟨a0_0, a0_1, a0_2, a0_3, a0_4, a0_5, a0_6, a0_7⟩ a1 h1.1
  have he := Eq47Sens.s47_run (bleedE ⟨a0_0, a0_1, a0_2, a0_3, a0_4, a0_5, a0_6, a0_7⟩ a1).1 (bleedE ⟨a0_0, a0_1, a0_2, a0_3, a0_4, a0_5, a0_6, a0_7⟩ a1).1 hl
  generalize bleedE ⟨a0_0, a0_1, a0_2, a0_3, a0_4, a0_5, a0_6, a0_7⟩ a1 = R at *
  unfold Sen.D sen at hr
  simp only at hr
  unfold evTop
  simp only [List.map]
  rw [evF_s (fn := Try.f10) (msk := en10.ms) (hT := by rfl) (hb := by rfl)]
  simp only [Try.f10, G, go_sem, Nat.reduceAdd, Nat.reduceSub, Nat.reduceMul, Nat.reduceEqDiff, Nat.reduceBEq, Nat.reduceLT, Nat.reduceLeDiff, Nat.reducePow, Int.reduceToNat, Int.reduceLT, Int.reduceLE, Int.reduceGT, Int.reduceGE, Int.reduceEq, Int.reduceNeg, Int.reduceAdd, Int.reduceSub, ↓reduceIte, reduceCtorEq, known_run, hr, he]
end Go.Proofs.Ytjplkbeolakbjaa.TopSensorBleeds
end
section
set_option linter.unusedVariables false
set_option linter.unusedSimpArgs false
namespace Go.Proofs.Ytjplkbeolakbjaa.sensorBleeds
open Go.ChangeShapes Go.WideShapes Go.ChangeAt Go.RowKit
open Go.ChangeMaps (open_string shut_string)
open Go.Ev (Opens OpensF arg_agg arg_one weight_at law_calls call_of_ev ArgsOk D Fl)
theorem own : ownKnob Try.prog.godebug = none := by kernel_rfl
theorem laidOut : laidOutB Try.prog = true := by kernel_rfl
set_option maxRecDepth 100000 in
set_option maxHeartbeats 4000000 in
theorem lifted (os : Os) (started : os.Started) (H : Type) (enc : TypeId × Value → H) :
    ReturnsInHanded {} Try.checked os 10 .any (Rows.sensorBleedsSpec.pre6 enc Try.prog Try.f10 Rows.sensorBleedsRow.domain false) (Rows.sensorBleedsSpec.post enc Try.prog Try.f10 false true false false) := by
  refine returnsInHanded_of_change_sized (C := Try.checked) own started (by kernel_rfl) Try.func10
    (ChangeSpec.witness6 (enc := enc) (C := Try.checked) false ⟨#[], #[.agg #[.int .i64 0, .int .i64 0, .slice none 0 0, .slice none 0 0, .slice none 0 0, .int .i64 0, .int .i64 0, .int .i64 0], .slice none 0 0], []⟩ 8 (by kernel_rfl) (by kernel_rfl) (by kernel_rfl) (by kernel_rfl)) ?_
  intro W base args ds gs before hval0 hW hcnd hsz0 _
  have hsz : (DataW.weightsEach Try.prog (Try.f10.params.toList ++ Rows.sensorBleedsSpec.plain.varTypes Try.prog) (ds ++ gs)).all (· ≤ reachBytes) = true := hsz0
  have hval : ∀ (j : Nat) t v, Try.f10.params[j]? = some t → args[j]? = some v → Value.okWide Try.prog W .any base t v := hval0
  have hW' := hW
  obtain ⟨p, q, hA0, hV, rfl, hfz, hnd⟩ := hW
  have hA : DataW.TrodAll enc Try.prog W 0 (fun _ => true) true Try.f10.params.toList args.toList ds p := hA0
  rw [Try.params10] at hA hval hsz
  obtain ⟨v0, vs0, d0, ds0, p0, q0, hargs, rfl, rfl, h0, r0⟩ := trodAll_cons hA
  obtain ⟨v1, vs1, d1, ds1, p1, q1, rfl, rfl, rfl, h1, r1⟩ := trodAll_cons r0
  obtain ⟨rfl, rfl, rfl⟩ := trodAll_nil r1
  obtain rfl : args = #[v0, v1] := by cases args; simp_all
  obtain ⟨rfl, rfl⟩ := trodVars_none hV
  obtain ⟨cs0, rfl, hcs0⟩ := okWide_struct Try.underlying56 (hval 0 56 v0 rfl rfl)
  have k0_ := h0
  have lt0 : ∀ x ∈ p0, x.block < W.heap.size := by obtain ⟨m, hm⟩ := k0_; exact DataW.trod_lt m _ _ _ hm
  obtain ⟨fuel0, hf0⟩ := h0
  obtain ⟨x0, hK0, hw0⟩ := (Opens.struct Try.underlying56 (by kernel_rfl) (OpensF.cons rfl (Opens.int Try.underlying3) (OpensF.cons rfl (Opens.int Try.underlying3) (OpensF.cons rfl (Opens.slice (B := 8) Try.underlying32 (of_decide_eq_true (by kernel_rfl)) (by kernel_rfl) (Opens.int Try.underlying3)) (OpensF.cons rfl (Opens.slice (B := 8) Try.underlying54 (of_decide_eq_true (by kernel_rfl)) (by kernel_rfl) (Opens.int Try.underlying47)) (OpensF.cons rfl (Opens.slice (B := 8) Try.underlying32 (of_decide_eq_true (by kernel_rfl)) (by kernel_rfl) (Opens.int Try.underlying3)) (OpensF.cons rfl (Opens.int Try.underlying27) (OpensF.cons rfl (Opens.int Try.underlying27) (OpensF.cons rfl (Opens.int Try.underlying3) OpensF.nil))))))))) enc W fuel0 _ _ hf0 (weight_at hsz (j := 0) rfl rfl)
  obtain ⟨a0_0, a0_1, a0_2, a0_3, a0_4, a0_5, a0_6, a0_7, ⟨⟩⟩ := x0
  obtain ⟨A1, len1, c1, rfl⟩ := okWide_slice Try.underlying73 (hval 1 73 v1 rfl rfl)
  have k1_ := h1
  have lt1 : ∀ x ∈ p1, x.block < W.heap.size := by obtain ⟨m, hm⟩ := k1_; exact DataW.trod_lt m _ _ _ hm
  obtain ⟨fuel1, hf1⟩ := h1
  obtain ⟨a1, hK1, hw1⟩ := (Opens.slice (B := 8) Try.underlying73 (of_decide_eq_true (by kernel_rfl)) (by kernel_rfl) (Opens.int Try.underlying27)) enc W fuel1 _ _ hf1 (weight_at hsz (j := 1) rfl rfl)
  clear hA0 hval0 hsz0 hsz
  obtain ⟨L, c, ht⟩ := TopSensorBleeds.top a0_0 a0_1 a0_2 a0_3 a0_4 a0_5 a0_6 a0_7 a1 hw0 hw1
  have hok : ArgsOk Try.prog (Go.Ev.Old W) W [D.agg 56 [.int .i64 a0_0, .int .i64 a0_1, D.sl 3 (a0_2.map (.int .i64)), D.sl 47 (a0_3.map (.int .i64)), D.sl 3 (a0_4.map (.int .i64)), .int .i64 a0_5, .int .i64 a0_6, .int .i64 a0_7], D.sl 27 (a1.map (.int .i64))] [(.agg cs0 : Value), (.slice A1 len1 c1 : Value)] := fun σ st => ⟨_, _, rfl, arg_agg rfl hK0, ⟨_, _, rfl, arg_one rfl hK1, rfl⟩⟩
  refine (law_calls Try.func10 (by kernel_rfl) (by kernel_rfl) (call_of_ev FxSens.mixed TopSensorBleeds.G_ok TopSensorBleeds.T_ok ht (fun _ h => h) hok)).mono fun e W' ⟨he, bel⟩ => ?_
  subst he
  exact ⟨_, rfl, _, _, _, [], _, [], hW', trodAll_mk1 (shut_bool Try.underlying4 _), (trodAll_cons_mk (Below.trod laidOut (by kernel_rfl) (of_decide_eq_true (by kernel_rfl)) k0_ bel lt0) (trodAll_cons_mk (Below.trod laidOut (by kernel_rfl) (of_decide_eq_true (by kernel_rfl)) k1_ bel lt1) trodAll_mk0)), rfl, bel.frame _, fun h => by cases h⟩
theorem over : Rows.sensorBleedsRow.holds Try.pinned (OpenSpec.ofChange Rows.sensorBleedsSpec) :=
  OpenClaim.holds_of_wide 10 Try.f10 rfl rfl rfl rfl rfl rfl rfl ⟨rfl, rfl, rfl, rfl, rfl⟩ rfl rfl rfl rfl rfl (by kernel_rfl) Try.func10 (by kernel_rfl)
    (of_decide_eq_true (by kernel_rfl)) (by unfold Func.isWrapper; first | (rw [if_pos (by decide +kernel)]; kernel_rfl) | (rw [if_neg (by decide +kernel)]; exact ⟨rfl, rfl⟩))
    (fun os started H enc _ => lifted os started H enc)
theorem proved : Rows.SensorBleedsSaid := over
#print axioms proved
end Go.Proofs.Ytjplkbeolakbjaa.sensorBleeds
namespace Go.Proofs.Ytjplkbeolakbjaa
/-- The row, under a short name, for the claim. -/
theorem sensorBleeds_holds : Rows.SensorBleedsSaid := sensorBleeds.proved
end Go.Proofs.Ytjplkbeolakbjaa
end
