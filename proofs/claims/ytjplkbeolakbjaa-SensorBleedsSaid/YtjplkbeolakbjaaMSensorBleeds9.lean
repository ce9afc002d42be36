/- Parts of one proof, joined: Bleed3Sens, HldSens, Bled1Sens, Bled2Sens, Bled3Sens, Bled4Sens. -/
import Derived.Test.YtjplkbeolakbjaaMSensorBleeds8
section
set_option linter.unusedVariables false
set_option linter.unusedSimpArgs false
set_option maxRecDepth 100000
namespace Go.Proofs.Ytjplkbeolakbjaa.Bleed3Sens
open Go.Ev Go.Proofs.Ytjplkbeolakbjaa.FxSens Go.Proofs.Ytjplkbeolakbjaa.Out84Sens Go.Proofs.Ytjplkbeolakbjaa.ChkSens Go.Proofs.Ytjplkbeolakbjaa.Bleed1Sens Go.Proofs.Ytjplkbeolakbjaa.Bleed2Sens
open Go.Proofs.Ytjplkbeolakbjaa.SizSens (missized sz sz_run wrong_zero sized_zero)
open Go.Pour (St Held)
open Go.Bleed (bleed)
attribute [local go_sem] Ev.putR_s Ev.putR_0 Ev.thenO_s Ev.thenO_0 Ev.seqR_n Ev.seqR_e Ev.seqR_r Ev.seqR_0 Ev.blkR_e Ev.blkR_n Ev.blkR_r Ev.blkR_0 Ev.normR_s Ev.normR_0 Ev.outR_r Ev.outR_n Ev.outR_0 Ev.retS_s Ev.retS_0 Ev.pureO_s Ev.pureO_0 Ev.topR_0 Ev.topR_t Ev.topR_t0 Ev.oneL_0 Ev.oneL_s Ev.topR_d Ev.topR_nils Ev.topR_agg Ev.topR_rs Ev.evOp_move Ev.evOp_assign Ev.evOp_pick Ev.evOp_alloc Ev.evOp_box Ev.evOp_build Ev.evOp_buildSlice Ev.evOp_load Ev.evOp_store Ev.evOp_makeMap Ev.evOp_lookup Ev.evOp_mapUpdate Ev.evOp_insert Ev.evOp_nilCheck Ev.evOp_binOp Ev.evOp_unOp Ev.evOp_convert Ev.evOp_makeFunc Ev.evOp_makeSlice Ev.evOp_slice Ev.evOp_fieldAddr Ev.evOp_field Ev.evOp_indexAddr Ev.evOp_index Ev.evOp_extract Ev.evOp_call Ev.evOp_append Ev.evOp_len Ev.evOp_min Ev.evOp_max Ev.condR_b Ev.condR_t Ev.evOps_nil Ev.evOps_plain Ev.evOps_guard Ev.runG_eq Ev.skipG_eq Ev.condL_tt Ev.condL_ff Ev.condL_tf Ev.condL_ft Ev.condL_u Ev.condC_t Ev.condC_f Ev.evC_skip Ev.evC_ret Ev.evC_exit Ev.evC_label Ev.evC_region Ev.evC_draw Ev.evC_seq Ev.evC_cond Ev.evC_block Ev.evC_loop Ev.fin_d Ev.fin_nils Ev.fin_agg_ Ev.fin_rs Ev.finS_s Ev.mapO_fin Ev.upd_upd Ev.argv_d Ev.argv_nils Ev.argv_agg Ev.argv_rs Ev.argv_p Ev.appendTo_nils Ev.appendTo_rs Ev.consV_d Ev.consV_agg Ev.consV_p Ev.consV_rs Ev.consV_nils Ev.consV_fn Ev.consV_und Ev.consV_jk Ev.consV_grown Ev.topR_grown Ev.len_grown Ev.consV_mp Ev.sameK_i Ev.sameK_s Ev.mget_0 Ev.mget_hit Ev.mget_miss Ev.mput_0 Ev.mput_hit Ev.mput_miss Ev.apartAll Ev.apartL Ev.apartV Ev.freeAll Ev.sel Ev.keyOfV Ev.evLookup Ev.evPut Ev.hintOk Ev.keyOk Ev.consP Ev.lookV Ev.guardV Ev.dstAt Ev.evPure Ev.evStore Ev.evPureB Ev.evBin Ev.evBinO Ev.evNil Ev.isNilC Ev.evUn Ev.evConv Ev.evSlice Ev.optI Ev.lenV Ev.elemT Ev.foldI Ev.capsOk Ev.noTup Ev.nth Ev.setN Ev.pad Ev.V.get Ev.V.put Ev.putD Ev.hasT Ev.newBlk Ev.upd Ev.keq Ev.empty Ev.evCall Ev.V.args Ev.argP Ev.callOf Ev.evNilP Ev.isNilP Ev.look Ev.V.view.views Ev.V.view Ev.V.toD Ev.V.toD.V.toDs Ev.V.pure.pures Ev.V.pure Ev.D.flat.flats Ev.D.flat Ev.mkAgg Ev.allD Ev.aggParts Ev.setParts Ev.setElems Ev.getPath Ev.setPath Ev.subL Ev.eqD Ev.eqD.eqDs Ev.and2 Ev.strCut Ev.evalT Ev.constT Ev.evArgs Ev.mask Ev.maskOf Ev.tableOf Ev.compT Ev.resV Ev.retV Ev.mapO Ev.elemsOf Int.cast_ofNat_Int IntWalk.i64_in IntWalk.u64_in IntWalk.u8_in beq_self_eq_true Bool.true_beq Bool.false_beq Bool.and_true Bool.true_and Bool.false_and Bool.and_false Bool.and_self Bool.not_true Bool.not_false Bool.not_eq_true cond_true cond_false if_true if_false and_true true_and and_self decide_true decide_false Bool.or_true Bool.true_or Bool.or_false Bool.false_or List.isEmpty List.isEmpty_nil List.size_toArray List.map List.length_map List.length_cons List.length_nil Option.map Option.bind Option.getD Option.isSome List.replicate Bool.false_eq_true implies_true forall_const Array.toList Array.isEmpty List.append List.nil_append List.cons_append List.drop_zero List.take_length List.take_succ_cons List.take_zero List.take_nil List.getElem?_map List.getElem?_cons_zero List.getElem?_cons_succ List.getElem?_nil List.append_nil
attribute [local go_sem] FxSens.tk2 FxSens.ik2 FxSens.zv2 FxSens.tk3 FxSens.ik3 FxSens.zv3 FxSens.by3 FxSens.so3 FxSens.tk4 FxSens.ub4 FxSens.zv4 FxSens.tk22 FxSens.ik22 FxSens.zv22 FxSens.tk27 FxSens.ik27 FxSens.zv27 FxSens.by27 FxSens.so27 FxSens.tk32 FxSens.zv32 FxSens.tk36 FxSens.ik36 FxSens.zv36 FxSens.tk47 FxSens.ik47 FxSens.zv47 FxSens.by47 FxSens.so47 FxSens.tk54 FxSens.zv54 FxSens.tk56 FxSens.ct56 FxSens.zv56 FxSens.tk73 FxSens.zv73 FxSens.tk96 FxSens.ik96 FxSens.zv96 FxSens.tk97 FxSens.ct97 FxSens.zv97 FxSens.by97 FxSens.so97 FxSens.tk98 FxSens.zv98 FxSens.tk107 FxSens.zv107 FxSens.tk120 FxSens.zv120 FxSens.tk124 FxSens.zv124 FxSens.tk152 FxSens.zv152 FxSens.tk155 FxSens.zv155 FxSens.mk10_1000000 FxSens.mk15_1000000 FxSens.dw17_6 FxSens.nc17_6 FxSens.mk17_0 FxSens.mk17_1000001 FxSens.mk17_1000002 FxSens.mk17_1000000 FxSens.mk18_1000000 FxSens.mk19_1000000 FxSens.dw39_6 FxSens.nc39_6 FxSens.mk39_0 FxSens.mk39_1000001 FxSens.mk39_1000002 FxSens.mk39_1000000 FxSens.mk42_1000000 FxSens.mk43_1000001 FxSens.mk43_1000000 FxSens.mk44_0 FxSens.mk44_2 FxSens.mk44_1000001 FxSens.mk44_1000002 FxSens.mk44_1000003 FxSens.mk44_1000004 FxSens.mk44_1000000 FxSens.mk45_0 FxSens.mk45_2 FxSens.mk45_4 FxSens.mk45_1000001 FxSens.mk45_1000002 FxSens.mk45_1000003 FxSens.mk45_1000004 FxSens.mk45_1000005 FxSens.mk45_1000006 FxSens.mk45_1000000 FxSens.dw46_28 FxSens.nc46_28 FxSens.mk46_0 FxSens.mk46_2 FxSens.mk46_4 FxSens.mk46_1000001 FxSens.mk46_1000002 FxSens.mk46_1000003 FxSens.mk46_1000004 FxSens.mk46_1000005 FxSens.mk46_1000006 FxSens.mk46_1000000 FxSens.dw47_6 FxSens.nc47_6 FxSens.mk47_0 FxSens.mk47_1000001 FxSens.mk47_1000002 FxSens.mk47_1000000 FxSens.dw48_10 FxSens.nc48_10 FxSens.dw48_11 FxSens.nc48_11 FxSens.mk48_0 FxSens.mk48_1000001 FxSens.mk48_1000002 FxSens.mk48_1000000 FxSens.mk61_1000000 FxSens.mk83_1000000 FxSens.mk84_1000000 FxSens.mk85_1000000 FxSens.mk86_1000000 FxSens.mk87_1000000 FxSens.dw88_1 FxSens.nc88_1 FxSens.mk88_1000000 FxSens.dw89_5 FxSens.nc89_5 FxSens.mk89_0 FxSens.mk89_1000001 FxSens.mk89_1000002 FxSens.mk89_1000000 FxSens.mk90_1000000 FxSens.dw91_3 FxSens.nc91_3 FxSens.mk91_0 FxSens.mk91_1000001 FxSens.mk91_1000002 FxSens.mk91_1000000 FxSens.mk92_1000000 FxSens.mk93_1000000 FxSens.mk94_0 FxSens.mk94_1000001 FxSens.mk94_1000002 FxSens.mk94_1000000 FxSens.dw95_3 FxSens.nc95_3 FxSens.dw95_6 FxSens.nc95_6 FxSens.mk95_0 FxSens.mk95_1000001 FxSens.mk95_1000002 FxSens.mk95_1000000 FxSens.mk114_1000000 FxSens.mk115_1000000 FxSens.mk116_1000000 FxSens.mk117_1000000 FxSens.mk118_1000000 FxSens.mk119_1000000 FxSens.mk128_0 FxSens.mk128_1000001 FxSens.mk128_1000002 FxSens.mk128_1000000 FxSens.mk129_0 FxSens.mk129_1000001 FxSens.mk129_1000002 FxSens.mk129_1000000 FxSens.mk130_0 FxSens.mk130_1000001 FxSens.mk130_1000002 FxSens.mk130_1000000
theorem loop_then {R : Out → Prop} {o : Out} {P : Program} {rs : List ResultVar} {id : Nat} {k : Run} {res : Option (List D)} (hR : R o) (h : ∀ o, R o → topR (outR P rs (seqR (blkR id o) k)) = res) : topR (outR P rs (seqR (blkR id o) k)) = res := h o hR
def bleedR (s : Sen) (q : List Int) : St := bleed s.full (qf q) s.w.toNat s.h.toNat s.w.toNat (cap s.full q, 0)
def lst (n : Nat) (h : Held) : List Int := (List.range n).map h
def bleedE (s : Sen) (q : List Int) : List Int × Int × Int :=
  if missized s q.length ≠ 0 then ([], 0, missized s q.length) else if outside q 4294967296 = true then ([], 0, 4) else (lst q.length (bleedR s q).1, (bleedR s q).2, 0)
theorem row_lst (n : Nat) (h : Held) : row n h = (lst n h).map fun x => V.d (.int .i64 x) := by
  unfold row lst
  rw [List.map_map]; rfl
theorem e (s : Sen) (q : List Int) (hl : q.length * 8 ≤ 140737488351232) : ∃ L c, evTop Try.prog G T L c 45 [s.D, .sl 27 (q.map (.int .i64))] = some [.sl 27 ((bleedE s q).1.map (.int .i64)), .int .i64 (bleedE s q).2.1, .int .i64 (bleedE s q).2.2] := by
  refine ⟨q.length + 1025, 4, ?_⟩
  have hD : s.D = .agg 56 [.int .i64 s.w, .int .i64 s.h, .sl 3 (s.b.map (.int .i64)), .sl 47 (s.d.map (.int .i64)), .sl 3 (s.f.map (.int .i64)), .int .i64 s.full, .int .i64 s.gain, .int .i64 s.noise] := rfl
  have ro : Out87Sens.s87.run [.sl 27 (q.map (.int .i64)), .int .i64 4294967296] = some [.bool (outside q 4294967296)] := Out87Sens.s87_run q 4294967296 (by omega)
  have rz := sz_run s.w s.h s.b s.d s.f s.full s.gain s.noise q.length
  have es : (⟨s.w, s.h, s.b, s.d, s.f, s.full, s.gain, s.noise⟩ : Sen) = s := rfl
  rw [es] at rz
  rw [bleedE, hD]
  by_cases h1 : missized s q.length = 0
  case neg =>
    rw [if_pos h1]
    unfold evTop
    simp only [List.map]
    rw [evF_s (fn := Try.f45) (msk := en45.ms) (hT := by rfl) (hb := by rfl)]
    simp only [Try.f45, G, go_sem, Nat.reduceAdd, Nat.reduceSub, Nat.reduceMul, Nat.reduceEqDiff, Nat.reduceBEq, Nat.reduceLT, Nat.reduceLeDiff, Nat.reducePow, Int.reduceToNat, Int.reduceLT, Int.reduceLE, Int.reduceGT, Int.reduceGE, Int.reduceEq, Int.reduceNeg, Int.reduceAdd, Int.reduceSub, ↓reduceIte, reduceCtorEq, rz, h1]
  rw [if_neg (by simp [h1])]
  by_cases h2 : outside q 4294967296 = true
  · rw [if_pos h2]
    unfold evTop
    simp only [List.map]
    rw [evF_s (fn := Try.f45) (msk := en45.ms) (hT := by rfl) (hb := by rfl)]
    simp only [Try.f45, G, go_sem, Nat.reduceAdd, Nat.reduceSub, Nat.reduceMul, Nat.reduceEqDiff, Nat.reduceBEq, Nat.reduceLT, Nat.reduceLeDiff, Nat.reducePow, Int.reduceToNat, Int.reduceLT, Int.reduceLE, Int.reduceGT, Int.reduceGE, Int.reduceEq, Int.reduceNeg, Int.reduceAdd, Int.reduceSub, ↓reduceIte, reduceCtorEq, rz, h1, ro, h2]
  rw [if_neg h2]
  have h2' : outside q 4294967296 = false := by simpa using h2
  obtain ⟨z1, z2, z3, z4⟩ := sized_zero h1
  obtain ⟨y0, y2, y3, y4, y1, _, _, yf, yg, _⟩ := wrong_zero z1
  have hm8 : q.length * 8 ≤ maxRow := by unfold maxRow; omega
  have hm1 : q.length ≤ maxRow := by unfold maxRow; omega
  have hm0 : (0 : Int) ≤ q.length := by omega
  obtain ⟨w, hw⟩ : ∃ w : Nat, s.w = w := ⟨s.w.toNat, by omega⟩
  obtain ⟨h, hh⟩ : ∃ h : Nat, s.h = h := ⟨s.h.toNat, by omega⟩
  have tw : s.w.toNat = w := by omega
  have th : s.h.toNat = h := by omega
  have hlen : q.length = w * h := by rw [hw, hh, ← Int.natCast_mul] at z2; omega
  unfold bleedR
  rw [tw, th]
  have hf0 := fil_0 s.full q q.length
  have hrf := row_len q.length (fil s.full q 0)
  unfold evTop
  simp only [List.map]
  rw [evF_s (fn := Try.f45) (msk := en45.ms) (hT := by rfl) (hb := by rfl)]
  simp only [Try.f45, go_sem, Nat.reduceAdd, Nat.reduceSub, Nat.reduceMul, Nat.reduceEqDiff, Nat.reduceBEq, Nat.reduceLT, Nat.reduceLeDiff, Nat.reducePow, Int.reduceToNat, Int.reduceLT, Int.reduceLE, Int.reduceGT, Int.reduceGE, Int.reduceEq, Int.reduceNeg, Int.reduceAdd, Int.reduceSub, ↓reduceIte, reduceCtorEq, look86, look87, sz_run, rz, h1, ro, h2', Int.toNat_natCast, hm8, hm1, hm0, Int.le_refl, ← hf0]
  refine loop_then (R := Q0 s.full q _ (0, _)) (loop0 _ _ s q _ ?_ (by omega) _ (0, _) _ ⟨by simp only; omega, by simp only [go_sem, Nat.reduceAdd, Nat.reduceSub, Nat.reduceMul, Nat.reduceEqDiff, Nat.reduceBEq, Nat.reduceLT, Nat.reduceLeDiff, Nat.reducePow, Int.reduceToNat, Int.reduceLT, Int.reduceLE, Int.reduceGT, Int.reduceGE, Int.reduceEq, Int.reduceNeg, Int.reduceAdd, Int.reduceSub, ↓reduceIte, reduceCtorEq], fun d hd => rfl⟩ (by simp only; omega) (by simp only [hd0, out, p, hd45_0, go_sem, Nat.reduceAdd, Nat.reduceSub, Nat.reduceMul, Nat.reduceEqDiff, Nat.reduceBEq, Nat.reduceLT, Nat.reduceLeDiff, Nat.reducePow, Int.reduceToNat, Int.reduceLT, Int.reduceLE, Int.reduceGT, Int.reduceGE, Int.reduceEq, Int.reduceNeg, Int.reduceAdd, Int.reduceSub, ↓reduceIte, reduceCtorEq])) ?_
  · simp only [go_sem, Nat.reduceAdd, Nat.reduceSub, Nat.reduceMul, Nat.reduceEqDiff, Nat.reduceBEq, Nat.reduceLT, Nat.reduceLeDiff, Nat.reducePow, Int.reduceToNat, Int.reduceLT, Int.reduceLE, Int.reduceGT, Int.reduceGE, Int.reduceEq, Int.reduceNeg, Int.reduceAdd, Int.reduceSub, ↓reduceIte, reduceCtorEq, bS, hD]
  rintro o ⟨st1, rfl, r25, rF⟩
  have r2 : st1 (0, 2) = bS s := by rw [rF 2 (by decide)]; simp only [go_sem, Nat.reduceAdd, Nat.reduceSub, Nat.reduceMul, Nat.reduceEqDiff, Nat.reduceBEq, Nat.reduceLT, Nat.reduceLeDiff, Nat.reducePow, Int.reduceToNat, Int.reduceLT, Int.reduceLE, Int.reduceGT, Int.reduceGE, Int.reduceEq, Int.reduceNeg, Int.reduceAdd, Int.reduceSub, ↓reduceIte, reduceCtorEq, bS, hD]
  have r3 : st1 (0, 3) = bQ q := by rw [rF 3 (by decide)]; simp only [go_sem, Nat.reduceAdd, Nat.reduceSub, Nat.reduceMul, Nat.reduceEqDiff, Nat.reduceBEq, Nat.reduceLT, Nat.reduceLeDiff, Nat.reducePow, Int.reduceToNat, Int.reduceLT, Int.reduceLE, Int.reduceGT, Int.reduceGE, Int.reduceEq, Int.reduceNeg, Int.reduceAdd, Int.reduceSub, ↓reduceIte, reduceCtorEq, bQ]
  have r10 : (st1 (0, 10)).ver = 0 := by rw [rF 10 (by decide)]; simp only [go_sem, Nat.reduceAdd, Nat.reduceSub, Nat.reduceMul, Nat.reduceEqDiff, Nat.reduceBEq, Nat.reduceLT, Nat.reduceLeDiff, Nat.reducePow, Int.reduceToNat, Int.reduceLT, Int.reduceLE, Int.reduceGT, Int.reduceGE, Int.reduceEq, Int.reduceNeg, Int.reduceAdd, Int.reduceSub, ↓reduceIte, reduceCtorEq]
  simp only [hx45_0, out, p, go_sem, Nat.reduceAdd, Nat.reduceSub, Nat.reduceMul, Nat.reduceEqDiff, Nat.reduceBEq, Nat.reduceLT, Nat.reduceLeDiff, Nat.reducePow, Int.reduceToNat, Int.reduceLT, Int.reduceLE, Int.reduceGT, Int.reduceGE, Int.reduceEq, Int.reduceNeg, Int.reduceAdd, Int.reduceSub, ↓reduceIte, reduceCtorEq, r2, bS, hD, r10]
  refine loop_then (R := Q2 s q w h (0, (cap s.full q, 0), _)) (loop2 _ 0 (by omega) s q w h h2' ⟨yf, yg⟩ hlen (by omega) hw hh ⟨by omega, by omega⟩ ⟨by omega, by omega⟩ _ (0, (cap s.full q, 0), _) _ ⟨by simp only; omega, by simp only [go_sem, Nat.reduceAdd, Nat.reduceSub, Nat.reduceMul, Nat.reduceEqDiff, Nat.reduceBEq, Nat.reduceLT, Nat.reduceLeDiff, Nat.reducePow, Int.reduceToNat, Int.reduceLT, Int.reduceLE, Int.reduceGT, Int.reduceGE, Int.reduceEq, Int.reduceNeg, Int.reduceAdd, Int.reduceSub, ↓reduceIte, reduceCtorEq, r25], ⟨by simp only [go_sem, Nat.reduceAdd, Nat.reduceSub, Nat.reduceMul, Nat.reduceEqDiff, Nat.reduceBEq, Nat.reduceLT, Nat.reduceLeDiff, Nat.reducePow, Int.reduceToNat, Int.reduceLT, Int.reduceLE, Int.reduceGT, Int.reduceGE, Int.reduceEq, Int.reduceNeg, Int.reduceAdd, Int.reduceSub, ↓reduceIte, reduceCtorEq, r2], by simp only [go_sem, Nat.reduceAdd, Nat.reduceSub, Nat.reduceMul, Nat.reduceEqDiff, Nat.reduceBEq, Nat.reduceLT, Nat.reduceLeDiff, Nat.reducePow, Int.reduceToNat, Int.reduceLT, Int.reduceLE, Int.reduceGT, Int.reduceGE, Int.reduceEq, Int.reduceNeg, Int.reduceAdd, Int.reduceSub, ↓reduceIte, reduceCtorEq, r3], by simp only [go_sem, Nat.reduceAdd, Nat.reduceSub, Nat.reduceMul, Nat.reduceEqDiff, Nat.reduceBEq, Nat.reduceLT, Nat.reduceLeDiff, Nat.reducePow, Int.reduceToNat, Int.reduceLT, Int.reduceLE, Int.reduceGT, Int.reduceGE, Int.reduceEq, Int.reduceNeg, Int.reduceAdd, Int.reduceSub, ↓reduceIte, reduceCtorEq, bO]⟩, ⟨cap_bd h2' yf, by simp only; omega, by simp only; omega⟩, rfl⟩ (by simp only; omega) (by simp only [hd2, out, p, hd45_2, go_sem, Nat.reduceAdd, Nat.reduceSub, Nat.reduceMul, Nat.reduceEqDiff, Nat.reduceBEq, Nat.reduceLT, Nat.reduceLeDiff, Nat.reducePow, Int.reduceToNat, Int.reduceLT, Int.reduceLE, Int.reduceGT, Int.reduceGE, Int.reduceEq, Int.reduceNeg, Int.reduceAdd, Int.reduceSub, ↓reduceIte, reduceCtorEq, hw])) ?_
  rintro o ⟨st2, rfl, s25⟩
  rw [row_lst] at s25
  have hcl : ((lst q.length (bleed s.full (qf q) w h w (cap s.full q, 0)).1).map fun x => V.d (.int .i64 x)).length = q.length := by simp [lst]
  have hct : ((lst q.length (bleed s.full (qf q) w h w (cap s.full q, 0)).1).map fun x => V.d (.int .i64 x)).take q.length = (lst q.length (bleed s.full (qf q) w h w (cap s.full q, 0)).1).map fun x => V.d (.int .i64 x) := List.take_of_length_le (by omega)
  simp only [hx45_2, out, go_sem, Nat.reduceAdd, Nat.reduceSub, Nat.reduceMul, Nat.reduceEqDiff, Nat.reduceBEq, Nat.reduceLT, Nat.reduceLeDiff, Nat.reducePow, Int.reduceToNat, Int.reduceLT, Int.reduceLE, Int.reduceGT, Int.reduceGE, Int.reduceEq, Int.reduceNeg, Int.reduceAdd, Int.reduceSub, ↓reduceIte, reduceCtorEq, s25, hcl, hct, Nat.zero_add, Nat.le_refl]
noncomputable def sBl : Ev.Spec := mkSpec (fun x : Sen × List Int => [x.1.D, .sl 27 (x.2.map (.int .i64))]) (fun x => x.2.length * 8 ≤ 140737488351232) (fun x => [.sl 27 ((bleedE x.1 x.2).1.map (.int .i64)), .int .i64 (bleedE x.1 x.2).2.1, .int .i64 (bleedE x.1 x.2).2.2])
theorem enc_inj (x y : Sen × List Int) (h : ([x.1.D, .sl 27 (x.2.map (.int .i64))] : List D) = [y.1.D, .sl 27 (y.2.map (.int .i64))]) : x = y := by
  simp only [List.cons.injEq, D.sl.injEq, and_true, true_and] at h
  obtain ⟨h1, h2⟩ := h
  exact Prod.ext (sen_inj _ _ (by rw [h1])) (map_inj h2)
theorem sBl_run (s : Sen) (q : List Int) (hl : q.length * 8 ≤ 140737488351232) : sBl.run [s.D, .sl 27 (q.map (.int .i64))] = some [.sl 27 ((bleedE s q).1.map (.int .i64)), .int .i64 (bleedE s q).2.1, .int .i64 (bleedE s q).2.2] := by
  unfold sBl
  exact mkSpec_run (enc := fun x : Sen × List Int => [x.1.D, .sl 27 (x.2.map (.int .i64))]) (pre := fun x => x.2.length * 8 ≤ 140737488351232) enc_inj (s, q) hl
theorem bleed_ok : SpecOk Try.prog 45 sBl := spec_of mixed G_ok T_ok fun x hp => e x.1 x.2 hp
#print axioms bleed_ok
end Go.Proofs.Ytjplkbeolakbjaa.Bleed3Sens
end
section
set_option linter.unusedVariables false
set_option linter.unusedSimpArgs false
set_option maxRecDepth 100000
namespace Go.Proofs.Ytjplkbeolakbjaa.HldSens
open Go.Ev Go.Proofs.Ytjplkbeolakbjaa.FxSens Go.Proofs.Ytjplkbeolakbjaa.Out84Sens
attribute [local go_sem] Ev.putR_s Ev.putR_0 Ev.thenO_s Ev.thenO_0 Ev.seqR_n Ev.seqR_e Ev.seqR_r Ev.seqR_0 Ev.blkR_e Ev.blkR_n Ev.blkR_r Ev.blkR_0 Ev.normR_s Ev.normR_0 Ev.outR_r Ev.outR_n Ev.outR_0 Ev.retS_s Ev.retS_0 Ev.pureO_s Ev.pureO_0 Ev.topR_0 Ev.topR_t Ev.topR_t0 Ev.oneL_0 Ev.oneL_s Ev.topR_d Ev.topR_nils Ev.topR_agg Ev.topR_rs Ev.evOp_move Ev.evOp_assign Ev.evOp_pick Ev.evOp_alloc Ev.evOp_box Ev.evOp_build Ev.evOp_buildSlice Ev.evOp_load Ev.evOp_store Ev.evOp_makeMap Ev.evOp_lookup Ev.evOp_mapUpdate Ev.evOp_insert Ev.evOp_nilCheck Ev.evOp_binOp Ev.evOp_unOp Ev.evOp_convert Ev.evOp_makeFunc Ev.evOp_makeSlice Ev.evOp_slice Ev.evOp_fieldAddr Ev.evOp_field Ev.evOp_indexAddr Ev.evOp_index Ev.evOp_extract Ev.evOp_call Ev.evOp_append Ev.evOp_len Ev.evOp_min Ev.evOp_max Ev.condR_b Ev.condR_t Ev.evOps_nil Ev.evOps_plain Ev.evOps_guard Ev.runG_eq Ev.skipG_eq Ev.condL_tt Ev.condL_ff Ev.condL_tf Ev.condL_ft Ev.condL_u Ev.condC_t Ev.condC_f Ev.evC_skip Ev.evC_ret Ev.evC_exit Ev.evC_label Ev.evC_region Ev.evC_draw Ev.evC_seq Ev.evC_cond Ev.evC_block Ev.evC_loop Ev.fin_d Ev.fin_nils Ev.fin_agg_ Ev.fin_rs Ev.finS_s Ev.mapO_fin Ev.upd_upd Ev.argv_d Ev.argv_nils Ev.argv_agg Ev.argv_rs Ev.argv_p Ev.appendTo_nils Ev.appendTo_rs Ev.consV_d Ev.consV_agg Ev.consV_p Ev.consV_rs Ev.consV_nils Ev.consV_fn Ev.consV_und Ev.consV_jk Ev.consV_grown Ev.topR_grown Ev.len_grown Ev.consV_mp Ev.sameK_i Ev.sameK_s Ev.mget_0 Ev.mget_hit Ev.mget_miss Ev.mput_0 Ev.mput_hit Ev.mput_miss Ev.apartAll Ev.apartL Ev.apartV Ev.freeAll Ev.sel Ev.keyOfV Ev.evLookup Ev.evPut Ev.hintOk Ev.keyOk Ev.consP Ev.lookV Ev.guardV Ev.dstAt Ev.evPure Ev.evStore Ev.evPureB Ev.evBin Ev.evBinO Ev.evNil Ev.isNilC Ev.evUn Ev.evConv Ev.evSlice Ev.optI Ev.lenV Ev.elemT Ev.foldI Ev.capsOk Ev.noTup Ev.nth Ev.setN Ev.pad Ev.V.get Ev.V.put Ev.putD Ev.hasT Ev.newBlk Ev.upd Ev.keq Ev.empty Ev.evCall Ev.V.args Ev.argP Ev.callOf Ev.evNilP Ev.isNilP Ev.look Ev.V.view.views Ev.V.view Ev.V.toD Ev.V.toD.V.toDs Ev.V.pure.pures Ev.V.pure Ev.D.flat.flats Ev.D.flat Ev.mkAgg Ev.allD Ev.aggParts Ev.setParts Ev.setElems Ev.getPath Ev.setPath Ev.subL Ev.eqD Ev.eqD.eqDs Ev.and2 Ev.strCut Ev.evalT Ev.constT Ev.evArgs Ev.mask Ev.maskOf Ev.tableOf Ev.compT Ev.resV Ev.retV Ev.mapO Ev.elemsOf Int.cast_ofNat_Int IntWalk.i64_in IntWalk.u64_in IntWalk.u8_in beq_self_eq_true Bool.true_beq Bool.false_beq Bool.and_true Bool.true_and Bool.false_and Bool.and_false Bool.and_self Bool.not_true Bool.not_false Bool.not_eq_true cond_true cond_false if_true if_false and_true true_and and_self decide_true decide_false Bool.or_true Bool.true_or Bool.or_false Bool.false_or List.isEmpty List.isEmpty_nil List.size_toArray List.map List.length_map List.length_cons List.length_nil Option.map Option.bind Option.getD Option.isSome List.replicate Bool.false_eq_true implies_true forall_const Array.toList Array.isEmpty List.append List.nil_append List.cons_append List.drop_zero List.take_length List.take_succ_cons List.take_zero List.take_nil List.getElem?_map List.getElem?_cons_zero List.getElem?_cons_succ List.getElem?_nil List.append_nil
attribute [local go_sem] FxSens.tk2 FxSens.ik2 FxSens.zv2 FxSens.tk3 FxSens.ik3 FxSens.zv3 FxSens.by3 FxSens.so3 FxSens.tk4 FxSens.ub4 FxSens.zv4 FxSens.tk22 FxSens.ik22 FxSens.zv22 FxSens.tk27 FxSens.ik27 FxSens.zv27 FxSens.by27 FxSens.so27 FxSens.tk32 FxSens.zv32 FxSens.tk36 FxSens.ik36 FxSens.zv36 FxSens.tk47 FxSens.ik47 FxSens.zv47 FxSens.by47 FxSens.so47 FxSens.tk54 FxSens.zv54 FxSens.tk56 FxSens.ct56 FxSens.zv56 FxSens.tk73 FxSens.zv73 FxSens.tk96 FxSens.ik96 FxSens.zv96 FxSens.tk97 FxSens.ct97 FxSens.zv97 FxSens.by97 FxSens.so97 FxSens.tk98 FxSens.zv98 FxSens.tk107 FxSens.zv107 FxSens.tk120 FxSens.zv120 FxSens.tk124 FxSens.zv124 FxSens.tk152 FxSens.zv152 FxSens.tk155 FxSens.zv155 FxSens.mk10_1000000 FxSens.mk15_1000000 FxSens.dw17_6 FxSens.nc17_6 FxSens.mk17_0 FxSens.mk17_1000001 FxSens.mk17_1000002 FxSens.mk17_1000000 FxSens.mk18_1000000 FxSens.mk19_1000000 FxSens.dw39_6 FxSens.nc39_6 FxSens.mk39_0 FxSens.mk39_1000001 FxSens.mk39_1000002 FxSens.mk39_1000000 FxSens.mk42_1000000 FxSens.mk43_1000001 FxSens.mk43_1000000 FxSens.mk44_0 FxSens.mk44_2 FxSens.mk44_1000001 FxSens.mk44_1000002 FxSens.mk44_1000003 FxSens.mk44_1000004 FxSens.mk44_1000000 FxSens.mk45_0 FxSens.mk45_2 FxSens.mk45_4 FxSens.mk45_1000001 FxSens.mk45_1000002 FxSens.mk45_1000003 FxSens.mk45_1000004 FxSens.mk45_1000005 FxSens.mk45_1000006 FxSens.mk45_1000000 FxSens.dw46_28 FxSens.nc46_28 FxSens.mk46_0 FxSens.mk46_2 FxSens.mk46_4 FxSens.mk46_1000001 FxSens.mk46_1000002 FxSens.mk46_1000003 FxSens.mk46_1000004 FxSens.mk46_1000005 FxSens.mk46_1000006 FxSens.mk46_1000000 FxSens.dw47_6 FxSens.nc47_6 FxSens.mk47_0 FxSens.mk47_1000001 FxSens.mk47_1000002 FxSens.mk47_1000000 FxSens.dw48_10 FxSens.nc48_10 FxSens.dw48_11 FxSens.nc48_11 FxSens.mk48_0 FxSens.mk48_1000001 FxSens.mk48_1000002 FxSens.mk48_1000000 FxSens.mk61_1000000 FxSens.mk83_1000000 FxSens.mk84_1000000 FxSens.mk85_1000000 FxSens.mk86_1000000 FxSens.mk87_1000000 FxSens.dw88_1 FxSens.nc88_1 FxSens.mk88_1000000 FxSens.dw89_5 FxSens.nc89_5 FxSens.mk89_0 FxSens.mk89_1000001 FxSens.mk89_1000002 FxSens.mk89_1000000 FxSens.mk90_1000000 FxSens.dw91_3 FxSens.nc91_3 FxSens.mk91_0 FxSens.mk91_1000001 FxSens.mk91_1000002 FxSens.mk91_1000000 FxSens.mk92_1000000 FxSens.mk93_1000000 FxSens.mk94_0 FxSens.mk94_1000001 FxSens.mk94_1000002 FxSens.mk94_1000000 FxSens.dw95_3 FxSens.nc95_3 FxSens.dw95_6 FxSens.nc95_6 FxSens.mk95_0 FxSens.mk95_1000001 FxSens.mk95_1000002 FxSens.mk95_1000000 FxSens.mk114_1000000 FxSens.mk115_1000000 FxSens.mk116_1000000 FxSens.mk117_1000000 FxSens.mk118_1000000 FxSens.mk119_1000000 FxSens.mk128_0 FxSens.mk128_1000001 FxSens.mk128_1000002 FxSens.mk128_1000000 FxSens.mk129_0 FxSens.mk129_1000001 FxSens.mk129_1000002 FxSens.mk129_1000000 FxSens.mk130_0 FxSens.mk130_1000001 FxSens.mk130_1000002 FxSens.mk130_1000000
noncomputable def T : Table := tableOf [(94, en94)]
def en (l : List Int) : D := .sl 27 (l.map (.int .i64))
def hd (a : List Int) (i : Nat) : List V := hd94_0 (.d (en a)) (.d (.int .i64 a.length)) (.d (.int .i64 i))
def R (a : List Int) (st : Store) (i : Nat) : Out := if outside (a.drop i) 4294967296 = true then some (.ret, hr94 (.d (.bool false)), st) else some (.exit 0, hx94_0, st)
theorem loop (L : Nat) (call : Caller) (lv : Nat) (a : List Int) (st : Store) (hl : a.length ≤ 4611686018427387904) :
    ∀ (m i : Nat) (env : List V), i ≤ a.length → a.length - i < m → mask (maskOf en94.ms 0) env = hd a i →
      iter (evC Try.prog [] call L en94.ms lv 0 lb94_0) (maskOf en94.ms 0) m env st = R a st i := by
  refine iter_wf _ _ (fun i => i ≤ a.length) (hd a) (fun _ => st) (R a st) (fun i => a.length - i) ?_
  intro i hi k hk
  by_cases hin : i < a.length
  case neg =>
    obtain rfl : i = a.length := by omega
    have hlt : ¬ (a.length : Int) < a.length := by omega
    have hR : R a st a.length = some (.exit 0, hx94_0, st) := by rw [R, List.drop_length]; rfl
    rw [hR]
    simp only [lb94_0, loopN, loops, hd, hd94_0, hx94_0, Try.f94, go_sem, Nat.reduceAdd, Nat.reduceSub, Nat.reduceMul, Nat.reduceEqDiff, Nat.reduceBEq, Nat.reduceLT, Nat.reduceLeDiff, Nat.reducePow, Int.reduceToNat, Int.reduceLT, Int.reduceLE, Int.reduceGT, Int.reduceGE, Int.reduceEq, Int.reduceNeg, Int.reduceAdd, Int.reduceSub, ↓reduceIte, reduceCtorEq, hlt]
  have hlt : (i : Int) < a.length := by omega
  have hxa : (a.map (D.int .i64))[i]? = some (.int .i64 a[i]) := by simp [hin]
  have hw : IntKind.i64.wrap ((i : Int) + 1) = ((i + 1 : Nat) : Int) := by rw [IntWalk.i64_in _ (by omega)]; rfl
  have h0 : (0 : Int) ≤ (i : Int) := by omega
  have ht : ((i : Int)).toNat = i := by omega
  have hda : a.drop i = a[i] :: a.drop (i + 1) := List.drop_eq_getElem_cons hin
  have hR : R a st i = if outB 4294967296 a[i] = true then some (.ret, hr94 (.d (.bool false)), st) else R a st (i + 1) := by
    rw [R, hda, outside, List.any_cons]
    by_cases hp : outB 4294967296 a[i] = true
    · rw [hp, Bool.true_or, if_pos rfl, if_pos rfl]
    · have hp' : outB 4294967296 a[i] = false := by simpa using hp
      rw [hp', Bool.false_or, if_neg (by simp : ¬ (false = true))]; rfl
  rw [hR]
  by_cases c1 : a[i] < 0
  · rw [if_pos (by simp [outB, c1])]
    simp only [lb94_0, loopN, loops, hd, hd94_0, hr94, en, Try.f94, go_sem, Nat.reduceAdd, Nat.reduceSub, Nat.reduceMul, Nat.reduceEqDiff, Nat.reduceBEq, Nat.reduceLT, Nat.reduceLeDiff, Nat.reducePow, Int.reduceToNat, Int.reduceLT, Int.reduceLE, Int.reduceGT, Int.reduceGE, Int.reduceEq, Int.reduceNeg, Int.reduceAdd, Int.reduceSub, ↓reduceIte, reduceCtorEq, hlt, hxa, h0, ht, c1]
  by_cases c2 : a[i] > 4294967296
  · rw [if_pos (by simp only [outB, c2, decide_true, Bool.or_true])]
    simp only [lb94_0, loopN, loops, hd, hd94_0, hr94, en, Try.f94, go_sem, Nat.reduceAdd, Nat.reduceSub, Nat.reduceMul, Nat.reduceEqDiff, Nat.reduceBEq, Nat.reduceLT, Nat.reduceLeDiff, Nat.reducePow, Int.reduceToNat, Int.reduceLT, Int.reduceLE, Int.reduceGT, Int.reduceGE, Int.reduceEq, Int.reduceNeg, Int.reduceAdd, Int.reduceSub, ↓reduceIte, reduceCtorEq, hlt, hxa, h0, ht, c1, c2]
  rw [if_neg (by simp only [outB, c1, c2, decide_false, Bool.or_self]; simp)]
  simp only [lb94_0, loopN, loops, hd, hd94_0, en, Try.f94, go_sem, Nat.reduceAdd, Nat.reduceSub, Nat.reduceMul, Nat.reduceEqDiff, Nat.reduceBEq, Nat.reduceLT, Nat.reduceLeDiff, Nat.reducePow, Int.reduceToNat, Int.reduceLT, Int.reduceLE, Int.reduceGT, Int.reduceGE, Int.reduceEq, Int.reduceNeg, Int.reduceAdd, Int.reduceSub, ↓reduceIte, reduceCtorEq, hlt, hxa, h0, ht, c1, c2, hw]
  exact hk (i + 1) _ (by omega) (by omega) (by simp only [hd, hd94_0, en, go_sem, Nat.reduceAdd, Nat.reduceSub, Nat.reduceMul, Nat.reduceEqDiff, Nat.reduceBEq, Nat.reduceLT, Nat.reduceLeDiff, Nat.reducePow, Int.reduceToNat, Int.reduceLT, Int.reduceLE, Int.reduceGT, Int.reduceGE, Int.reduceEq, Int.reduceNeg, Int.reduceAdd, Int.reduceSub, ↓reduceIte, reduceCtorEq, hw])
theorem e (a : List Int) (hl : a.length ≤ 4611686018427387904) : ∃ L c, evTop Try.prog [] T L c 94 [en a] = some [.bool (!outside a 4294967296)] := by
  refine ⟨a.length + 1, 1, ?_⟩
  unfold evTop
  simp only [List.map]
  rw [evF_s (fn := Try.f94) (msk := en94.ms) (hT := by rfl) (hb := by rfl)]
  simp only [en, Try.f94, go_sem, Nat.reduceAdd, Nat.reduceSub, Nat.reduceMul, Nat.reduceEqDiff, Nat.reduceBEq, Nat.reduceLT, Nat.reduceLeDiff, Nat.reducePow, Int.reduceToNat, Int.reduceLT, Int.reduceLE, Int.reduceGT, Int.reduceGE, Int.reduceEq, Int.reduceNeg, Int.reduceAdd, Int.reduceSub, ↓reduceIte, reduceCtorEq]
  conv in iter _ _ _ _ _ => change iter (evC _ _ _ _ en94.ms _ _ lb94_0) (maskOf en94.ms 0) _ _ _
  rw [loop _ _ _ a _ hl _ 0 _ (by omega) (by omega) (by simp only [hd, hd94_0, en, go_sem, Nat.reduceAdd, Nat.reduceSub, Nat.reduceMul, Nat.reduceEqDiff, Nat.reduceBEq, Nat.reduceLT, Nat.reduceLeDiff, Nat.reducePow, Int.reduceToNat, Int.reduceLT, Int.reduceLE, Int.reduceGT, Int.reduceGE, Int.reduceEq, Int.reduceNeg, Int.reduceAdd, Int.reduceSub, ↓reduceIte, reduceCtorEq])]
  rw [R, List.drop_zero]
  by_cases hp : outside a 4294967296 = true
  · rw [if_pos hp, hp]
    simp only [hr94, go_sem, Nat.reduceAdd, Nat.reduceSub, Nat.reduceMul, Nat.reduceEqDiff, Nat.reduceBEq, Nat.reduceLT, Nat.reduceLeDiff, Nat.reducePow, Int.reduceToNat, Int.reduceLT, Int.reduceLE, Int.reduceGT, Int.reduceGE, Int.reduceEq, Int.reduceNeg, Int.reduceAdd, Int.reduceSub, ↓reduceIte, reduceCtorEq]
  · rw [if_neg hp]
    have hp' : outside a 4294967296 = false := by simpa using hp
    rw [hp']
    simp only [hx94_0, go_sem, Nat.reduceAdd, Nat.reduceSub, Nat.reduceMul, Nat.reduceEqDiff, Nat.reduceBEq, Nat.reduceLT, Nat.reduceLeDiff, Nat.reducePow, Int.reduceToNat, Int.reduceLT, Int.reduceLE, Int.reduceGT, Int.reduceGE, Int.reduceEq, Int.reduceNeg, Int.reduceAdd, Int.reduceSub, ↓reduceIte, reduceCtorEq]
noncomputable def s94 : Ev.Spec := mkSpec (fun x : List Int => [en x]) (fun x => x.length ≤ 4611686018427387904) (fun x => [.bool (!outside x 4294967296)])
theorem s94_run (a : List Int) (hl : a.length ≤ 4611686018427387904) : s94.run [.sl 27 (a.map (.int .i64))] = some [.bool (!outside a 4294967296)] := by
  unfold s94
  exact mkSpec_run (enc := fun x : List Int => [en x]) (pre := fun x => x.length ≤ 4611686018427387904) (fun x y h => by
    simp only [en, List.cons.injEq, D.sl.injEq, and_true, true_and] at h
    exact map_inj h) a hl
theorem s94_ok : SpecOk Try.prog 94 s94 := spec_of mixed specs_nil (table_cons Try.func94 (by kernel_rfl) (by kernel_rfl) table_nil) fun x hp => e x hp
#print axioms s94_ok
end Go.Proofs.Ytjplkbeolakbjaa.HldSens
end
section
set_option linter.unusedVariables false
set_option linter.unusedSimpArgs false
set_option maxRecDepth 100000
namespace Go.Proofs.Ytjplkbeolakbjaa.Bled1Sens
open Go.Ev Go.Proofs.Ytjplkbeolakbjaa.FxSens Go.Proofs.Ytjplkbeolakbjaa.Out84Sens Go.Proofs.Ytjplkbeolakbjaa.ChkSens
open Go.Proofs.Ytjplkbeolakbjaa.Bleed1Sens (row row_len row_nth row_set row_congr qf qf_get qf_bd bS bQ p)
open Go.Proofs.Ytjplkbeolakbjaa.SizSens (missized sz sz_run wrong_zero sized_zero sb_ok)
open Go.Pour (put pour take Held zero put_at put_ne pour_le act St act_le pour_none)
open Go.Bleed (dn up dn_step dn_end up_step up_zero)
attribute [local go_sem] Ev.putR_s Ev.putR_0 Ev.thenO_s Ev.thenO_0 Ev.seqR_n Ev.seqR_e Ev.seqR_r Ev.seqR_0 Ev.blkR_e Ev.blkR_n Ev.blkR_r Ev.blkR_0 Ev.normR_s Ev.normR_0 Ev.outR_r Ev.outR_n Ev.outR_0 Ev.retS_s Ev.retS_0 Ev.pureO_s Ev.pureO_0 Ev.topR_0 Ev.topR_t Ev.topR_t0 Ev.oneL_0 Ev.oneL_s Ev.topR_d Ev.topR_nils Ev.topR_agg Ev.topR_rs Ev.evOp_move Ev.evOp_assign Ev.evOp_pick Ev.evOp_alloc Ev.evOp_box Ev.evOp_build Ev.evOp_buildSlice Ev.evOp_load Ev.evOp_store Ev.evOp_makeMap Ev.evOp_lookup Ev.evOp_mapUpdate Ev.evOp_insert Ev.evOp_nilCheck Ev.evOp_binOp Ev.evOp_unOp Ev.evOp_convert Ev.evOp_makeFunc Ev.evOp_makeSlice Ev.evOp_slice Ev.evOp_fieldAddr Ev.evOp_field Ev.evOp_indexAddr Ev.evOp_index Ev.evOp_extract Ev.evOp_call Ev.evOp_append Ev.evOp_len Ev.evOp_min Ev.evOp_max Ev.condR_b Ev.condR_t Ev.evOps_nil Ev.evOps_plain Ev.evOps_guard Ev.runG_eq Ev.skipG_eq Ev.condL_tt Ev.condL_ff Ev.condL_tf Ev.condL_ft Ev.condL_u Ev.condC_t Ev.condC_f Ev.evC_skip Ev.evC_ret Ev.evC_exit Ev.evC_label Ev.evC_region Ev.evC_draw Ev.evC_seq Ev.evC_cond Ev.evC_block Ev.evC_loop Ev.fin_d Ev.fin_nils Ev.fin_agg_ Ev.fin_rs Ev.finS_s Ev.mapO_fin Ev.upd_upd Ev.argv_d Ev.argv_nils Ev.argv_agg Ev.argv_rs Ev.argv_p Ev.appendTo_nils Ev.appendTo_rs Ev.consV_d Ev.consV_agg Ev.consV_p Ev.consV_rs Ev.consV_nils Ev.consV_fn Ev.consV_und Ev.consV_jk Ev.consV_grown Ev.topR_grown Ev.len_grown Ev.consV_mp Ev.sameK_i Ev.sameK_s Ev.mget_0 Ev.mget_hit Ev.mget_miss Ev.mput_0 Ev.mput_hit Ev.mput_miss Ev.apartAll Ev.apartL Ev.apartV Ev.freeAll Ev.sel Ev.keyOfV Ev.evLookup Ev.evPut Ev.hintOk Ev.keyOk Ev.consP Ev.lookV Ev.guardV Ev.dstAt Ev.evPure Ev.evStore Ev.evPureB Ev.evBin Ev.evBinO Ev.evNil Ev.isNilC Ev.evUn Ev.evConv Ev.evSlice Ev.optI Ev.lenV Ev.elemT Ev.foldI Ev.capsOk Ev.noTup Ev.nth Ev.setN Ev.pad Ev.V.get Ev.V.put Ev.putD Ev.hasT Ev.newBlk Ev.upd Ev.keq Ev.empty Ev.evCall Ev.V.args Ev.argP Ev.callOf Ev.evNilP Ev.isNilP Ev.look Ev.V.view.views Ev.V.view Ev.V.toD Ev.V.toD.V.toDs Ev.V.pure.pures Ev.V.pure Ev.D.flat.flats Ev.D.flat Ev.mkAgg Ev.allD Ev.aggParts Ev.setParts Ev.setElems Ev.getPath Ev.setPath Ev.subL Ev.eqD Ev.eqD.eqDs Ev.and2 Ev.strCut Ev.evalT Ev.constT Ev.evArgs Ev.mask Ev.maskOf Ev.tableOf Ev.compT Ev.resV Ev.retV Ev.mapO Ev.elemsOf Int.cast_ofNat_Int IntWalk.i64_in IntWalk.u64_in IntWalk.u8_in beq_self_eq_true Bool.true_beq Bool.false_beq Bool.and_true Bool.true_and Bool.false_and Bool.and_false Bool.and_self Bool.not_true Bool.not_false Bool.not_eq_true cond_true cond_false if_true if_false and_true true_and and_self decide_true decide_false Bool.or_true Bool.true_or Bool.or_false Bool.false_or List.isEmpty List.isEmpty_nil List.size_toArray List.map List.length_map List.length_cons List.length_nil Option.map Option.bind Option.getD Option.isSome List.replicate Bool.false_eq_true implies_true forall_const Array.toList Array.isEmpty List.append List.nil_append List.cons_append List.drop_zero List.take_length List.take_succ_cons List.take_zero List.take_nil List.getElem?_map List.getElem?_cons_zero List.getElem?_cons_succ List.getElem?_nil List.append_nil
attribute [local go_sem] FxSens.tk2 FxSens.ik2 FxSens.zv2 FxSens.tk3 FxSens.ik3 FxSens.zv3 FxSens.by3 FxSens.so3 FxSens.tk4 FxSens.ub4 FxSens.zv4 FxSens.tk22 FxSens.ik22 FxSens.zv22 FxSens.tk27 FxSens.ik27 FxSens.zv27 FxSens.by27 FxSens.so27 FxSens.tk32 FxSens.zv32 FxSens.tk36 FxSens.ik36 FxSens.zv36 FxSens.tk47 FxSens.ik47 FxSens.zv47 FxSens.by47 FxSens.so47 FxSens.tk54 FxSens.zv54 FxSens.tk56 FxSens.ct56 FxSens.zv56 FxSens.tk73 FxSens.zv73 FxSens.tk96 FxSens.ik96 FxSens.zv96 FxSens.tk97 FxSens.ct97 FxSens.zv97 FxSens.by97 FxSens.so97 FxSens.tk98 FxSens.zv98 FxSens.tk107 FxSens.zv107 FxSens.tk120 FxSens.zv120 FxSens.tk124 FxSens.zv124 FxSens.tk152 FxSens.zv152 FxSens.tk155 FxSens.zv155 FxSens.mk10_1000000 FxSens.mk15_1000000 FxSens.dw17_6 FxSens.nc17_6 FxSens.mk17_0 FxSens.mk17_1000001 FxSens.mk17_1000002 FxSens.mk17_1000000 FxSens.mk18_1000000 FxSens.mk19_1000000 FxSens.dw39_6 FxSens.nc39_6 FxSens.mk39_0 FxSens.mk39_1000001 FxSens.mk39_1000002 FxSens.mk39_1000000 FxSens.mk42_1000000 FxSens.mk43_1000001 FxSens.mk43_1000000 FxSens.mk44_0 FxSens.mk44_2 FxSens.mk44_1000001 FxSens.mk44_1000002 FxSens.mk44_1000003 FxSens.mk44_1000004 FxSens.mk44_1000000 FxSens.mk45_0 FxSens.mk45_2 FxSens.mk45_4 FxSens.mk45_1000001 FxSens.mk45_1000002 FxSens.mk45_1000003 FxSens.mk45_1000004 FxSens.mk45_1000005 FxSens.mk45_1000006 FxSens.mk45_1000000 FxSens.dw46_28 FxSens.nc46_28 FxSens.mk46_0 FxSens.mk46_2 FxSens.mk46_4 FxSens.mk46_1000001 FxSens.mk46_1000002 FxSens.mk46_1000003 FxSens.mk46_1000004 FxSens.mk46_1000005 FxSens.mk46_1000006 FxSens.mk46_1000000 FxSens.dw47_6 FxSens.nc47_6 FxSens.mk47_0 FxSens.mk47_1000001 FxSens.mk47_1000002 FxSens.mk47_1000000 FxSens.dw48_10 FxSens.nc48_10 FxSens.dw48_11 FxSens.nc48_11 FxSens.mk48_0 FxSens.mk48_1000001 FxSens.mk48_1000002 FxSens.mk48_1000000 FxSens.mk61_1000000 FxSens.mk83_1000000 FxSens.mk84_1000000 FxSens.mk85_1000000 FxSens.mk86_1000000 FxSens.mk87_1000000 FxSens.dw88_1 FxSens.nc88_1 FxSens.mk88_1000000 FxSens.dw89_5 FxSens.nc89_5 FxSens.mk89_0 FxSens.mk89_1000001 FxSens.mk89_1000002 FxSens.mk89_1000000 FxSens.mk90_1000000 FxSens.dw91_3 FxSens.nc91_3 FxSens.mk91_0 FxSens.mk91_1000001 FxSens.mk91_1000002 FxSens.mk91_1000000 FxSens.mk92_1000000 FxSens.mk93_1000000 FxSens.mk94_0 FxSens.mk94_1000001 FxSens.mk94_1000002 FxSens.mk94_1000000 FxSens.dw95_3 FxSens.nc95_3 FxSens.dw95_6 FxSens.nc95_6 FxSens.mk95_0 FxSens.mk95_1000001 FxSens.mk95_1000002 FxSens.mk95_1000000 FxSens.mk114_1000000 FxSens.mk115_1000000 FxSens.mk116_1000000 FxSens.mk117_1000000 FxSens.mk118_1000000 FxSens.mk119_1000000 FxSens.mk128_0 FxSens.mk128_1000001 FxSens.mk128_1000002 FxSens.mk128_1000000 FxSens.mk129_0 FxSens.mk129_1000001 FxSens.mk129_1000002 FxSens.mk129_1000000 FxSens.mk130_0 FxSens.mk130_1000001 FxSens.mk130_1000002 FxSens.mk130_1000000
/-- The cells that a walk with a step meets. -/
def Path (step : Int) (n : Nat) : List Nat → Int → Prop
  | [], j => ¬ (0 ≤ j ∧ j < n)
  | i :: r, j => j = i ∧ i < n ∧ Path step n r (j + step)
theorem path_dn {w h x : Nat} (hx : x < w) : ∀ (k y : Nat), y + k = h → Path w (w * h) (dn w h x y) ((y * w + x : Nat) : Int)
  | 0, y, e => by
    rw [dn_end (by omega)]
    have : y * w = w * h := by rw [show y = h by omega, Nat.mul_comm]
    simp only [Path]
    omega
  | k + 1, y, e => by
    rw [dn_step (by omega)]
    have h1 := path_dn (w := w) (h := h) hx k (y + 1) (by omega)
    have h2 : (((y + 1) * w + x : Nat) : Int) = ((y * w + x : Nat) : Int) + w := by rw [Nat.add_mul, Nat.one_mul]; omega
    rw [h2] at h1
    have h3 : (y + 1) * w ≤ h * w := Nat.mul_le_mul_right w (by omega)
    rw [Nat.add_mul, Nat.one_mul, Nat.mul_comm h w] at h3
    exact ⟨rfl, by omega, h1⟩
theorem path_up {w h x : Nat} (hx : x < w) : ∀ (y : Nat), y ≤ h → Path (-w) (w * h) (up w x y) (((y * w + x : Nat) : Int) - w)
  | 0, _ => by
    rw [up_zero]
    simp only [Path, Nat.zero_mul, Nat.zero_add]
    omega
  | y + 1, e => by
    rw [up_step]
    have h1 := path_up (w := w) (h := h) hx y (by omega)
    have h3 : (y + 1) * w ≤ h * w := Nat.mul_le_mul_right w (by omega)
    rw [Nat.add_mul, Nat.one_mul, Nat.mul_comm h w] at h3
    have h2 : (((y + 1) * w + x : Nat) : Int) - w = ((y * w + x : Nat) : Int) := by rw [Nat.add_mul, Nat.one_mul]; omega
    rw [h2]
    exact ⟨rfl, by omega, h1⟩
noncomputable def G : Specs := [(93, sz), (94, HldSens.s94)]
noncomputable def T : Table := tableOf [(46, en46), (95, en95)]
theorem G_ok : ∀ g s, Ev.look G g = some s → SpecOk Try.prog g s := specs_cons sb_ok (specs_cons HldSens.s94_ok specs_nil)
theorem T_ok : TableOk Try.prog (G.map (·.1)) T := (table_cons Try.func46 (by kernel_rfl) (by kernel_rfl) (table_cons Try.func95 (by kernel_rfl) (by kernel_rfl) table_nil))
theorem look93 : Ev.look G 93 = some sz := nr rfl
theorem look94 : Ev.look G 94 = some HldSens.s94 := nr rfl
theorem look95 : Ev.look G 95 = none := nr rfl
def out (n : Nat) : V := .rs 27 (0, 31) 1 0 n true
def b8 (n : Nat) : Blk := ⟨1, 73, [out n], true⟩
def b11 (lost : Int) : Blk := ⟨1, 27, [.d (.int .i64 lost)], true⟩
abbrev X := List Nat × Int × Int × Held × Store
def hd (step : Int) (x : X) : List V := hd95_0 (.d (.int .i64 step)) (.d (.int .i64 x.2.2.1)) (p 3) (p 2) (p 8) (p 11) (.d (.int .i64 x.2.1))
def J (full : Int) (n : Nat) (step : Int) (l0 : List Nat) (f0 : Int) (h0 : Held) (st0 : Store) (x : X) : Prop :=
  Path step n x.1 x.2.1 ∧ x.2.2.2.2 (0, 31) = ⟨1, 27, row n x.2.2.2.1, true⟩ ∧ (∀ d, d ≠ 31 → x.2.2.2.2 (0, d) = st0 (0, d)) ∧ (∀ i, 0 ≤ x.2.2.2.1 i ∧ x.2.2.2.1 i ≤ full) ∧ (0 ≤ x.2.2.1 ∧ x.2.2.1 ≤ 4294967296) ∧ pour full zero x.1 x.2.2.1 x.2.2.2.1 = pour full zero l0 f0 h0
def Q (full : Int) (n : Nat) (l0 : List Nat) (f0 : Int) (h0 : Held) (st0 : Store) (x : X) (o : Out) : Prop :=
  ∃ st', o = some (.exit 0, hx95_0 (.d (.int .i64 (pour full zero l0 f0 h0).2)) (p 11), st') ∧ st' (0, 31) = ⟨1, 27, row n (pour full zero l0 f0 h0).1, true⟩ ∧ (∀ d, d ≠ 31 → st' (0, d) = st0 (0, d)) ∧ (0 ≤ (pour full zero l0 f0 h0).2 ∧ (pour full zero l0 f0 h0).2 ≤ 4294967296)
theorem loop (L : Nat) (call : Caller) (lv : Nat) (s : Sen) (q : List Int) (step : Int) (l0 : List Nat) (f0 : Int) (h0 : Held) (st0 : Store) (h2 : st0 (0, 2) = bS s) (h3 : st0 (0, 3) = bQ q) (h8 : st0 (0, 8) = b8 q.length) (hf : 1 ≤ s.full ∧ s.full ≤ 1048576) (hl : q.length ≤ 1024) (hs : -32 ≤ step ∧ step ≤ 32) :
    ∀ (m : Nat) (x : X) (env : List V), J s.full q.length step l0 f0 h0 st0 x → x.1.length < m → mask (maskOf en95.ms 0) env = hd step x →
      Q s.full q.length l0 f0 h0 st0 x (iter (evC Try.prog G call L en95.ms lv 0 lb95_0) (maskOf en95.ms 0) m env x.2.2.2.2) := by
  refine iter_rel _ _ (J s.full q.length step l0 f0 h0 st0) (hd step) (fun x => x.2.2.2.2) (Q s.full q.length l0 f0 h0 st0) (fun x => x.1.length) ?_
  rintro ⟨l, j, f, h, st⟩ ⟨hp, q31, qF, qh, ⟨f0', f1⟩, qe⟩ k hk
  simp only at hp q31 qF qh f0' f1 qe
  have r3 : st (0, 3) = bQ q := by rw [qF 3 (by decide)]; exact h3
  have r2 : st (0, 2) = bS s := by rw [qF 2 (by decide)]; exact h2
  have r8 : st (0, 8) = b8 q.length := by rw [qF 8 (by decide)]; exact h8
  have hD : s.D = .agg 56 [.int .i64 s.w, .int .i64 s.h, .sl 3 (s.b.map (.int .i64)), .sl 47 (s.d.map (.int .i64)), .sl 3 (s.f.map (.int .i64)), .int .i64 s.full, .int .i64 s.gain, .int .i64 s.noise] := rfl
  by_cases c1 : f > 0
  case neg =>
    have hz : f = 0 := by omega
    rw [hz, pour_none fun i => (qh i).2] at qe
    unfold Q
    rw [← qe]
    refine ⟨st, ?_, q31, qF, by simp only; omega, by simp only; omega⟩
    simp only [lb95_0, loopN, loops, hd, p, hd95_0, hx95_0, Try.f95, go_sem, Nat.reduceAdd, Nat.reduceSub, Nat.reduceMul, Nat.reduceEqDiff, Nat.reduceBEq, Nat.reduceLT, Nat.reduceLeDiff, Nat.reducePow, Int.reduceToNat, Int.reduceLT, Int.reduceLE, Int.reduceGT, Int.reduceGE, Int.reduceEq, Int.reduceNeg, Int.reduceAdd, Int.reduceSub, ↓reduceIte, reduceCtorEq, c1, hz]
  cases l with
  | nil =>
    simp only [Path] at hp
    simp only [pour] at qe
    unfold Q
    rw [← qe]
    refine ⟨st, ?_, q31, qF, f0', f1⟩
    by_cases c2 : j ≥ 0
    · have c3 : ¬ j < q.length := by omega
      simp only [lb95_0, loopN, loops, hd, p, hd95_0, hx95_0, Try.f95, go_sem, Nat.reduceAdd, Nat.reduceSub, Nat.reduceMul, Nat.reduceEqDiff, Nat.reduceBEq, Nat.reduceLT, Nat.reduceLeDiff, Nat.reducePow, Int.reduceToNat, Int.reduceLT, Int.reduceLE, Int.reduceGT, Int.reduceGE, Int.reduceEq, Int.reduceNeg, Int.reduceAdd, Int.reduceSub, ↓reduceIte, reduceCtorEq, c1, c2, c3, r3, bQ]
    · simp only [lb95_0, loopN, loops, hd, p, hd95_0, hx95_0, Try.f95, go_sem, Nat.reduceAdd, Nat.reduceSub, Nat.reduceMul, Nat.reduceEqDiff, Nat.reduceBEq, Nat.reduceLT, Nat.reduceLeDiff, Nat.reducePow, Int.reduceToNat, Int.reduceLT, Int.reduceLE, Int.reduceGT, Int.reduceGE, Int.reduceEq, Int.reduceNeg, Int.reduceAdd, Int.reduceSub, ↓reduceIte, reduceCtorEq, c1, c2]
  | cons i r =>
    obtain ⟨rfl, him, hp⟩ := hp
    rw [pour] at qe
    have c2 : (i : Int) ≥ 0 := by omega
    have c3 : (i : Int) < q.length := by omega
    have g0 : (0 : Int) ≤ (i : Int) := by omega
    have ht : ((i : Int)).toNat = i := by omega
    have hn := row_nth h him
    have hrl := row_len q.length h
    obtain ⟨x0, x1⟩ := qh i
    have hz : zero i = 0 := rfl
    rw [hz] at qe
    have hset := row_set h (h i + take s.full f (h i)) him
    have hkb : 0 ≤ take s.full f (h i) ∧ take s.full f (h i) ≤ f ∧ h i + take s.full f (h i) ≤ s.full := by unfold take; split <;> omega
    have w1 : IntKind.i64.wrap (s.full - h i) = s.full - h i := IntWalk.i64_in _ (by omega)
    have w2 : IntKind.i64.wrap ((i : Int) + step) = i + step := IntWalk.i64_in _ (by omega)
    have hput : ∀ j, 0 ≤ put h i (h i + take s.full f (h i)) j ∧ put h i (h i + take s.full f (h i)) j ≤ s.full := by
      intro j
      by_cases ej : j = i
      · subst ej
        rw [put_at]
        omega
      · rw [put_ne ej]
        exact qh j
    have hk' := fun x st1 env a b c => (hk (r, (i : Int) + step, x, put h i (h i + take s.full f (h i)), st1) env a b c : Q s.full q.length l0 f0 h0 st0 (r, (i : Int) + step, x, put h i (h i + take s.full f (h i)), st1) _)
    have hQ : ∀ x st1 o, Q s.full q.length l0 f0 h0 st0 (r, (i : Int) + step, x, put h i (h i + take s.full f (h i)), st1) o → Q s.full q.length l0 f0 h0 st0 (i :: r, (i : Int), f, h, st) o := fun _ _ _ h => h
    have ef : f + (0 - take s.full f (h i)) = f - take s.full f (h i) := by omega
    rw [ef] at qe
    have fin : ∀ st1 env, st1 (0, 31) = ⟨1, 27, row q.length (put h i (h i + take s.full f (h i))), true⟩ → (∀ d, d ≠ 31 → st1 (0, d) = st0 (0, d)) → mask (maskOf en95.ms 0) env = hd step (r, (i : Int) + step, f - take s.full f (h i), put h i (h i + take s.full f (h i)), st1) → Q s.full q.length l0 f0 h0 st0 (i :: r, (i : Int), f, h, st) (k env st1) := by
      intro st1 env a b e
      exact hQ _ _ _ (hk' _ st1 env ⟨hp, a, b, hput, ⟨by simp only; omega, by simp only; omega⟩, qe⟩ (by simp only [List.length_cons]; omega) e)
    have htk : take s.full f (h i) = if s.full - h i > f then f else s.full - h i := by unfold take; split <;> split <;> omega
    by_cases c4 : s.full - h i > f
    · rw [if_pos c4] at htk
      rw [htk] at fin hset
      have w3 : IntKind.i64.wrap (h i + f) = h i + f := IntWalk.i64_in _ (by omega)
      have w4 : IntKind.i64.wrap (f - f) = f - f := IntWalk.i64_in _ (by omega)
      simp only [lb95_0, loopN, loops, hd, p, hd95_0, Try.f95, go_sem, Nat.reduceAdd, Nat.reduceSub, Nat.reduceMul, Nat.reduceEqDiff, Nat.reduceBEq, Nat.reduceLT, Nat.reduceLeDiff, Nat.reducePow, Int.reduceToNat, Int.reduceLT, Int.reduceLE, Int.reduceGT, Int.reduceGE, Int.reduceEq, Int.reduceNeg, Int.reduceAdd, Int.reduceSub, ↓reduceIte, reduceCtorEq, c1, c2, c3, r2, r3, r8, b8, out, bQ, bS, hD, q31, g0, ht, hn, hrl, w1, c4, w3, w4, hset, w2, Nat.zero_add]
      refine fin _ _ (by simp only [go_sem, Nat.reduceAdd, Nat.reduceSub, Nat.reduceMul, Nat.reduceEqDiff, Nat.reduceBEq, Nat.reduceLT, Nat.reduceLeDiff, Nat.reducePow, Int.reduceToNat, Int.reduceLT, Int.reduceLE, Int.reduceGT, Int.reduceGE, Int.reduceEq, Int.reduceNeg, Int.reduceAdd, Int.reduceSub, ↓reduceIte, reduceCtorEq]) (fun d hd => ?_) (by simp only [hd, p, hd95_0, go_sem, Nat.reduceAdd, Nat.reduceSub, Nat.reduceMul, Nat.reduceEqDiff, Nat.reduceBEq, Nat.reduceLT, Nat.reduceLeDiff, Nat.reducePow, Int.reduceToNat, Int.reduceLT, Int.reduceLE, Int.reduceGT, Int.reduceGE, Int.reduceEq, Int.reduceNeg, Int.reduceAdd, Int.reduceSub, ↓reduceIte, reduceCtorEq, w2])
      have hd' : (d == 31) = false := beq_eq_false_iff_ne.2 hd
      simp only [go_sem, Nat.reduceAdd, Nat.reduceSub, Nat.reduceMul, Nat.reduceEqDiff, Nat.reduceBEq, Nat.reduceLT, Nat.reduceLeDiff, Nat.reducePow, Int.reduceToNat, Int.reduceLT, Int.reduceLE, Int.reduceGT, Int.reduceGE, Int.reduceEq, Int.reduceNeg, Int.reduceAdd, Int.reduceSub, ↓reduceIte, reduceCtorEq, hd', qF d hd]
    · rw [if_neg c4] at htk
      rw [htk] at fin hset
      have w3 : IntKind.i64.wrap (h i + (s.full - h i)) = h i + (s.full - h i) := IntWalk.i64_in _ (by omega)
      have w4 : IntKind.i64.wrap (f - (s.full - h i)) = f - (s.full - h i) := IntWalk.i64_in _ (by omega)
      simp only [lb95_0, loopN, loops, hd, p, hd95_0, Try.f95, go_sem, Nat.reduceAdd, Nat.reduceSub, Nat.reduceMul, Nat.reduceEqDiff, Nat.reduceBEq, Nat.reduceLT, Nat.reduceLeDiff, Nat.reducePow, Int.reduceToNat, Int.reduceLT, Int.reduceLE, Int.reduceGT, Int.reduceGE, Int.reduceEq, Int.reduceNeg, Int.reduceAdd, Int.reduceSub, ↓reduceIte, reduceCtorEq, c1, c2, c3, r2, r3, r8, b8, out, bQ, bS, hD, q31, g0, ht, hn, hrl, w1, c4, w3, w4, hset, w2, Nat.zero_add]
      refine fin _ _ (by simp only [go_sem, Nat.reduceAdd, Nat.reduceSub, Nat.reduceMul, Nat.reduceEqDiff, Nat.reduceBEq, Nat.reduceLT, Nat.reduceLeDiff, Nat.reducePow, Int.reduceToNat, Int.reduceLT, Int.reduceLE, Int.reduceGT, Int.reduceGE, Int.reduceEq, Int.reduceNeg, Int.reduceAdd, Int.reduceSub, ↓reduceIte, reduceCtorEq]) (fun d hd => ?_) (by simp only [hd, p, hd95_0, go_sem, Nat.reduceAdd, Nat.reduceSub, Nat.reduceMul, Nat.reduceEqDiff, Nat.reduceBEq, Nat.reduceLT, Nat.reduceLeDiff, Nat.reducePow, Int.reduceToNat, Int.reduceLT, Int.reduceLE, Int.reduceGT, Int.reduceGE, Int.reduceEq, Int.reduceNeg, Int.reduceAdd, Int.reduceSub, ↓reduceIte, reduceCtorEq, w2])
      have hd' : (d == 31) = false := beq_eq_false_iff_ne.2 hd
      simp only [go_sem, Nat.reduceAdd, Nat.reduceSub, Nat.reduceMul, Nat.reduceEqDiff, Nat.reduceBEq, Nat.reduceLT, Nat.reduceLeDiff, Nat.reducePow, Int.reduceToNat, Int.reduceLT, Int.reduceLE, Int.reduceGT, Int.reduceGE, Int.reduceEq, Int.reduceNeg, Int.reduceAdd, Int.reduceSub, ↓reduceIte, reduceCtorEq, hd', qF d hd]
end Go.Proofs.Ytjplkbeolakbjaa.Bled1Sens
end
section
set_option linter.unusedVariables false
set_option linter.unusedSimpArgs false
set_option maxRecDepth 100000
namespace Go.Proofs.Ytjplkbeolakbjaa.Bled2Sens
open Go.Ev Go.Proofs.Ytjplkbeolakbjaa.FxSens Go.Proofs.Ytjplkbeolakbjaa.Out84Sens Go.Proofs.Ytjplkbeolakbjaa.ChkSens
open Go.Proofs.Ytjplkbeolakbjaa.Bleed1Sens (row row_len row_nth row_set row_congr qf qf_get qf_bd bS bQ p exD_bd exU_bd over_bd ex_then)
open Go.Proofs.Ytjplkbeolakbjaa.Bleed2Sens (cap cap_bd fil fil_0 fil_n fil_s pour_bd)
open Go.Proofs.Ytjplkbeolakbjaa.Bleed3Sens (loop_then bleedE bleedR lst row_lst sBl)
open Go.Proofs.Ytjplkbeolakbjaa.SizSens (missized sz sz_run wrong_zero sized_zero)
open Go.Pour (put pour take Held zero put_at put_ne pour_le act St act_le pour_none)
open Go.Bleed (dn up dn_step dn_end up_step up_zero over exD exU bledD bledU bleed act_none exD_nonneg exU_nonneg)
open Go.Proofs.Ytjplkbeolakbjaa.Bled1Sens (Path path_dn path_up G T G_ok T_ok look93 look94 look95 out b8 b11)
attribute [local go_sem] Ev.putR_s Ev.putR_0 Ev.thenO_s Ev.thenO_0 Ev.seqR_n Ev.seqR_e Ev.seqR_r Ev.seqR_0 Ev.blkR_e Ev.blkR_n Ev.blkR_r Ev.blkR_0 Ev.normR_s Ev.normR_0 Ev.outR_r Ev.outR_n Ev.outR_0 Ev.retS_s Ev.retS_0 Ev.pureO_s Ev.pureO_0 Ev.topR_0 Ev.topR_t Ev.topR_t0 Ev.oneL_0 Ev.oneL_s Ev.topR_d Ev.topR_nils Ev.topR_agg Ev.topR_rs Ev.evOp_move Ev.evOp_assign Ev.evOp_pick Ev.evOp_alloc Ev.evOp_box Ev.evOp_build Ev.evOp_buildSlice Ev.evOp_load Ev.evOp_store Ev.evOp_makeMap Ev.evOp_lookup Ev.evOp_mapUpdate Ev.evOp_insert Ev.evOp_nilCheck Ev.evOp_binOp Ev.evOp_unOp Ev.evOp_convert Ev.evOp_makeFunc Ev.evOp_makeSlice Ev.evOp_slice Ev.evOp_fieldAddr Ev.evOp_field Ev.evOp_indexAddr Ev.evOp_index Ev.evOp_extract Ev.evOp_call Ev.evOp_append Ev.evOp_len Ev.evOp_min Ev.evOp_max Ev.condR_b Ev.condR_t Ev.evOps_nil Ev.evOps_plain Ev.evOps_guard Ev.runG_eq Ev.skipG_eq Ev.condL_tt Ev.condL_ff Ev.condL_tf Ev.condL_ft Ev.condL_u Ev.condC_t Ev.condC_f Ev.evC_skip Ev.evC_ret Ev.evC_exit Ev.evC_label Ev.evC_region Ev.evC_draw Ev.evC_seq Ev.evC_cond Ev.evC_block Ev.evC_loop Ev.fin_d Ev.fin_nils Ev.fin_agg_ Ev.fin_rs Ev.finS_s Ev.mapO_fin Ev.upd_upd Ev.argv_d Ev.argv_nils Ev.argv_agg Ev.argv_rs Ev.argv_p Ev.appendTo_nils Ev.appendTo_rs Ev.consV_d Ev.consV_agg Ev.consV_p Ev.consV_rs Ev.consV_nils Ev.consV_fn Ev.consV_und Ev.consV_jk Ev.consV_grown Ev.topR_grown Ev.len_grown Ev.consV_mp Ev.sameK_i Ev.sameK_s Ev.mget_0 Ev.mget_hit Ev.mget_miss Ev.mput_0 Ev.mput_hit Ev.mput_miss Ev.apartAll Ev.apartL Ev.apartV Ev.freeAll Ev.sel Ev.keyOfV Ev.evLookup Ev.evPut Ev.hintOk Ev.keyOk Ev.consP Ev.lookV Ev.guardV Ev.dstAt Ev.evPure Ev.evStore Ev.evPureB Ev.evBin Ev.evBinO Ev.evNil Ev.isNilC Ev.evUn Ev.evConv Ev.evSlice Ev.optI Ev.lenV Ev.elemT Ev.foldI Ev.capsOk Ev.noTup Ev.nth Ev.setN Ev.pad Ev.V.get Ev.V.put Ev.putD Ev.hasT Ev.newBlk Ev.upd Ev.keq Ev.empty Ev.evCall Ev.V.args Ev.argP Ev.callOf Ev.evNilP Ev.isNilP Ev.look Ev.V.view.views Ev.V.view Ev.V.toD Ev.V.toD.V.toDs Ev.V.pure.pures Ev.V.pure Ev.D.flat.flats Ev.D.flat Ev.mkAgg Ev.allD Ev.aggParts Ev.setParts Ev.setElems Ev.getPath Ev.setPath Ev.subL Ev.eqD Ev.eqD.eqDs Ev.and2 Ev.strCut Ev.evalT Ev.constT Ev.evArgs Ev.mask Ev.maskOf Ev.tableOf Ev.compT Ev.resV Ev.retV Ev.mapO Ev.elemsOf Int.cast_ofNat_Int IntWalk.i64_in IntWalk.u64_in IntWalk.u8_in beq_self_eq_true Bool.true_beq Bool.false_beq Bool.and_true Bool.true_and Bool.false_and Bool.and_false Bool.and_self Bool.not_true Bool.not_false Bool.not_eq_true cond_true cond_false if_true if_false and_true true_and and_self decide_true decide_false Bool.or_true Bool.true_or Bool.or_false Bool.false_or List.isEmpty List.isEmpty_nil List.size_toArray List.map List.length_map List.length_cons List.length_nil Option.map Option.bind Option.getD Option.isSome List.replicate Bool.false_eq_true implies_true forall_const Array.toList Array.isEmpty List.append List.nil_append List.cons_append List.drop_zero List.take_length List.take_succ_cons List.take_zero List.take_nil List.getElem?_map List.getElem?_cons_zero List.getElem?_cons_succ List.getElem?_nil List.append_nil
attribute [local go_sem] FxSens.tk2 FxSens.ik2 FxSens.zv2 FxSens.tk3 FxSens.ik3 FxSens.zv3 FxSens.by3 FxSens.so3 FxSens.tk4 FxSens.ub4 FxSens.zv4 FxSens.tk22 FxSens.ik22 FxSens.zv22 FxSens.tk27 FxSens.ik27 FxSens.zv27 FxSens.by27 FxSens.so27 FxSens.tk32 FxSens.zv32 FxSens.tk36 FxSens.ik36 FxSens.zv36 FxSens.tk47 FxSens.ik47 FxSens.zv47 FxSens.by47 FxSens.so47 FxSens.tk54 FxSens.zv54 FxSens.tk56 FxSens.ct56 FxSens.zv56 FxSens.tk73 FxSens.zv73 FxSens.tk96 FxSens.ik96 FxSens.zv96 FxSens.tk97 FxSens.ct97 FxSens.zv97 FxSens.by97 FxSens.so97 FxSens.tk98 FxSens.zv98 FxSens.tk107 FxSens.zv107 FxSens.tk120 FxSens.zv120 FxSens.tk124 FxSens.zv124 FxSens.tk152 FxSens.zv152 FxSens.tk155 FxSens.zv155 FxSens.mk10_1000000 FxSens.mk15_1000000 FxSens.dw17_6 FxSens.nc17_6 FxSens.mk17_0 FxSens.mk17_1000001 FxSens.mk17_1000002 FxSens.mk17_1000000 FxSens.mk18_1000000 FxSens.mk19_1000000 FxSens.dw39_6 FxSens.nc39_6 FxSens.mk39_0 FxSens.mk39_1000001 FxSens.mk39_1000002 FxSens.mk39_1000000 FxSens.mk42_1000000 FxSens.mk43_1000001 FxSens.mk43_1000000 FxSens.mk44_0 FxSens.mk44_2 FxSens.mk44_1000001 FxSens.mk44_1000002 FxSens.mk44_1000003 FxSens.mk44_1000004 FxSens.mk44_1000000 FxSens.mk45_0 FxSens.mk45_2 FxSens.mk45_4 FxSens.mk45_1000001 FxSens.mk45_1000002 FxSens.mk45_1000003 FxSens.mk45_1000004 FxSens.mk45_1000005 FxSens.mk45_1000006 FxSens.mk45_1000000 FxSens.dw46_28 FxSens.nc46_28 FxSens.mk46_0 FxSens.mk46_2 FxSens.mk46_4 FxSens.mk46_1000001 FxSens.mk46_1000002 FxSens.mk46_1000003 FxSens.mk46_1000004 FxSens.mk46_1000005 FxSens.mk46_1000006 FxSens.mk46_1000000 FxSens.dw47_6 FxSens.nc47_6 FxSens.mk47_0 FxSens.mk47_1000001 FxSens.mk47_1000002 FxSens.mk47_1000000 FxSens.dw48_10 FxSens.nc48_10 FxSens.dw48_11 FxSens.nc48_11 FxSens.mk48_0 FxSens.mk48_1000001 FxSens.mk48_1000002 FxSens.mk48_1000000 FxSens.mk61_1000000 FxSens.mk83_1000000 FxSens.mk84_1000000 FxSens.mk85_1000000 FxSens.mk86_1000000 FxSens.mk87_1000000 FxSens.dw88_1 FxSens.nc88_1 FxSens.mk88_1000000 FxSens.dw89_5 FxSens.nc89_5 FxSens.mk89_0 FxSens.mk89_1000001 FxSens.mk89_1000002 FxSens.mk89_1000000 FxSens.mk90_1000000 FxSens.dw91_3 FxSens.nc91_3 FxSens.mk91_0 FxSens.mk91_1000001 FxSens.mk91_1000002 FxSens.mk91_1000000 FxSens.mk92_1000000 FxSens.mk93_1000000 FxSens.mk94_0 FxSens.mk94_1000001 FxSens.mk94_1000002 FxSens.mk94_1000000 FxSens.dw95_3 FxSens.nc95_3 FxSens.dw95_6 FxSens.nc95_6 FxSens.mk95_0 FxSens.mk95_1000001 FxSens.mk95_1000002 FxSens.mk95_1000000 FxSens.mk114_1000000 FxSens.mk115_1000000 FxSens.mk116_1000000 FxSens.mk117_1000000 FxSens.mk118_1000000 FxSens.mk119_1000000 FxSens.mk128_0 FxSens.mk128_1000001 FxSens.mk128_1000002 FxSens.mk128_1000000 FxSens.mk129_0 FxSens.mk129_1000001 FxSens.mk129_1000002 FxSens.mk129_1000000 FxSens.mk130_0 FxSens.mk130_1000001 FxSens.mk130_1000002 FxSens.mk130_1000000
def Ans (st : Store) (n : Nat) (lost : Int) (r : Held × Int) (z : Option (V × Store)) : Prop := ∃ st', z = some (.tup [], st') ∧ st' (0, 31) = ⟨1, 27, row n r.1, true⟩ ∧ st' (0, 11) = b11 (lost + r.2) ∧ ∀ d, d ≠ 31 → d ≠ 11 → st' (0, d) = st (0, d)
theorem eSpill (L c lv : Nat) (s : Sen) (q : List Int) (i : Nat) (step : Int) (l : List Nat) (f lost : Int) (h : Held) (st : Store) (h2 : st (0, 2) = bS s) (h3 : st (0, 3) = bQ q) (h8 : st (0, 8) = b8 q.length) (h11 : st (0, 11) = b11 lost) (h31 : st (0, 31) = ⟨1, 27, row q.length h, true⟩)
    (hf : 1 ≤ s.full ∧ s.full ≤ 1048576) (hl : q.length ≤ 1024) (hs : -32 ≤ step ∧ step ≤ 32) (hi : i < q.length) (hp : Path step q.length l ((i : Int) + step)) (hL : l.length < L) (hh : ∀ i, 0 ≤ h i ∧ h i ≤ s.full) (hf0 : 0 ≤ f ∧ f ≤ 4294967296) (hlo : 0 ≤ lost ∧ lost ≤ 9007199254740992) :
    Ans st q.length lost (pour s.full zero l f h) (evF Try.prog G T L (c + 1) 95 [.d (.int .i64 i), .d (.int .i64 step), .d (.int .i64 f), p 3, p 2, p 8, p 11] lv st) := by
  have w1 : IntKind.i64.wrap ((i : Int) + step) = i + step := IntWalk.i64_in _ (by omega)
  rw [evF_s (fn := Try.f95) (msk := en95.ms) (hT := by rfl) (hb := by rfl)]
  simp only [Try.f95, p, go_sem, Nat.reduceAdd, Nat.reduceSub, Nat.reduceMul, Nat.reduceEqDiff, Nat.reduceBEq, Nat.reduceLT, Nat.reduceLeDiff, Nat.reducePow, Int.reduceToNat, Int.reduceLT, Int.reduceLE, Int.reduceGT, Int.reduceGE, Int.reduceEq, Int.reduceNeg, Int.reduceAdd, Int.reduceSub, ↓reduceIte, reduceCtorEq, w1]
  refine ex_then (C := Ans st q.length lost (pour s.full zero l f h)) (R := Bled1Sens.Q s.full q.length l f h st (l, (i : Int) + step, f, h, st)) (Bled1Sens.loop L _ lv s q step l f h st h2 h3 h8 hf hl hs _ (l, (i : Int) + step, f, h, st) _ ⟨hp, h31, fun d _ => rfl, hh, hf0, rfl⟩ hL (by simp only [Bled1Sens.hd, p, hd95_0, go_sem, Nat.reduceAdd, Nat.reduceSub, Nat.reduceMul, Nat.reduceEqDiff, Nat.reduceBEq, Nat.reduceLT, Nat.reduceLeDiff, Nat.reducePow, Int.reduceToNat, Int.reduceLT, Int.reduceLE, Int.reduceGT, Int.reduceGE, Int.reduceEq, Int.reduceNeg, Int.reduceAdd, Int.reduceSub, ↓reduceIte, reduceCtorEq, w1])) ?_
  rintro o ⟨st', rfl, q31, qF, q0, q1⟩
  have r11 : st' (0, 11) = b11 lost := by rw [qF 11 (by decide)]; exact h11
  generalize pour s.full zero l f h = R at *
  have w2 : IntKind.i64.wrap (lost + R.2) = lost + R.2 := IntWalk.i64_in _ (by omega)
  simp only [hx95_0, p, Try.f95, go_sem, Nat.reduceAdd, Nat.reduceSub, Nat.reduceMul, Nat.reduceEqDiff, Nat.reduceBEq, Nat.reduceLT, Nat.reduceLeDiff, Nat.reducePow, Int.reduceToNat, Int.reduceLT, Int.reduceLE, Int.reduceGT, Int.reduceGE, Int.reduceEq, Int.reduceNeg, Int.reduceAdd, Int.reduceSub, ↓reduceIte, reduceCtorEq, r11, b11, w2]
  refine ⟨_, rfl, by simp only [go_sem, Nat.reduceAdd, Nat.reduceSub, Nat.reduceMul, Nat.reduceEqDiff, Nat.reduceBEq, Nat.reduceLT, Nat.reduceLeDiff, Nat.reducePow, Int.reduceToNat, Int.reduceLT, Int.reduceLE, Int.reduceGT, Int.reduceGE, Int.reduceEq, Int.reduceNeg, Int.reduceAdd, Int.reduceSub, ↓reduceIte, reduceCtorEq, q31], by simp only [go_sem, Nat.reduceAdd, Nat.reduceSub, Nat.reduceMul, Nat.reduceEqDiff, Nat.reduceBEq, Nat.reduceLT, Nat.reduceLeDiff, Nat.reducePow, Int.reduceToNat, Int.reduceLT, Int.reduceLE, Int.reduceGT, Int.reduceGE, Int.reduceEq, Int.reduceNeg, Int.reduceAdd, Int.reduceSub, ↓reduceIte, reduceCtorEq, b11], fun d h1 h2 => ?_⟩
  have hd1' : (d == 11) = false := beq_eq_false_iff_ne.2 h2
  simp only [go_sem, Nat.reduceAdd, Nat.reduceSub, Nat.reduceMul, Nat.reduceEqDiff, Nat.reduceBEq, Nat.reduceLT, Nat.reduceLeDiff, Nat.reducePow, Int.reduceToNat, Int.reduceLT, Int.reduceLE, Int.reduceGT, Int.reduceGE, Int.reduceEq, Int.reduceNeg, Int.reduceAdd, Int.reduceSub, ↓reduceIte, reduceCtorEq, hd1', qF d h1]
/-! ### filling -/
def hd0 (q : List Int) (i : Nat) : List V := hd46_0 (p 2) (p 3) (p 8) (.d (.sl 27 (q.map (.int .i64)))) (.d (.int .i64 q.length)) (.d (.int .i64 i))
def J0 (full : Int) (q : List Int) (st0 : Store) (x : Nat × Store) : Prop := x.1 ≤ q.length ∧ x.2 (0, 31) = ⟨1, 27, row q.length (fil full q x.1), true⟩ ∧ ∀ d, d ≠ 31 → x.2 (0, d) = st0 (0, d)
def Q0 (full : Int) (q : List Int) (st0 : Store) (x : Nat × Store) (o : Out) : Prop := ∃ st', o = some (.exit 0, hx46_0 (p 2) (p 3) (p 8), st') ∧ st' (0, 31) = ⟨1, 27, row q.length (cap full q), true⟩ ∧ ∀ d, d ≠ 31 → st' (0, d) = st0 (0, d)
theorem loop0 (L : Nat) (call : Caller) (s : Sen) (q : List Int) (st0 : Store) (h2 : st0 (0, 2) = bS s) (h8 : st0 (0, 8) = b8 q.length) (hl : q.length ≤ 1024) :
    ∀ (m : Nat) (x : Nat × Store) (env : List V), J0 s.full q st0 x → q.length - x.1 < m → mask (maskOf en46.ms 0) env = hd0 q x.1 →
      Q0 s.full q st0 x (iter (evC Try.prog G call L en46.ms 0 0 lb46_0) (maskOf en46.ms 0) m env x.2) := by
  refine iter_rel _ _ (J0 s.full q st0) (fun x => hd0 q x.1) (fun x => x.2) (Q0 s.full q st0) (fun x => q.length - x.1) ?_
  rintro ⟨i, st⟩ ⟨hi, q25, qF⟩ k hk
  simp only at hi q25 qF
  by_cases hin : i < q.length
  case neg =>
    obtain rfl : i = q.length := by omega
    have hlt : ¬ (q.length : Int) < q.length := by omega
    rw [fil_n] at q25
    refine ⟨st, ?_, q25, qF⟩
    simp only [lb46_0, loopN, loops, hd0, p, hd46_0, hx46_0, Try.f46, go_sem, Nat.reduceAdd, Nat.reduceSub, Nat.reduceMul, Nat.reduceEqDiff, Nat.reduceBEq, Nat.reduceLT, Nat.reduceLeDiff, Nat.reducePow, Int.reduceToNat, Int.reduceLT, Int.reduceLE, Int.reduceGT, Int.reduceGE, Int.reduceEq, Int.reduceNeg, Int.reduceAdd, Int.reduceSub, ↓reduceIte, reduceCtorEq, hlt]
  have hlt : (i : Int) < q.length := by omega
  have g0 : (0 : Int) ≤ (i : Int) := by omega
  have ht : ((i : Int)).toNat = i := by omega
  have hw1 : IntKind.i64.wrap ((i : Int) + 1) = ((i + 1 : Nat) : Int) := by rw [IntWalk.i64_in _ (by omega)]; rfl
  have hx := qf_get hin
  have hn := row_nth (fil s.full q i) hin
  have hs := row_set (fil s.full q i) (cap s.full q i) hin
  have hrl := row_len q.length (fil s.full q i)
  rw [fil_s] at hs
  have hc : minI (qf q i) s.full = cap s.full q i := rfl
  have hD : s.D = .agg 56 [.int .i64 s.w, .int .i64 s.h, .sl 3 (s.b.map (.int .i64)), .sl 47 (s.d.map (.int .i64)), .sl 3 (s.f.map (.int .i64)), .int .i64 s.full, .int .i64 s.gain, .int .i64 s.noise] := rfl
  have r2 : st (0, 2) = bS s := by rw [qF 2 (by decide)]; exact h2
  have r8 : st (0, 8) = b8 q.length := by rw [qF 8 (by decide)]; exact h8
  have hk' := fun st1 env a b c => (hk (i + 1, st1) env a b c : Q0 s.full q st0 (i + 1, st1) _)
  have hQ : ∀ st1 o, Q0 s.full q st0 (i + 1, st1) o → Q0 s.full q st0 (i, st) o := fun _ _ h => h
  simp only [lb46_0, loopN, loops, hd0, out, b8, p, hd46_0, Try.f46, G, go_sem, Nat.reduceAdd, Nat.reduceSub, Nat.reduceMul, Nat.reduceEqDiff, Nat.reduceBEq, Nat.reduceLT, Nat.reduceLeDiff, Nat.reducePow, Int.reduceToNat, Int.reduceLT, Int.reduceLE, Int.reduceGT, Int.reduceGE, Int.reduceEq, Int.reduceNeg, Int.reduceAdd, Int.reduceSub, ↓reduceIte, reduceCtorEq, hlt, g0, ht, hx, hn, hrl, r2, r8, bS, hD, q25, hc, hs, Nat.zero_add, hw1]
  refine hQ _ _ (hk' _ _ ⟨by omega, by simp only [go_sem, Nat.reduceAdd, Nat.reduceSub, Nat.reduceMul, Nat.reduceEqDiff, Nat.reduceBEq, Nat.reduceLT, Nat.reduceLeDiff, Nat.reducePow, Int.reduceToNat, Int.reduceLT, Int.reduceLE, Int.reduceGT, Int.reduceGE, Int.reduceEq, Int.reduceNeg, Int.reduceAdd, Int.reduceSub, ↓reduceIte, reduceCtorEq], fun d hd => ?_⟩ (by omega) (by simp only [hd0, out, p, hd46_0, go_sem, Nat.reduceAdd, Nat.reduceSub, Nat.reduceMul, Nat.reduceEqDiff, Nat.reduceBEq, Nat.reduceLT, Nat.reduceLeDiff, Nat.reducePow, Int.reduceToNat, Int.reduceLT, Int.reduceLE, Int.reduceGT, Int.reduceGE, Int.reduceEq, Int.reduceNeg, Int.reduceAdd, Int.reduceSub, ↓reduceIte, reduceCtorEq, hw1]))
  have hd' : (d == 31) = false := beq_eq_false_iff_ne.2 hd
  simp only [go_sem, Nat.reduceAdd, Nat.reduceSub, Nat.reduceMul, Nat.reduceEqDiff, Nat.reduceBEq, Nat.reduceLT, Nat.reduceLeDiff, Nat.reducePow, Int.reduceToNat, Int.reduceLT, Int.reduceLE, Int.reduceGT, Int.reduceGE, Int.reduceEq, Int.reduceNeg, Int.reduceAdd, Int.reduceSub, ↓reduceIte, reduceCtorEq, hd', qF d hd]
end Go.Proofs.Ytjplkbeolakbjaa.Bled2Sens
end
section
set_option linter.unusedVariables false
set_option linter.unusedSimpArgs false
set_option maxRecDepth 100000
namespace Go.Proofs.Ytjplkbeolakbjaa.Bled3Sens
open Go.Ev Go.Proofs.Ytjplkbeolakbjaa.FxSens Go.Proofs.Ytjplkbeolakbjaa.Out84Sens Go.Proofs.Ytjplkbeolakbjaa.ChkSens
open Go.Proofs.Ytjplkbeolakbjaa.Bleed1Sens (row row_len row_nth row_set row_congr qf qf_get qf_bd bS bQ p exD_bd exU_bd over_bd ex_then)
open Go.Proofs.Ytjplkbeolakbjaa.Bleed2Sens (cap cap_bd fil fil_0 fil_n fil_s pour_bd)
open Go.Proofs.Ytjplkbeolakbjaa.Bleed3Sens (loop_then bleedE bleedR lst row_lst sBl)
open Go.Proofs.Ytjplkbeolakbjaa.SizSens (missized sz sz_run wrong_zero sized_zero)
open Go.Pour (put pour take Held zero put_at put_ne pour_le act St act_le pour_none)
open Go.Bleed (dn up dn_step dn_end up_step up_zero over exD exU bledD bledU bleed act_none exD_nonneg exU_nonneg)
open Go.Proofs.Ytjplkbeolakbjaa.Bled2Sens (eSpill)
open Go.Proofs.Ytjplkbeolakbjaa.Bled1Sens (Path path_dn path_up G T G_ok T_ok look93 look94 look95 out b8 b11)
attribute [local go_sem] Ev.putR_s Ev.putR_0 Ev.thenO_s Ev.thenO_0 Ev.seqR_n Ev.seqR_e Ev.seqR_r Ev.seqR_0 Ev.blkR_e Ev.blkR_n Ev.blkR_r Ev.blkR_0 Ev.normR_s Ev.normR_0 Ev.outR_r Ev.outR_n Ev.outR_0 Ev.retS_s Ev.retS_0 Ev.pureO_s Ev.pureO_0 Ev.topR_0 Ev.topR_t Ev.topR_t0 Ev.oneL_0 Ev.oneL_s Ev.topR_d Ev.topR_nils Ev.topR_agg Ev.topR_rs Ev.evOp_move Ev.evOp_assign Ev.evOp_pick Ev.evOp_alloc Ev.evOp_box Ev.evOp_build Ev.evOp_buildSlice Ev.evOp_load Ev.evOp_store Ev.evOp_makeMap Ev.evOp_lookup Ev.evOp_mapUpdate Ev.evOp_insert Ev.evOp_nilCheck Ev.evOp_binOp Ev.evOp_unOp Ev.evOp_convert Ev.evOp_makeFunc Ev.evOp_makeSlice Ev.evOp_slice Ev.evOp_fieldAddr Ev.evOp_field Ev.evOp_indexAddr Ev.evOp_index Ev.evOp_extract Ev.evOp_call Ev.evOp_append Ev.evOp_len Ev.evOp_min Ev.evOp_max Ev.condR_b Ev.condR_t Ev.evOps_nil Ev.evOps_plain Ev.evOps_guard Ev.runG_eq Ev.skipG_eq Ev.condL_tt Ev.condL_ff Ev.condL_tf Ev.condL_ft Ev.condL_u Ev.condC_t Ev.condC_f Ev.evC_skip Ev.evC_ret Ev.evC_exit Ev.evC_label Ev.evC_region Ev.evC_draw Ev.evC_seq Ev.evC_cond Ev.evC_block Ev.evC_loop Ev.fin_d Ev.fin_nils Ev.fin_agg_ Ev.fin_rs Ev.finS_s Ev.mapO_fin Ev.upd_upd Ev.argv_d Ev.argv_nils Ev.argv_agg Ev.argv_rs Ev.argv_p Ev.appendTo_nils Ev.appendTo_rs Ev.consV_d Ev.consV_agg Ev.consV_p Ev.consV_rs Ev.consV_nils Ev.consV_fn Ev.consV_und Ev.consV_jk Ev.consV_grown Ev.topR_grown Ev.len_grown Ev.consV_mp Ev.sameK_i Ev.sameK_s Ev.mget_0 Ev.mget_hit Ev.mget_miss Ev.mput_0 Ev.mput_hit Ev.mput_miss Ev.apartAll Ev.apartL Ev.apartV Ev.freeAll Ev.sel Ev.keyOfV Ev.evLookup Ev.evPut Ev.hintOk Ev.keyOk Ev.consP Ev.lookV Ev.guardV Ev.dstAt Ev.evPure Ev.evStore Ev.evPureB Ev.evBin Ev.evBinO Ev.evNil Ev.isNilC Ev.evUn Ev.evConv Ev.evSlice Ev.optI Ev.lenV Ev.elemT Ev.foldI Ev.capsOk Ev.noTup Ev.nth Ev.setN Ev.pad Ev.V.get Ev.V.put Ev.putD Ev.hasT Ev.newBlk Ev.upd Ev.keq Ev.empty Ev.evCall Ev.V.args Ev.argP Ev.callOf Ev.evNilP Ev.isNilP Ev.look Ev.V.view.views Ev.V.view Ev.V.toD Ev.V.toD.V.toDs Ev.V.pure.pures Ev.V.pure Ev.D.flat.flats Ev.D.flat Ev.mkAgg Ev.allD Ev.aggParts Ev.setParts Ev.setElems Ev.getPath Ev.setPath Ev.subL Ev.eqD Ev.eqD.eqDs Ev.and2 Ev.strCut Ev.evalT Ev.constT Ev.evArgs Ev.mask Ev.maskOf Ev.tableOf Ev.compT Ev.resV Ev.retV Ev.mapO Ev.elemsOf Int.cast_ofNat_Int IntWalk.i64_in IntWalk.u64_in IntWalk.u8_in beq_self_eq_true Bool.true_beq Bool.false_beq Bool.and_true Bool.true_and Bool.false_and Bool.and_false Bool.and_self Bool.not_true Bool.not_false Bool.not_eq_true cond_true cond_false if_true if_false and_true true_and and_self decide_true decide_false Bool.or_true Bool.true_or Bool.or_false Bool.false_or List.isEmpty List.isEmpty_nil List.size_toArray List.map List.length_map List.length_cons List.length_nil Option.map Option.bind Option.getD Option.isSome List.replicate Bool.false_eq_true implies_true forall_const Array.toList Array.isEmpty List.append List.nil_append List.cons_append List.drop_zero List.take_length List.take_succ_cons List.take_zero List.take_nil List.getElem?_map List.getElem?_cons_zero List.getElem?_cons_succ List.getElem?_nil List.append_nil
attribute [local go_sem] FxSens.tk2 FxSens.ik2 FxSens.zv2 FxSens.tk3 FxSens.ik3 FxSens.zv3 FxSens.by3 FxSens.so3 FxSens.tk4 FxSens.ub4 FxSens.zv4 FxSens.tk22 FxSens.ik22 FxSens.zv22 FxSens.tk27 FxSens.ik27 FxSens.zv27 FxSens.by27 FxSens.so27 FxSens.tk32 FxSens.zv32 FxSens.tk36 FxSens.ik36 FxSens.zv36 FxSens.tk47 FxSens.ik47 FxSens.zv47 FxSens.by47 FxSens.so47 FxSens.tk54 FxSens.zv54 FxSens.tk56 FxSens.ct56 FxSens.zv56 FxSens.tk73 FxSens.zv73 FxSens.tk96 FxSens.ik96 FxSens.zv96 FxSens.tk97 FxSens.ct97 FxSens.zv97 FxSens.by97 FxSens.so97 FxSens.tk98 FxSens.zv98 FxSens.tk107 FxSens.zv107 FxSens.tk120 FxSens.zv120 FxSens.tk124 FxSens.zv124 FxSens.tk152 FxSens.zv152 FxSens.tk155 FxSens.zv155 FxSens.mk10_1000000 FxSens.mk15_1000000 FxSens.dw17_6 FxSens.nc17_6 FxSens.mk17_0 FxSens.mk17_1000001 FxSens.mk17_1000002 FxSens.mk17_1000000 FxSens.mk18_1000000 FxSens.mk19_1000000 FxSens.dw39_6 FxSens.nc39_6 FxSens.mk39_0 FxSens.mk39_1000001 FxSens.mk39_1000002 FxSens.mk39_1000000 FxSens.mk42_1000000 FxSens.mk43_1000001 FxSens.mk43_1000000 FxSens.mk44_0 FxSens.mk44_2 FxSens.mk44_1000001 FxSens.mk44_1000002 FxSens.mk44_1000003 FxSens.mk44_1000004 FxSens.mk44_1000000 FxSens.mk45_0 FxSens.mk45_2 FxSens.mk45_4 FxSens.mk45_1000001 FxSens.mk45_1000002 FxSens.mk45_1000003 FxSens.mk45_1000004 FxSens.mk45_1000005 FxSens.mk45_1000006 FxSens.mk45_1000000 FxSens.dw46_28 FxSens.nc46_28 FxSens.mk46_0 FxSens.mk46_2 FxSens.mk46_4 FxSens.mk46_1000001 FxSens.mk46_1000002 FxSens.mk46_1000003 FxSens.mk46_1000004 FxSens.mk46_1000005 FxSens.mk46_1000006 FxSens.mk46_1000000 FxSens.dw47_6 FxSens.nc47_6 FxSens.mk47_0 FxSens.mk47_1000001 FxSens.mk47_1000002 FxSens.mk47_1000000 FxSens.dw48_10 FxSens.nc48_10 FxSens.dw48_11 FxSens.nc48_11 FxSens.mk48_0 FxSens.mk48_1000001 FxSens.mk48_1000002 FxSens.mk48_1000000 FxSens.mk61_1000000 FxSens.mk83_1000000 FxSens.mk84_1000000 FxSens.mk85_1000000 FxSens.mk86_1000000 FxSens.mk87_1000000 FxSens.dw88_1 FxSens.nc88_1 FxSens.mk88_1000000 FxSens.dw89_5 FxSens.nc89_5 FxSens.mk89_0 FxSens.mk89_1000001 FxSens.mk89_1000002 FxSens.mk89_1000000 FxSens.mk90_1000000 FxSens.dw91_3 FxSens.nc91_3 FxSens.mk91_0 FxSens.mk91_1000001 FxSens.mk91_1000002 FxSens.mk91_1000000 FxSens.mk92_1000000 FxSens.mk93_1000000 FxSens.mk94_0 FxSens.mk94_1000001 FxSens.mk94_1000002 FxSens.mk94_1000000 FxSens.dw95_3 FxSens.nc95_3 FxSens.dw95_6 FxSens.nc95_6 FxSens.mk95_0 FxSens.mk95_1000001 FxSens.mk95_1000002 FxSens.mk95_1000000 FxSens.mk114_1000000 FxSens.mk115_1000000 FxSens.mk116_1000000 FxSens.mk117_1000000 FxSens.mk118_1000000 FxSens.mk119_1000000 FxSens.mk128_0 FxSens.mk128_1000001 FxSens.mk128_1000002 FxSens.mk128_1000000 FxSens.mk129_0 FxSens.mk129_1000001 FxSens.mk129_1000002 FxSens.mk129_1000000 FxSens.mk130_0 FxSens.mk130_1000001 FxSens.mk130_1000002 FxSens.mk130_1000000
theorem dn_len (w h x y : Nat) : (dn w h x y).length ≤ h := by simp [dn]
theorem up_len (w x y : Nat) : (up w x y).length = y := by simp [up]
abbrev X := Nat × St × Store
def fv : V := .fn 95 [p 3, p 2, p 8, p 11]
def Base (s : Sen) (q : List Int) (st : Store) : Prop := st (0, 2) = bS s ∧ st (0, 3) = bQ q ∧ st (0, 8) = b8 q.length
def Bd (full : Int) (k : Nat) (B : Int) (t : St) : Prop := (∀ i, 0 ≤ t.1 i ∧ t.1 i ≤ full) ∧ 0 ≤ t.2 ∧ t.2 ≤ B + k * 4294967296
/-! ### down -/
theorem bledD_s (full : Int) (q : Nat → Int) (w h k : Nat) (s : St) : bledD full q w h (k + 1) s = act full zero (dn w h (k % w) (k / w + 1)) (exD full q k) (bledD full q w h k s) := by
  unfold bledD
  rw [List.range_succ, List.foldl_append]; rfl
def hd2 (q : List Int) (i : Nat) : List V := hd46_2 (p 2) (p 3) (p 8) (p 11) fv (.d (.sl 27 (q.map (.int .i64)))) (.d (.int .i64 q.length)) (.d (.int .i64 i))
def J2 (s : Sen) (q : List Int) (w h : Nat) (t0 : St) (B : Int) (x : X) : Prop := x.1 ≤ q.length ∧ x.2.2 (0, 31) = ⟨1, 27, row q.length x.2.1.1, true⟩ ∧ x.2.2 (0, 11) = b11 x.2.1.2 ∧ Base s q x.2.2 ∧ Bd s.full x.1 B x.2.1 ∧ x.2.1 = bledD s.full (qf q) w h x.1 t0
def Q2 (s : Sen) (q : List Int) (w h : Nat) (t0 : St) (B : Int) (x : X) (o : Out) : Prop := ∃ st', o = some (.exit 2, hx46_2 (p 2) (p 3) (p 8) (p 11) fv, st') ∧ st' (0, 31) = ⟨1, 27, row q.length (bledD s.full (qf q) w h q.length t0).1, true⟩ ∧ st' (0, 11) = b11 (bledD s.full (qf q) w h q.length t0).2 ∧ Base s q st' ∧ Bd s.full q.length B (bledD s.full (qf q) w h q.length t0)
theorem loop2 (L c : Nat) (hL : 1024 < L) (s : Sen) (q : List Int) (w h : Nat) (t0 : St) (B : Int) (hB : 0 ≤ B ∧ B ≤ 4398046511104) (hq : outside q 4294967296 = false) (hf : 1 ≤ s.full ∧ s.full ≤ 1048576) (hl : q.length = w * h) (hl2 : q.length ≤ 1024) (hw : s.w = w) (hw2 : 1 ≤ w ∧ w ≤ 32) (hh2 : 1 ≤ h ∧ h ≤ 32) :
    ∀ (m : Nat) (x : X) (env : List V), J2 s q w h t0 B x → q.length - x.1 < m → mask (maskOf en46.ms 2) env = hd2 q x.1 →
      Q2 s q w h t0 B x (iter (evC Try.prog G (evF Try.prog G T L (c + 1)) L en46.ms 0 0 lb46_2) (maskOf en46.ms 2) m env x.2.2) := by
  refine iter_rel _ _ (J2 s q w h t0 B) (fun x => hd2 q x.1) (fun x => x.2.2) (Q2 s q w h t0 B) (fun x => q.length - x.1) ?_
  rintro ⟨k, ⟨held, lost⟩, st⟩ ⟨hx, q31, q11, ⟨q2, q3, q8⟩, ⟨hb, b0, b1⟩, qe⟩ kk hk
  simp only at hx q31 q11 q2 q3 q8 hb b0 b1 qe
  by_cases hin : k < q.length
  case neg =>
    obtain rfl : k = q.length := by omega
    have hlt : ¬ (q.length : Int) < q.length := by omega
    unfold Q2
    rw [← qe]
    refine ⟨st, ?_, q31, q11, ⟨q2, q3, q8⟩, hb, b0, b1⟩
    simp only [lb46_2, loopN, loops, hd2, fv, p, hd46_2, hx46_2, Try.f46, go_sem, Nat.reduceAdd, Nat.reduceSub, Nat.reduceMul, Nat.reduceEqDiff, Nat.reduceBEq, Nat.reduceLT, Nat.reduceLeDiff, Nat.reducePow, Int.reduceToNat, Int.reduceLT, Int.reduceLE, Int.reduceGT, Int.reduceGE, Int.reduceEq, Int.reduceNeg, Int.reduceAdd, Int.reduceSub, ↓reduceIte, reduceCtorEq, hlt]
  have hlt : (k : Int) < q.length := by omega
  have hw1 : IntKind.i64.wrap ((k : Int) + 1) = ((k + 1 : Nat) : Int) := by rw [IntWalk.i64_in _ (by omega)]; rfl
  have hD : s.D = .agg 56 [.int .i64 w, .int .i64 s.h, .sl 3 (s.b.map (.int .i64)), .sl 47 (s.d.map (.int .i64)), .sl 3 (s.f.map (.int .i64)), .int .i64 s.full, .int .i64 s.gain, .int .i64 s.noise] := by rw [← hw]; rfl
  have hk' := fun t st1 env a b c => (hk (k + 1, t, st1) env a b c : Q2 s q w h t0 B (k + 1, t, st1) _)
  have hQ : ∀ t st1 o, Q2 s q w h t0 B (k + 1, t, st1) o → Q2 s q w h t0 B (k, (held, lost), st) o := fun _ _ _ h => h
  have hbs := bledD_s s.full (qf q) w h k t0
  rw [← qe] at hbs
  have g0 : (0 : Int) ≤ (k : Int) := by omega
  have ht : ((k : Int)).toNat = k := by omega
  have hxg := qf_get hin
  have hqb := qf_bd hq k
  have hwp : 0 < w := by omega
  have hy : k / w < h := Nat.div_lt_of_lt_mul (by omega)
  have hxm := Nat.mod_lt k hwp
  have hdm : k / w * w + k % w = k := by rw [Nat.mul_comm]; exact Nat.div_add_mod k w
  have w1 : IntKind.i64.wrap (qf q k - s.full) = qf q k - s.full := IntWalk.i64_in _ (by omega)
  have hex := exD_bd hq hf.1 k
  have fin : ∀ st1 env, st1 (0, 31) = ⟨1, 27, row q.length (act s.full zero (dn w h (k % w) (k / w + 1)) (exD s.full (qf q) k) (held, lost)).1, true⟩ → st1 (0, 11) = b11 (act s.full zero (dn w h (k % w) (k / w + 1)) (exD s.full (qf q) k) (held, lost)).2 → Base s q st1 → Bd s.full (k + 1) B (act s.full zero (dn w h (k % w) (k / w + 1)) (exD s.full (qf q) k) (held, lost)) → mask (maskOf en46.ms 2) env = hd2 q (k + 1) → Q2 s q w h t0 B (k, (held, lost), st) (kk env st1) := by
    intro st1 env a b cc d e
    exact hQ _ _ _ (hk' (act s.full zero (dn w h (k % w) (k / w + 1)) (exD s.full (qf q) k) (held, lost)) st1 env ⟨by simp only; omega, a, b, cc, d, hbs.symm⟩ (by simp only; omega) e)
  by_cases c1 : qf q k - s.full > 0
  case neg =>
    have ho : over s.full (qf q) k = 0 := by unfold over; rw [if_pos (by omega)]
    have he : exD s.full (qf q) k = 0 := by unfold exD; rw [ho]; rfl
    rw [he, act_none fun i => (hb i).2] at fin
    simp only [lb46_2, loopN, loops, hd2, fv, p, hd46_2, Try.f46, go_sem, Nat.reduceAdd, Nat.reduceSub, Nat.reduceMul, Nat.reduceEqDiff, Nat.reduceBEq, Nat.reduceLT, Nat.reduceLeDiff, Nat.reducePow, Int.reduceToNat, Int.reduceLT, Int.reduceLE, Int.reduceGT, Int.reduceGE, Int.reduceEq, Int.reduceNeg, Int.reduceAdd, Int.reduceSub, ↓reduceIte, reduceCtorEq, hlt, g0, ht, hxg, q2, bS, hD, w1, c1, hw1]
    exact fin _ _ (by simp only [go_sem, Nat.reduceAdd, Nat.reduceSub, Nat.reduceMul, Nat.reduceEqDiff, Nat.reduceBEq, Nat.reduceLT, Nat.reduceLeDiff, Nat.reducePow, Int.reduceToNat, Int.reduceLT, Int.reduceLE, Int.reduceGT, Int.reduceGE, Int.reduceEq, Int.reduceNeg, Int.reduceAdd, Int.reduceSub, ↓reduceIte, reduceCtorEq, q31]) (by simp only [go_sem, Nat.reduceAdd, Nat.reduceSub, Nat.reduceMul, Nat.reduceEqDiff, Nat.reduceBEq, Nat.reduceLT, Nat.reduceLeDiff, Nat.reducePow, Int.reduceToNat, Int.reduceLT, Int.reduceLE, Int.reduceGT, Int.reduceGE, Int.reduceEq, Int.reduceNeg, Int.reduceAdd, Int.reduceSub, ↓reduceIte, reduceCtorEq, q11]) ⟨by simp only [go_sem, Nat.reduceAdd, Nat.reduceSub, Nat.reduceMul, Nat.reduceEqDiff, Nat.reduceBEq, Nat.reduceLT, Nat.reduceLeDiff, Nat.reducePow, Int.reduceToNat, Int.reduceLT, Int.reduceLE, Int.reduceGT, Int.reduceGE, Int.reduceEq, Int.reduceNeg, Int.reduceAdd, Int.reduceSub, ↓reduceIte, reduceCtorEq, q2], by simp only [go_sem, Nat.reduceAdd, Nat.reduceSub, Nat.reduceMul, Nat.reduceEqDiff, Nat.reduceBEq, Nat.reduceLT, Nat.reduceLeDiff, Nat.reducePow, Int.reduceToNat, Int.reduceLT, Int.reduceLE, Int.reduceGT, Int.reduceGE, Int.reduceEq, Int.reduceNeg, Int.reduceAdd, Int.reduceSub, ↓reduceIte, reduceCtorEq, q3], by simp only [go_sem, Nat.reduceAdd, Nat.reduceSub, Nat.reduceMul, Nat.reduceEqDiff, Nat.reduceBEq, Nat.reduceLT, Nat.reduceLeDiff, Nat.reducePow, Int.reduceToNat, Int.reduceLT, Int.reduceLE, Int.reduceGT, Int.reduceGE, Int.reduceEq, Int.reduceNeg, Int.reduceAdd, Int.reduceSub, ↓reduceIte, reduceCtorEq, q8]⟩ ⟨hb, b0, by simp only; omega⟩ (by simp only [hd2, fv, p, hd46_2, go_sem, Nat.reduceAdd, Nat.reduceSub, Nat.reduceMul, Nat.reduceEqDiff, Nat.reduceBEq, Nat.reduceLT, Nat.reduceLeDiff, Nat.reducePow, Int.reduceToNat, Int.reduceLT, Int.reduceLE, Int.reduceGT, Int.reduceGE, Int.reduceEq, Int.reduceNeg, Int.reduceAdd, Int.reduceSub, ↓reduceIte, reduceCtorEq, hw1])
  have ho : over s.full (qf q) k = qf q k - s.full := by unfold over; rw [if_neg (by omega)]
  have hn : (qf q k - s.full) - (qf q k - s.full).tdiv 2 = exD s.full (qf q) k := by unfold exD; rw [ho, Int.tdiv_eq_ediv_of_nonneg (by omega)]; omega
  have w2 : IntKind.i64.wrap ((qf q k - s.full).tdiv 2) = (qf q k - s.full).tdiv 2 := IntWalk.i64_in _ (by rw [Int.tdiv_eq_ediv_of_nonneg (by omega)]; omega)
  have w3 : IntKind.i64.wrap ((qf q k - s.full) - (qf q k - s.full).tdiv 2) = exD s.full (qf q) k := by rw [hn]; exact IntWalk.i64_in _ (by omega)
  have hpath : Path (w : Int) q.length (dn w h (k % w) (k / w + 1)) ((k : Int) + w) := by
    rw [hl]
    have := path_dn (w := w) (h := h) hxm (h - (k / w + 1)) (k / w + 1) (by omega)
    have e2 : (((k / w + 1) * w + k % w : Nat) : Int) = (k : Int) + w := by rw [Nat.add_mul, Nat.one_mul]; omega
    rw [e2] at this
    exact this
  obtain ⟨st1, e1, r31, r11, rF⟩ := eSpill L c 70 s q k (w : Int) (dn w h (k % w) (k / w + 1)) (exD s.full (qf q) k) lost held st q2 q3 q8 q11 q31 hf hl2 (by omega) hin hpath (by have := dn_len w h (k % w) (k / w + 1); omega) hb hex ⟨b0, by omega⟩
  obtain ⟨p1, p2, p3⟩ := pour_bd (B := 0) (fun i => ⟨Int.le_refl 0, Int.le_refl 0⟩) (dn w h (k % w) (k / w + 1)) (exD s.full (qf q) k) held hex.1 hb
  unfold p at e1
  have zz : (fun i => (0 : Int)) = zero := rfl
  simp only [lb46_2, loopN, loops, hd2, fv, p, hd46_2, Try.f46, go_sem, Nat.reduceAdd, Nat.reduceSub, Nat.reduceMul, Nat.reduceEqDiff, Nat.reduceBEq, Nat.reduceLT, Nat.reduceLeDiff, Nat.reducePow, Int.reduceToNat, Int.reduceLT, Int.reduceLE, Int.reduceGT, Int.reduceGE, Int.reduceEq, Int.reduceNeg, Int.reduceAdd, Int.reduceSub, ↓reduceIte, reduceCtorEq, look95, hlt, g0, ht, hxg, q2, bS, hD, w1, c1, w2, w3, e1, hw1]
  have r2 : st1 (0, 2) = bS s := by rw [rF 2 (by decide) (by decide)]; exact q2
  have r3 : st1 (0, 3) = bQ q := by rw [rF 3 (by decide) (by decide)]; exact q3
  have r8 : st1 (0, 8) = b8 q.length := by rw [rF 8 (by decide) (by decide)]; exact q8
  refine fin _ _ r31 r11 ⟨r2, r3, r8⟩ ⟨p1, ?_, ?_⟩ (by simp only [hd2, fv, p, hd46_2, go_sem, Nat.reduceAdd, Nat.reduceSub, Nat.reduceMul, Nat.reduceEqDiff, Nat.reduceBEq, Nat.reduceLT, Nat.reduceLeDiff, Nat.reducePow, Int.reduceToNat, Int.reduceLT, Int.reduceLE, Int.reduceGT, Int.reduceGE, Int.reduceEq, Int.reduceNeg, Int.reduceAdd, Int.reduceSub, ↓reduceIte, reduceCtorEq, hw1])
  · unfold act; simp only; exact Int.add_nonneg b0 p2
  · unfold act; simp only
    have p3' : (pour s.full zero (dn w h (k % w) (k / w + 1)) (exD s.full (qf q) k) held).2 ≤ 4294967296 := by
      have := p3
      rw [Int.mul_zero] at this
      exact Int.le_trans this (by omega)
    omega
/-! ### up -/
theorem bledU_s (full : Int) (q : Nat → Int) (w h k : Nat) (s : St) : bledU full q w (k + 1) s = act full zero (up w (k % w) (k / w)) (exU full q k) (bledU full q w k s) := by
  unfold bledU
  rw [List.range_succ, List.foldl_append]; rfl
def hd4 (q : List Int) (i : Nat) : List V := hd46_4 (p 2) (p 8) (p 11) fv (.d (.sl 27 (q.map (.int .i64)))) (.d (.int .i64 q.length)) (.d (.int .i64 i))
def J4 (s : Sen) (q : List Int) (w h : Nat) (t0 : St) (B : Int) (x : X) : Prop := x.1 ≤ q.length ∧ x.2.2 (0, 31) = ⟨1, 27, row q.length x.2.1.1, true⟩ ∧ x.2.2 (0, 11) = b11 x.2.1.2 ∧ Base s q x.2.2 ∧ Bd s.full x.1 B x.2.1 ∧ x.2.1 = bledU s.full (qf q) w x.1 t0
def Q4 (s : Sen) (q : List Int) (w h : Nat) (t0 : St) (B : Int) (x : X) (o : Out) : Prop := ∃ st', o = some (.exit 4, hx46_4 (p 8) (p 11), st') ∧ st' (0, 31) = ⟨1, 27, row q.length (bledU s.full (qf q) w q.length t0).1, true⟩ ∧ st' (0, 11) = b11 (bledU s.full (qf q) w q.length t0).2 ∧ Base s q st' ∧ Bd s.full q.length B (bledU s.full (qf q) w q.length t0)
theorem loop4 (L c : Nat) (hL : 1024 < L) (s : Sen) (q : List Int) (w h : Nat) (t0 : St) (B : Int) (hB : 0 ≤ B ∧ B ≤ 4398046511104) (hq : outside q 4294967296 = false) (hf : 1 ≤ s.full ∧ s.full ≤ 1048576) (hl : q.length = w * h) (hl2 : q.length ≤ 1024) (hw : s.w = w) (hw2 : 1 ≤ w ∧ w ≤ 32) (hh2 : 1 ≤ h ∧ h ≤ 32) :
    ∀ (m : Nat) (x : X) (env : List V), J4 s q w h t0 B x → q.length - x.1 < m → mask (maskOf en46.ms 4) env = hd4 q x.1 →
      Q4 s q w h t0 B x (iter (evC Try.prog G (evF Try.prog G T L (c + 1)) L en46.ms 0 0 lb46_4) (maskOf en46.ms 4) m env x.2.2) := by
  refine iter_rel _ _ (J4 s q w h t0 B) (fun x => hd4 q x.1) (fun x => x.2.2) (Q4 s q w h t0 B) (fun x => q.length - x.1) ?_
  rintro ⟨k, ⟨held, lost⟩, st⟩ ⟨hx, q31, q11, ⟨q2, q3, q8⟩, ⟨hb, b0, b1⟩, qe⟩ kk hk
  simp only at hx q31 q11 q2 q3 q8 hb b0 b1 qe
  by_cases hin : k < q.length
  case neg =>
    obtain rfl : k = q.length := by omega
    have hlt : ¬ (q.length : Int) < q.length := by omega
    unfold Q4
    rw [← qe]
    refine ⟨st, ?_, q31, q11, ⟨q2, q3, q8⟩, hb, b0, b1⟩
    simp only [lb46_4, loopN, loops, hd4, fv, p, hd46_4, hx46_4, Try.f46, go_sem, Nat.reduceAdd, Nat.reduceSub, Nat.reduceMul, Nat.reduceEqDiff, Nat.reduceBEq, Nat.reduceLT, Nat.reduceLeDiff, Nat.reducePow, Int.reduceToNat, Int.reduceLT, Int.reduceLE, Int.reduceGT, Int.reduceGE, Int.reduceEq, Int.reduceNeg, Int.reduceAdd, Int.reduceSub, ↓reduceIte, reduceCtorEq, hlt]
  have hlt : (k : Int) < q.length := by omega
  have hw1 : IntKind.i64.wrap ((k : Int) + 1) = ((k + 1 : Nat) : Int) := by rw [IntWalk.i64_in _ (by omega)]; rfl
  have hD : s.D = .agg 56 [.int .i64 w, .int .i64 s.h, .sl 3 (s.b.map (.int .i64)), .sl 47 (s.d.map (.int .i64)), .sl 3 (s.f.map (.int .i64)), .int .i64 s.full, .int .i64 s.gain, .int .i64 s.noise] := by rw [← hw]; rfl
  have hk' := fun t st1 env a b c => (hk (k + 1, t, st1) env a b c : Q4 s q w h t0 B (k + 1, t, st1) _)
  have hQ : ∀ t st1 o, Q4 s q w h t0 B (k + 1, t, st1) o → Q4 s q w h t0 B (k, (held, lost), st) o := fun _ _ _ h => h
  have hbs := bledU_s s.full (qf q) w h k t0
  rw [← qe] at hbs
  have g0 : (0 : Int) ≤ (k : Int) := by omega
  have ht : ((k : Int)).toNat = k := by omega
  have hxg := qf_get hin
  have hqb := qf_bd hq k
  have hwp : 0 < w := by omega
  have hy : k / w < h := Nat.div_lt_of_lt_mul (by omega)
  have hxm := Nat.mod_lt k hwp
  have hdm : k / w * w + k % w = k := by rw [Nat.mul_comm]; exact Nat.div_add_mod k w
  have w1 : IntKind.i64.wrap (qf q k - s.full) = qf q k - s.full := IntWalk.i64_in _ (by omega)
  have hex := exU_bd hq hf.1 k
  have fin : ∀ st1 env, st1 (0, 31) = ⟨1, 27, row q.length (act s.full zero (up w (k % w) (k / w)) (exU s.full (qf q) k) (held, lost)).1, true⟩ → st1 (0, 11) = b11 (act s.full zero (up w (k % w) (k / w)) (exU s.full (qf q) k) (held, lost)).2 → Base s q st1 → Bd s.full (k + 1) B (act s.full zero (up w (k % w) (k / w)) (exU s.full (qf q) k) (held, lost)) → mask (maskOf en46.ms 4) env = hd4 q (k + 1) → Q4 s q w h t0 B (k, (held, lost), st) (kk env st1) := by
    intro st1 env a b cc d e
    exact hQ _ _ _ (hk' (act s.full zero (up w (k % w) (k / w)) (exU s.full (qf q) k) (held, lost)) st1 env ⟨by simp only; omega, a, b, cc, d, hbs.symm⟩ (by simp only; omega) e)
  by_cases c1 : qf q k - s.full > 0
  case neg =>
    have ho : over s.full (qf q) k = 0 := by unfold over; rw [if_pos (by omega)]
    have he : exU s.full (qf q) k = 0 := by unfold exU; rw [ho]; rfl
    rw [he, act_none fun i => (hb i).2] at fin
    simp only [lb46_4, loopN, loops, hd4, fv, p, hd46_4, Try.f46, go_sem, Nat.reduceAdd, Nat.reduceSub, Nat.reduceMul, Nat.reduceEqDiff, Nat.reduceBEq, Nat.reduceLT, Nat.reduceLeDiff, Nat.reducePow, Int.reduceToNat, Int.reduceLT, Int.reduceLE, Int.reduceGT, Int.reduceGE, Int.reduceEq, Int.reduceNeg, Int.reduceAdd, Int.reduceSub, ↓reduceIte, reduceCtorEq, hlt, g0, ht, hxg, q2, bS, hD, w1, c1, hw1]
    exact fin _ _ (by simp only [go_sem, Nat.reduceAdd, Nat.reduceSub, Nat.reduceMul, Nat.reduceEqDiff, Nat.reduceBEq, Nat.reduceLT, Nat.reduceLeDiff, Nat.reducePow, Int.reduceToNat, Int.reduceLT, Int.reduceLE, Int.reduceGT, Int.reduceGE, Int.reduceEq, Int.reduceNeg, Int.reduceAdd, Int.reduceSub, ↓reduceIte, reduceCtorEq, q31]) (by simp only [go_sem, Nat.reduceAdd, Nat.reduceSub, Nat.reduceMul, Nat.reduceEqDiff, Nat.reduceBEq, Nat.reduceLT, Nat.reduceLeDiff, Nat.reducePow, Int.reduceToNat, Int.reduceLT, Int.reduceLE, Int.reduceGT, Int.reduceGE, Int.reduceEq, Int.reduceNeg, Int.reduceAdd, Int.reduceSub, ↓reduceIte, reduceCtorEq, q11]) ⟨by simp only [go_sem, Nat.reduceAdd, Nat.reduceSub, Nat.reduceMul, Nat.reduceEqDiff, Nat.reduceBEq, Nat.reduceLT, Nat.reduceLeDiff, Nat.reducePow, Int.reduceToNat, Int.reduceLT, Int.reduceLE, Int.reduceGT, Int.reduceGE, Int.reduceEq, Int.reduceNeg, Int.reduceAdd, Int.reduceSub, ↓reduceIte, reduceCtorEq, q2], by simp only [go_sem, Nat.reduceAdd, Nat.reduceSub, Nat.reduceMul, Nat.reduceEqDiff, Nat.reduceBEq, Nat.reduceLT, Nat.reduceLeDiff, Nat.reducePow, Int.reduceToNat, Int.reduceLT, Int.reduceLE, Int.reduceGT, Int.reduceGE, Int.reduceEq, Int.reduceNeg, Int.reduceAdd, Int.reduceSub, ↓reduceIte, reduceCtorEq, q3], by simp only [go_sem, Nat.reduceAdd, Nat.reduceSub, Nat.reduceMul, Nat.reduceEqDiff, Nat.reduceBEq, Nat.reduceLT, Nat.reduceLeDiff, Nat.reducePow, Int.reduceToNat, Int.reduceLT, Int.reduceLE, Int.reduceGT, Int.reduceGE, Int.reduceEq, Int.reduceNeg, Int.reduceAdd, Int.reduceSub, ↓reduceIte, reduceCtorEq, q8]⟩ ⟨hb, b0, by simp only; omega⟩ (by simp only [hd4, fv, p, hd46_4, go_sem, Nat.reduceAdd, Nat.reduceSub, Nat.reduceMul, Nat.reduceEqDiff, Nat.reduceBEq, Nat.reduceLT, Nat.reduceLeDiff, Nat.reducePow, Int.reduceToNat, Int.reduceLT, Int.reduceLE, Int.reduceGT, Int.reduceGE, Int.reduceEq, Int.reduceNeg, Int.reduceAdd, Int.reduceSub, ↓reduceIte, reduceCtorEq, hw1])
  have ho : over s.full (qf q) k = qf q k - s.full := by unfold over; rw [if_neg (by omega)]
  have hn : (qf q k - s.full).tdiv 2 = exU s.full (qf q) k := by unfold exU; rw [ho, Int.tdiv_eq_ediv_of_nonneg (by omega)]
  have w2 : IntKind.i64.wrap ((qf q k - s.full).tdiv 2) = exU s.full (qf q) k := by rw [hn]; exact IntWalk.i64_in _ (by omega)
  have w3 : IntKind.i64.wrap (0 - (w : Int)) = -(w : Int) := by rw [Int.zero_sub]; exact IntWalk.i64_in _ (by omega)
  have hpath : Path (-(w : Int)) q.length (up w (k % w) (k / w)) ((k : Int) + -(w : Int)) := by
    rw [hl]
    have := path_up (w := w) (h := h) hxm (k / w) (by omega)
    have e2 : ((k / w * w + k % w : Nat) : Int) - w = (k : Int) + -(w : Int) := by omega
    rw [e2] at this
    exact this
  obtain ⟨st1, e1, r31, r11, rF⟩ := eSpill L c 92 s q k (-(w : Int)) (up w (k % w) (k / w)) (exU s.full (qf q) k) lost held st q2 q3 q8 q11 q31 hf hl2 (by omega) hin hpath (by have := up_len w (k % w) (k / w); omega) hb hex ⟨b0, by omega⟩
  obtain ⟨p1, p2, p3⟩ := pour_bd (B := 0) (fun i => ⟨Int.le_refl 0, Int.le_refl 0⟩) (up w (k % w) (k / w)) (exU s.full (qf q) k) held hex.1 hb
  unfold p at e1
  have zz : (fun i => (0 : Int)) = zero := rfl
  simp only [lb46_4, loopN, loops, hd4, fv, p, hd46_4, Try.f46, go_sem, Nat.reduceAdd, Nat.reduceSub, Nat.reduceMul, Nat.reduceEqDiff, Nat.reduceBEq, Nat.reduceLT, Nat.reduceLeDiff, Nat.reducePow, Int.reduceToNat, Int.reduceLT, Int.reduceLE, Int.reduceGT, Int.reduceGE, Int.reduceEq, Int.reduceNeg, Int.reduceAdd, Int.reduceSub, ↓reduceIte, reduceCtorEq, look95, hlt, g0, ht, hxg, q2, bS, hD, w1, c1, w2, w3, e1, hw1]
  have r2 : st1 (0, 2) = bS s := by rw [rF 2 (by decide) (by decide)]; exact q2
  have r3 : st1 (0, 3) = bQ q := by rw [rF 3 (by decide) (by decide)]; exact q3
  have r8 : st1 (0, 8) = b8 q.length := by rw [rF 8 (by decide) (by decide)]; exact q8
  refine fin _ _ r31 r11 ⟨r2, r3, r8⟩ ⟨p1, ?_, ?_⟩ (by simp only [hd4, fv, p, hd46_4, go_sem, Nat.reduceAdd, Nat.reduceSub, Nat.reduceMul, Nat.reduceEqDiff, Nat.reduceBEq, Nat.reduceLT, Nat.reduceLeDiff, Nat.reducePow, Int.reduceToNat, Int.reduceLT, Int.reduceLE, Int.reduceGT, Int.reduceGE, Int.reduceEq, Int.reduceNeg, Int.reduceAdd, Int.reduceSub, ↓reduceIte, reduceCtorEq, hw1])
  · unfold act; simp only; exact Int.add_nonneg b0 p2
  · unfold act; simp only
    have p3' : (pour s.full zero (up w (k % w) (k / w)) (exU s.full (qf q) k) held).2 ≤ 4294967296 := by
      have := p3
      rw [Int.mul_zero] at this
      exact Int.le_trans this (by omega)
    omega
end Go.Proofs.Ytjplkbeolakbjaa.Bled3Sens
end
section
set_option linter.unusedVariables false
set_option linter.unusedSimpArgs false
set_option maxRecDepth 100000
namespace Go.Proofs.Ytjplkbeolakbjaa.Bled4Sens
open Go.Ev Go.Proofs.Ytjplkbeolakbjaa.FxSens Go.Proofs.Ytjplkbeolakbjaa.Out84Sens Go.Proofs.Ytjplkbeolakbjaa.ChkSens
open Go.Proofs.Ytjplkbeolakbjaa.Bleed1Sens (row row_len qf bS bQ p)
open Go.Proofs.Ytjplkbeolakbjaa.Bleed2Sens (cap cap_bd fil fil_0)
open Go.Proofs.Ytjplkbeolakbjaa.Bleed3Sens (loop_then bleedE bleedR lst row_lst sBl)
open Go.Proofs.Ytjplkbeolakbjaa.SizSens (missized sz sz_run wrong_zero sized_zero)
open Go.Bleed (bledD bledU bleed same)
open Go.Proofs.Ytjplkbeolakbjaa.Bled1Sens (G T G_ok T_ok look93 look94 out b8 b11)
open Go.Proofs.Ytjplkbeolakbjaa.Bled2Sens (hd0 Q0 loop0)
open Go.Proofs.Ytjplkbeolakbjaa.Bled3Sens (fv hd2 hd4 Q2 Q4 loop2 loop4 Base Bd)
attribute [local go_sem] Ev.putR_s Ev.putR_0 Ev.thenO_s Ev.thenO_0 Ev.seqR_n Ev.seqR_e Ev.seqR_r Ev.seqR_0 Ev.blkR_e Ev.blkR_n Ev.blkR_r Ev.blkR_0 Ev.normR_s Ev.normR_0 Ev.outR_r Ev.outR_n Ev.outR_0 Ev.retS_s Ev.retS_0 Ev.pureO_s Ev.pureO_0 Ev.topR_0 Ev.topR_t Ev.topR_t0 Ev.oneL_0 Ev.oneL_s Ev.topR_d Ev.topR_nils Ev.topR_agg Ev.topR_rs Ev.evOp_move Ev.evOp_assign Ev.evOp_pick Ev.evOp_alloc Ev.evOp_box Ev.evOp_build Ev.evOp_buildSlice Ev.evOp_load Ev.evOp_store Ev.evOp_makeMap Ev.evOp_lookup Ev.evOp_mapUpdate Ev.evOp_insert Ev.evOp_nilCheck Ev.evOp_binOp Ev.evOp_unOp Ev.evOp_convert Ev.evOp_makeFunc Ev.evOp_makeSlice Ev.evOp_slice Ev.evOp_fieldAddr Ev.evOp_field Ev.evOp_indexAddr Ev.evOp_index Ev.evOp_extract Ev.evOp_call Ev.evOp_append Ev.evOp_len Ev.evOp_min Ev.evOp_max Ev.condR_b Ev.condR_t Ev.evOps_nil Ev.evOps_plain Ev.evOps_guard Ev.runG_eq Ev.skipG_eq Ev.condL_tt Ev.condL_ff Ev.condL_tf Ev.condL_ft Ev.condL_u Ev.condC_t Ev.condC_f Ev.evC_skip Ev.evC_ret Ev.evC_exit Ev.evC_label Ev.evC_region Ev.evC_draw Ev.evC_seq Ev.evC_cond Ev.evC_block Ev.evC_loop Ev.fin_d Ev.fin_nils Ev.fin_agg_ Ev.fin_rs Ev.finS_s Ev.mapO_fin Ev.upd_upd Ev.argv_d Ev.argv_nils Ev.argv_agg Ev.argv_rs Ev.argv_p Ev.appendTo_nils Ev.appendTo_rs Ev.consV_d Ev.consV_agg Ev.consV_p Ev.consV_rs Ev.consV_nils Ev.consV_fn Ev.consV_und Ev.consV_jk Ev.consV_grown Ev.topR_grown Ev.len_grown Ev.consV_mp Ev.sameK_i Ev.sameK_s Ev.mget_0 Ev.mget_hit Ev.mget_miss Ev.mput_0 Ev.mput_hit Ev.mput_miss Ev.apartAll Ev.apartL Ev.apartV Ev.freeAll Ev.sel Ev.keyOfV Ev.evLookup Ev.evPut Ev.hintOk Ev.keyOk Ev.consP Ev.lookV Ev.guardV Ev.dstAt Ev.evPure Ev.evStore Ev.evPureB Ev.evBin Ev.evBinO Ev.evNil Ev.isNilC Ev.evUn Ev.evConv Ev.evSlice Ev.optI Ev.lenV Ev.elemT Ev.foldI Ev.capsOk Ev.noTup Ev.nth Ev.setN Ev.pad Ev.V.get Ev.V.put Ev.putD Ev.hasT Ev.newBlk Ev.upd Ev.keq Ev.empty Ev.evCall Ev.V.args Ev.argP Ev.callOf Ev.evNilP Ev.isNilP Ev.look Ev.V.view.views Ev.V.view Ev.V.toD Ev.V.toD.V.toDs Ev.V.pure.pures Ev.V.pure Ev.D.flat.flats Ev.D.flat Ev.mkAgg Ev.allD Ev.aggParts Ev.setParts Ev.setElems Ev.getPath Ev.setPath Ev.subL Ev.eqD Ev.eqD.eqDs Ev.and2 Ev.strCut Ev.evalT Ev.constT Ev.evArgs Ev.mask Ev.maskOf Ev.tableOf Ev.compT Ev.resV Ev.retV Ev.mapO Ev.elemsOf Int.cast_ofNat_Int IntWalk.i64_in IntWalk.u64_in IntWalk.u8_in beq_self_eq_true Bool.true_beq Bool.false_beq Bool.and_true Bool.true_and Bool.false_and Bool.and_false Bool.and_self Bool.not_true Bool.not_false Bool.not_eq_true cond_true cond_false if_true if_false and_true true_and and_self decide_true decide_false Bool.or_true Bool.true_or Bool.or_false Bool.false_or List.isEmpty List.isEmpty_nil List.size_toArray List.map List.length_map List.length_cons List.length_nil Option.map Option.bind Option.getD Option.isSome List.replicate Bool.false_eq_true implies_true forall_const Array.toList Array.isEmpty List.append List.nil_append List.cons_append List.drop_zero List.take_length List.take_succ_cons List.take_zero List.take_nil List.getElem?_map List.getElem?_cons_zero List.getElem?_cons_succ List.getElem?_nil List.append_nil
attribute [local go_sem] FxSens.tk2 FxSens.ik2 FxSens.zv2 FxSens.tk3 FxSens.ik3 FxSens.zv3 FxSens.by3 FxSens.so3 FxSens.tk4 FxSens.ub4 FxSens.zv4 FxSens.tk22 FxSens.ik22 FxSens.zv22 FxSens.tk27 FxSens.ik27 FxSens.zv27 FxSens.by27 FxSens.so27 FxSens.tk32 FxSens.zv32 FxSens.tk36 FxSens.ik36 FxSens.zv36 FxSens.tk47 FxSens.ik47 FxSens.zv47 FxSens.by47 FxSens.so47 FxSens.tk54 FxSens.zv54 FxSens.tk56 FxSens.ct56 FxSens.zv56 FxSens.tk73 FxSens.zv73 FxSens.tk96 FxSens.ik96 FxSens.zv96 FxSens.tk97 FxSens.ct97 FxSens.zv97 FxSens.by97 FxSens.so97 FxSens.tk98 FxSens.zv98 FxSens.tk107 FxSens.zv107 FxSens.tk120 FxSens.zv120 FxSens.tk124 FxSens.zv124 FxSens.tk152 FxSens.zv152 FxSens.tk155 FxSens.zv155 FxSens.mk10_1000000 FxSens.mk15_1000000 FxSens.dw17_6 FxSens.nc17_6 FxSens.mk17_0 FxSens.mk17_1000001 FxSens.mk17_1000002 FxSens.mk17_1000000 FxSens.mk18_1000000 FxSens.mk19_1000000 FxSens.dw39_6 FxSens.nc39_6 FxSens.mk39_0 FxSens.mk39_1000001 FxSens.mk39_1000002 FxSens.mk39_1000000 FxSens.mk42_1000000 FxSens.mk43_1000001 FxSens.mk43_1000000 FxSens.mk44_0 FxSens.mk44_2 FxSens.mk44_1000001 FxSens.mk44_1000002 FxSens.mk44_1000003 FxSens.mk44_1000004 FxSens.mk44_1000000 FxSens.mk45_0 FxSens.mk45_2 FxSens.mk45_4 FxSens.mk45_1000001 FxSens.mk45_1000002 FxSens.mk45_1000003 FxSens.mk45_1000004 FxSens.mk45_1000005 FxSens.mk45_1000006 FxSens.mk45_1000000 FxSens.dw46_28 FxSens.nc46_28 FxSens.mk46_0 FxSens.mk46_2 FxSens.mk46_4 FxSens.mk46_1000001 FxSens.mk46_1000002 FxSens.mk46_1000003 FxSens.mk46_1000004 FxSens.mk46_1000005 FxSens.mk46_1000006 FxSens.mk46_1000000 FxSens.dw47_6 FxSens.nc47_6 FxSens.mk47_0 FxSens.mk47_1000001 FxSens.mk47_1000002 FxSens.mk47_1000000 FxSens.dw48_10 FxSens.nc48_10 FxSens.dw48_11 FxSens.nc48_11 FxSens.mk48_0 FxSens.mk48_1000001 FxSens.mk48_1000002 FxSens.mk48_1000000 FxSens.mk61_1000000 FxSens.mk83_1000000 FxSens.mk84_1000000 FxSens.mk85_1000000 FxSens.mk86_1000000 FxSens.mk87_1000000 FxSens.dw88_1 FxSens.nc88_1 FxSens.mk88_1000000 FxSens.dw89_5 FxSens.nc89_5 FxSens.mk89_0 FxSens.mk89_1000001 FxSens.mk89_1000002 FxSens.mk89_1000000 FxSens.mk90_1000000 FxSens.dw91_3 FxSens.nc91_3 FxSens.mk91_0 FxSens.mk91_1000001 FxSens.mk91_1000002 FxSens.mk91_1000000 FxSens.mk92_1000000 FxSens.mk93_1000000 FxSens.mk94_0 FxSens.mk94_1000001 FxSens.mk94_1000002 FxSens.mk94_1000000 FxSens.dw95_3 FxSens.nc95_3 FxSens.dw95_6 FxSens.nc95_6 FxSens.mk95_0 FxSens.mk95_1000001 FxSens.mk95_1000002 FxSens.mk95_1000000 FxSens.mk114_1000000 FxSens.mk115_1000000 FxSens.mk116_1000000 FxSens.mk117_1000000 FxSens.mk118_1000000 FxSens.mk119_1000000 FxSens.mk128_0 FxSens.mk128_1000001 FxSens.mk128_1000002 FxSens.mk128_1000000 FxSens.mk129_0 FxSens.mk129_1000001 FxSens.mk129_1000002 FxSens.mk129_1000000 FxSens.mk130_0 FxSens.mk130_1000001 FxSens.mk130_1000002 FxSens.mk130_1000000
theorem e (s : Sen) (q : List Int) (hl : q.length * 8 ≤ 140737488351232) : ∃ L c, evTop Try.prog G T L c 46 [s.D, .sl 27 (q.map (.int .i64))] = some [.sl 27 ((bleedE s q).1.map (.int .i64)), .int .i64 (bleedE s q).2.1, .int .i64 (bleedE s q).2.2] := by
  refine ⟨q.length + 1025, 2, ?_⟩
  have hD : s.D = .agg 56 [.int .i64 s.w, .int .i64 s.h, .sl 3 (s.b.map (.int .i64)), .sl 47 (s.d.map (.int .i64)), .sl 3 (s.f.map (.int .i64)), .int .i64 s.full, .int .i64 s.gain, .int .i64 s.noise] := rfl
  have ro := HldSens.s94_run q (by omega)
  have rz := sz_run s.w s.h s.b s.d s.f s.full s.gain s.noise q.length
  have es : (⟨s.w, s.h, s.b, s.d, s.f, s.full, s.gain, s.noise⟩ : Sen) = s := rfl
  rw [es] at rz
  rw [bleedE, hD]
  by_cases h1 : missized s q.length = 0
  case neg =>
    rw [if_pos h1]
    unfold evTop
    simp only [List.map]
    rw [evF_s (fn := Try.f46) (msk := en46.ms) (hT := by rfl) (hb := by rfl)]
    simp only [Try.f46, G, go_sem, Nat.reduceAdd, Nat.reduceSub, Nat.reduceMul, Nat.reduceEqDiff, Nat.reduceBEq, Nat.reduceLT, Nat.reduceLeDiff, Nat.reducePow, Int.reduceToNat, Int.reduceLT, Int.reduceLE, Int.reduceGT, Int.reduceGE, Int.reduceEq, Int.reduceNeg, Int.reduceAdd, Int.reduceSub, ↓reduceIte, reduceCtorEq, rz, h1]
  rw [if_neg (by simp [h1])]
  by_cases h2 : outside q 4294967296 = true
  · rw [if_pos h2]
    unfold evTop
    simp only [List.map]
    rw [evF_s (fn := Try.f46) (msk := en46.ms) (hT := by rfl) (hb := by rfl)]
    simp only [Try.f46, G, go_sem, Nat.reduceAdd, Nat.reduceSub, Nat.reduceMul, Nat.reduceEqDiff, Nat.reduceBEq, Nat.reduceLT, Nat.reduceLeDiff, Nat.reducePow, Int.reduceToNat, Int.reduceLT, Int.reduceLE, Int.reduceGT, Int.reduceGE, Int.reduceEq, Int.reduceNeg, Int.reduceAdd, Int.reduceSub, ↓reduceIte, reduceCtorEq, rz, h1, ro, h2]
  rw [if_neg h2]
  have h2' : outside q 4294967296 = false := by simpa using h2
  obtain ⟨z1, z2, z3, z4⟩ := sized_zero h1
  obtain ⟨y0, y2, y3, y4, y1, _, _, yf, yg, _⟩ := wrong_zero z1
  have hm8 : q.length * 8 ≤ maxRow := by unfold maxRow; omega
  have hm1 : q.length ≤ maxRow := by unfold maxRow; omega
  have hm0 : (0 : Int) ≤ q.length := by omega
  obtain ⟨w, hw⟩ : ∃ w : Nat, s.w = w := ⟨s.w.toNat, by omega⟩
  obtain ⟨h, hh⟩ : ∃ h : Nat, s.h = h := ⟨s.h.toNat, by omega⟩
  have tw : s.w.toNat = w := by omega
  have th : s.h.toNat = h := by omega
  have hlen : q.length = w * h := by rw [hw, hh, ← Int.natCast_mul] at z2; omega
  unfold bleedR
  rw [tw, th]
  have hcb := cap_bd h2' yf
  have hsame := same (full := s.full) (qf q) w h (cap s.full q, 0) (fun i => (hcb i).2)
  rw [← hlen] at hsame
  rw [← hsame]
  have hf0 := fil_0 s.full q q.length
  unfold evTop
  simp only [List.map]
  rw [evF_s (fn := Try.f46) (msk := en46.ms) (hT := by rfl) (hb := by rfl)]
  simp only [Try.f46, go_sem, Nat.reduceAdd, Nat.reduceSub, Nat.reduceMul, Nat.reduceEqDiff, Nat.reduceBEq, Nat.reduceLT, Nat.reduceLeDiff, Nat.reducePow, Int.reduceToNat, Int.reduceLT, Int.reduceLE, Int.reduceGT, Int.reduceGE, Int.reduceEq, Int.reduceNeg, Int.reduceAdd, Int.reduceSub, ↓reduceIte, reduceCtorEq, look93, look94, sz_run, rz, h1, ro, h2', Int.toNat_natCast, hm8, hm1, hm0, Int.le_refl, ← hf0]
  refine loop_then (R := Q0 s.full q _ (0, _)) (loop0 _ _ s q _ ?_ ?_ (by omega) _ (0, _) _ ⟨by simp only; omega, by simp only [go_sem, Nat.reduceAdd, Nat.reduceSub, Nat.reduceMul, Nat.reduceEqDiff, Nat.reduceBEq, Nat.reduceLT, Nat.reduceLeDiff, Nat.reducePow, Int.reduceToNat, Int.reduceLT, Int.reduceLE, Int.reduceGT, Int.reduceGE, Int.reduceEq, Int.reduceNeg, Int.reduceAdd, Int.reduceSub, ↓reduceIte, reduceCtorEq], fun d hd => rfl⟩ (by simp only; omega) (by simp only [hd0, p, hd46_0, go_sem, Nat.reduceAdd, Nat.reduceSub, Nat.reduceMul, Nat.reduceEqDiff, Nat.reduceBEq, Nat.reduceLT, Nat.reduceLeDiff, Nat.reducePow, Int.reduceToNat, Int.reduceLT, Int.reduceLE, Int.reduceGT, Int.reduceGE, Int.reduceEq, Int.reduceNeg, Int.reduceAdd, Int.reduceSub, ↓reduceIte, reduceCtorEq])) ?_
  · simp only [go_sem, Nat.reduceAdd, Nat.reduceSub, Nat.reduceMul, Nat.reduceEqDiff, Nat.reduceBEq, Nat.reduceLT, Nat.reduceLeDiff, Nat.reducePow, Int.reduceToNat, Int.reduceLT, Int.reduceLE, Int.reduceGT, Int.reduceGE, Int.reduceEq, Int.reduceNeg, Int.reduceAdd, Int.reduceSub, ↓reduceIte, reduceCtorEq, bS, hD]
  · simp only [go_sem, Nat.reduceAdd, Nat.reduceSub, Nat.reduceMul, Nat.reduceEqDiff, Nat.reduceBEq, Nat.reduceLT, Nat.reduceLeDiff, Nat.reducePow, Int.reduceToNat, Int.reduceLT, Int.reduceLE, Int.reduceGT, Int.reduceGE, Int.reduceEq, Int.reduceNeg, Int.reduceAdd, Int.reduceSub, ↓reduceIte, reduceCtorEq, b8, out]
  rintro o ⟨st1, rfl, r31, rF⟩
  have r2 : st1 (0, 2) = bS s := by rw [rF 2 (by decide)]; simp only [go_sem, Nat.reduceAdd, Nat.reduceSub, Nat.reduceMul, Nat.reduceEqDiff, Nat.reduceBEq, Nat.reduceLT, Nat.reduceLeDiff, Nat.reducePow, Int.reduceToNat, Int.reduceLT, Int.reduceLE, Int.reduceGT, Int.reduceGE, Int.reduceEq, Int.reduceNeg, Int.reduceAdd, Int.reduceSub, ↓reduceIte, reduceCtorEq, bS, hD]
  have r3 : st1 (0, 3) = bQ q := by rw [rF 3 (by decide)]; simp only [go_sem, Nat.reduceAdd, Nat.reduceSub, Nat.reduceMul, Nat.reduceEqDiff, Nat.reduceBEq, Nat.reduceLT, Nat.reduceLeDiff, Nat.reducePow, Int.reduceToNat, Int.reduceLT, Int.reduceLE, Int.reduceGT, Int.reduceGE, Int.reduceEq, Int.reduceNeg, Int.reduceAdd, Int.reduceSub, ↓reduceIte, reduceCtorEq, bQ]
  have r8 : st1 (0, 8) = b8 q.length := by rw [rF 8 (by decide)]; simp only [go_sem, Nat.reduceAdd, Nat.reduceSub, Nat.reduceMul, Nat.reduceEqDiff, Nat.reduceBEq, Nat.reduceLT, Nat.reduceLeDiff, Nat.reducePow, Int.reduceToNat, Int.reduceLT, Int.reduceLE, Int.reduceGT, Int.reduceGE, Int.reduceEq, Int.reduceNeg, Int.reduceAdd, Int.reduceSub, ↓reduceIte, reduceCtorEq, b8, out]
  have r11 : (st1 (0, 11)).ver = 0 := by rw [rF 11 (by decide)]; simp only [go_sem, Nat.reduceAdd, Nat.reduceSub, Nat.reduceMul, Nat.reduceEqDiff, Nat.reduceBEq, Nat.reduceLT, Nat.reduceLeDiff, Nat.reducePow, Int.reduceToNat, Int.reduceLT, Int.reduceLE, Int.reduceGT, Int.reduceGE, Int.reduceEq, Int.reduceNeg, Int.reduceAdd, Int.reduceSub, ↓reduceIte, reduceCtorEq]
  simp only [hx46_0, p, go_sem, Nat.reduceAdd, Nat.reduceSub, Nat.reduceMul, Nat.reduceEqDiff, Nat.reduceBEq, Nat.reduceLT, Nat.reduceLeDiff, Nat.reducePow, Int.reduceToNat, Int.reduceLT, Int.reduceLE, Int.reduceGT, Int.reduceGE, Int.reduceEq, Int.reduceNeg, Int.reduceAdd, Int.reduceSub, ↓reduceIte, reduceCtorEq, r3, bQ, r11]
  refine loop_then (R := Q2 s q w h (cap s.full q, 0) 0 (0, (cap s.full q, 0), _)) (loop2 _ 0 (by omega) s q w h (cap s.full q, 0) 0 ⟨by omega, by omega⟩ h2' ⟨yf, yg⟩ hlen (by omega) hw ⟨by omega, by omega⟩ ⟨by omega, by omega⟩ _ (0, (cap s.full q, 0), _) _ ⟨by simp only; omega, by simp only [go_sem, Nat.reduceAdd, Nat.reduceSub, Nat.reduceMul, Nat.reduceEqDiff, Nat.reduceBEq, Nat.reduceLT, Nat.reduceLeDiff, Nat.reducePow, Int.reduceToNat, Int.reduceLT, Int.reduceLE, Int.reduceGT, Int.reduceGE, Int.reduceEq, Int.reduceNeg, Int.reduceAdd, Int.reduceSub, ↓reduceIte, reduceCtorEq, r31], by simp only [go_sem, Nat.reduceAdd, Nat.reduceSub, Nat.reduceMul, Nat.reduceEqDiff, Nat.reduceBEq, Nat.reduceLT, Nat.reduceLeDiff, Nat.reducePow, Int.reduceToNat, Int.reduceLT, Int.reduceLE, Int.reduceGT, Int.reduceGE, Int.reduceEq, Int.reduceNeg, Int.reduceAdd, Int.reduceSub, ↓reduceIte, reduceCtorEq, b11], ⟨by simp only [go_sem, Nat.reduceAdd, Nat.reduceSub, Nat.reduceMul, Nat.reduceEqDiff, Nat.reduceBEq, Nat.reduceLT, Nat.reduceLeDiff, Nat.reducePow, Int.reduceToNat, Int.reduceLT, Int.reduceLE, Int.reduceGT, Int.reduceGE, Int.reduceEq, Int.reduceNeg, Int.reduceAdd, Int.reduceSub, ↓reduceIte, reduceCtorEq, r2], by simp only [go_sem, Nat.reduceAdd, Nat.reduceSub, Nat.reduceMul, Nat.reduceEqDiff, Nat.reduceBEq, Nat.reduceLT, Nat.reduceLeDiff, Nat.reducePow, Int.reduceToNat, Int.reduceLT, Int.reduceLE, Int.reduceGT, Int.reduceGE, Int.reduceEq, Int.reduceNeg, Int.reduceAdd, Int.reduceSub, ↓reduceIte, reduceCtorEq, r3, bQ], by simp only [go_sem, Nat.reduceAdd, Nat.reduceSub, Nat.reduceMul, Nat.reduceEqDiff, Nat.reduceBEq, Nat.reduceLT, Nat.reduceLeDiff, Nat.reducePow, Int.reduceToNat, Int.reduceLT, Int.reduceLE, Int.reduceGT, Int.reduceGE, Int.reduceEq, Int.reduceNeg, Int.reduceAdd, Int.reduceSub, ↓reduceIte, reduceCtorEq, r8]⟩, ⟨hcb, by simp only; omega, by simp only; omega⟩, rfl⟩ (by simp only; omega) (by simp only [hd2, fv, p, hd46_2, go_sem, Nat.reduceAdd, Nat.reduceSub, Nat.reduceMul, Nat.reduceEqDiff, Nat.reduceBEq, Nat.reduceLT, Nat.reduceLeDiff, Nat.reducePow, Int.reduceToNat, Int.reduceLT, Int.reduceLE, Int.reduceGT, Int.reduceGE, Int.reduceEq, Int.reduceNeg, Int.reduceAdd, Int.reduceSub, ↓reduceIte, reduceCtorEq])) ?_
  rintro o ⟨st2, rfl, s31, s11, ⟨s2, s3, s8⟩, d1, d2, d3⟩
  simp only [hx46_2, fv, p, go_sem, Nat.reduceAdd, Nat.reduceSub, Nat.reduceMul, Nat.reduceEqDiff, Nat.reduceBEq, Nat.reduceLT, Nat.reduceLeDiff, Nat.reducePow, Int.reduceToNat, Int.reduceLT, Int.reduceLE, Int.reduceGT, Int.reduceGE, Int.reduceEq, Int.reduceNeg, Int.reduceAdd, Int.reduceSub, ↓reduceIte, reduceCtorEq, s3, bQ]
  generalize bledD s.full (qf q) w h q.length (cap s.full q, 0) = t at *
  refine loop_then (R := Q4 s q w h t (q.length * 4294967296) (0, t, _)) (loop4 _ 0 (by omega) s q w h t (q.length * 4294967296) ⟨by omega, by omega⟩ h2' ⟨yf, yg⟩ hlen (by omega) hw ⟨by omega, by omega⟩ ⟨by omega, by omega⟩ _ (0, t, _) _ ⟨by simp only; omega, by simp only [go_sem, Nat.reduceAdd, Nat.reduceSub, Nat.reduceMul, Nat.reduceEqDiff, Nat.reduceBEq, Nat.reduceLT, Nat.reduceLeDiff, Nat.reducePow, Int.reduceToNat, Int.reduceLT, Int.reduceLE, Int.reduceGT, Int.reduceGE, Int.reduceEq, Int.reduceNeg, Int.reduceAdd, Int.reduceSub, ↓reduceIte, reduceCtorEq, s31], by simp only [go_sem, Nat.reduceAdd, Nat.reduceSub, Nat.reduceMul, Nat.reduceEqDiff, Nat.reduceBEq, Nat.reduceLT, Nat.reduceLeDiff, Nat.reducePow, Int.reduceToNat, Int.reduceLT, Int.reduceLE, Int.reduceGT, Int.reduceGE, Int.reduceEq, Int.reduceNeg, Int.reduceAdd, Int.reduceSub, ↓reduceIte, reduceCtorEq, s11], ⟨by simp only [go_sem, Nat.reduceAdd, Nat.reduceSub, Nat.reduceMul, Nat.reduceEqDiff, Nat.reduceBEq, Nat.reduceLT, Nat.reduceLeDiff, Nat.reducePow, Int.reduceToNat, Int.reduceLT, Int.reduceLE, Int.reduceGT, Int.reduceGE, Int.reduceEq, Int.reduceNeg, Int.reduceAdd, Int.reduceSub, ↓reduceIte, reduceCtorEq, s2], by simp only [go_sem, Nat.reduceAdd, Nat.reduceSub, Nat.reduceMul, Nat.reduceEqDiff, Nat.reduceBEq, Nat.reduceLT, Nat.reduceLeDiff, Nat.reducePow, Int.reduceToNat, Int.reduceLT, Int.reduceLE, Int.reduceGT, Int.reduceGE, Int.reduceEq, Int.reduceNeg, Int.reduceAdd, Int.reduceSub, ↓reduceIte, reduceCtorEq, s3, bQ], by simp only [go_sem, Nat.reduceAdd, Nat.reduceSub, Nat.reduceMul, Nat.reduceEqDiff, Nat.reduceBEq, Nat.reduceLT, Nat.reduceLeDiff, Nat.reducePow, Int.reduceToNat, Int.reduceLT, Int.reduceLE, Int.reduceGT, Int.reduceGE, Int.reduceEq, Int.reduceNeg, Int.reduceAdd, Int.reduceSub, ↓reduceIte, reduceCtorEq, s8]⟩, ⟨d1, d2, by simp only; omega⟩, rfl⟩ (by simp only; omega) (by simp only [hd4, fv, p, hd46_4, go_sem, Nat.reduceAdd, Nat.reduceSub, Nat.reduceMul, Nat.reduceEqDiff, Nat.reduceBEq, Nat.reduceLT, Nat.reduceLeDiff, Nat.reducePow, Int.reduceToNat, Int.reduceLT, Int.reduceLE, Int.reduceGT, Int.reduceGE, Int.reduceEq, Int.reduceNeg, Int.reduceAdd, Int.reduceSub, ↓reduceIte, reduceCtorEq])) ?_
  rintro o ⟨st3, rfl, v31, v11, ⟨v2, v3, v8⟩, _⟩
  rw [row_lst] at v31
  have hcl : ((lst q.length (bledU s.full (qf q) w q.length t).1).map fun x => V.d (.int .i64 x)).length = q.length := by simp [lst]
  have hct : ((lst q.length (bledU s.full (qf q) w q.length t).1).map fun x => V.d (.int .i64 x)).take q.length = (lst q.length (bledU s.full (qf q) w q.length t).1).map fun x => V.d (.int .i64 x) := List.take_of_length_le (by omega)
  simp only [hx46_4, p, go_sem, Nat.reduceAdd, Nat.reduceSub, Nat.reduceMul, Nat.reduceEqDiff, Nat.reduceBEq, Nat.reduceLT, Nat.reduceLeDiff, Nat.reducePow, Int.reduceToNat, Int.reduceLT, Int.reduceLE, Int.reduceGT, Int.reduceGE, Int.reduceEq, Int.reduceNeg, Int.reduceAdd, Int.reduceSub, ↓reduceIte, reduceCtorEq, v8, b8, out, v11, b11, v31, hcl, hct, Nat.zero_add, Nat.le_refl]
theorem bled_ok : SpecOk Try.prog 46 sBl := spec_of mixed G_ok T_ok fun x hp => e x.1 x.2 hp
#print axioms bled_ok
end Go.Proofs.Ytjplkbeolakbjaa.Bled4Sens
end
