/- The row of the law OpticsCentres: for every input the call returns true. Over the evaluator's contract of the law's function. No conditions. -/
import Derived.Test.YtmhjmjodchbhlaaRMOpticsCentres9
import Derived.Test.YtmhjmjodchbhlaaRRows
import Derived.WalkKit
import Derived.ProofKit
import Derived.OpenShut
import Derived.ShutString
import Derived.ChangeOld
import Derived.Below
import Derived.SizedLaws
import Derived.Carry
import Derived.WideShapes
import Derived.KernelRfl
section
set_option linter.unusedVariables false
set_option linter.unusedSimpArgs false
set_option maxRecDepth 100000
namespace Go.Proofs.YtmhjmjodchbhlaaR.Cen3Cen
open Go.Ev Go.Ari Go.Proofs.YtmhjmjodchbhlaaR.FxCen Go.Proofs.YtmhjmjodchbhlaaR.Frac1Cen Go.Proofs.YtmhjmjodchbhlaaR.Frac2Cen Go.Proofs.YtmhjmjodchbhlaaR.Frac3Cen Go.Proofs.YtmhjmjodchbhlaaR.MeanCen
open Go.Proofs.YtmhjmjodchbhlaaR.Cen1Cen (Spot spD cSpot cSpots bad errS sumS sumS_append sumS_take gA gX gY not_bad wgt cenR mul128_2 bF bI sCen loop_then)
open Go.Proofs.YtmhjmjodchbhlaaR.Cen2Cen
attribute [local go_sem] Ev.putR_s Ev.putR_0 Ev.thenO_s Ev.thenO_0 Ev.seqR_n Ev.seqR_e Ev.seqR_r Ev.seqR_0 Ev.blkR_e Ev.blkR_n Ev.blkR_r Ev.blkR_0 Ev.normR_s Ev.normR_0 Ev.outR_r Ev.outR_n Ev.outR_0 Ev.retS_s Ev.retS_0 Ev.pureO_s Ev.pureO_0 Ev.topR_0 Ev.topR_t Ev.topR_t0 Ev.oneL_0 Ev.oneL_s Ev.topR_d Ev.topR_nils Ev.topR_agg Ev.topR_rs Ev.evOp_move Ev.evOp_assign Ev.evOp_pick Ev.evOp_alloc Ev.evOp_box Ev.evOp_build Ev.evOp_buildSlice Ev.evOp_load Ev.evOp_store Ev.evOp_makeMap Ev.evOp_lookup Ev.evOp_mapUpdate Ev.evOp_insert Ev.evOp_nilCheck Ev.evOp_binOp Ev.evOp_unOp Ev.evOp_convert Ev.evOp_makeFunc Ev.evOp_makeSlice Ev.evOp_slice Ev.evOp_fieldAddr Ev.evOp_field Ev.evOp_indexAddr Ev.evOp_index Ev.evOp_extract Ev.evOp_call Ev.evOp_append Ev.evOp_len Ev.evOp_min Ev.evOp_max Ev.condR_b Ev.condR_t Ev.evOps_nil Ev.evOps_plain Ev.evOps_guard Ev.runG_eq Ev.skipG_eq Ev.condL_tt Ev.condL_ff Ev.condL_tf Ev.condL_ft Ev.condL_u Ev.condC_t Ev.condC_f Ev.evC_skip Ev.evC_ret Ev.evC_exit Ev.evC_label Ev.evC_region Ev.evC_draw Ev.evC_seq Ev.evC_cond Ev.evC_block Ev.evC_loop Ev.fin_d Ev.fin_nils Ev.fin_agg_ Ev.fin_rs Ev.finS_s Ev.mapO_fin Ev.upd_upd Ev.argv_d Ev.argv_nils Ev.argv_agg Ev.argv_rs Ev.argv_p Ev.appendTo_nils Ev.appendTo_rs Ev.consV_d Ev.consV_agg Ev.consV_p Ev.consV_rs Ev.consV_nils Ev.consV_fn Ev.consV_und Ev.consV_jk Ev.consV_grown Ev.topR_grown Ev.len_grown Ev.consV_mp Ev.sameK_i Ev.sameK_s Ev.mget_0 Ev.mget_hit Ev.mget_miss Ev.mput_0 Ev.mput_hit Ev.mput_miss Ev.apartAll Ev.apartL Ev.apartV Ev.freeAll Ev.sel Ev.keyOfV Ev.evLookup Ev.evPut Ev.hintOk Ev.keyOk Ev.consP Ev.lookV Ev.guardV Ev.dstAt Ev.evPure Ev.evStore Ev.evPureB Ev.evBin Ev.evBinO Ev.evNil Ev.isNilC Ev.evUn Ev.evConv Ev.evSlice Ev.optI Ev.lenV Ev.elemT Ev.foldI Ev.capsOk Ev.noTup Ev.nth Ev.setN Ev.pad Ev.V.get Ev.V.put Ev.putD Ev.hasT Ev.newBlk Ev.upd Ev.keq Ev.empty Ev.evCall Ev.V.args Ev.argP Ev.callOf Ev.evNilP Ev.isNilP Ev.look Ev.V.view.views Ev.V.view Ev.V.toD Ev.V.toD.V.toDs Ev.V.pure.pures Ev.V.pure Ev.D.flat.flats Ev.D.flat Ev.mkAgg Ev.allD Ev.aggParts Ev.setParts Ev.setElems Ev.getPath Ev.setPath Ev.subL Ev.eqD Ev.eqD.eqDs Ev.and2 Ev.strCut Ev.evalT Ev.constT Ev.evArgs Ev.mask Ev.maskOf Ev.tableOf Ev.compT Ev.resV Ev.retV Ev.mapO Ev.elemsOf Int.cast_ofNat_Int IntWalk.i64_in IntWalk.u64_in IntWalk.u8_in beq_self_eq_true Bool.true_beq Bool.false_beq Bool.and_true Bool.true_and Bool.false_and Bool.and_false Bool.and_self Bool.not_true Bool.not_false Bool.not_eq_true cond_true cond_false if_true if_false and_true true_and and_self decide_true decide_false Bool.or_true Bool.true_or Bool.or_false Bool.false_or List.isEmpty List.isEmpty_nil List.size_toArray List.map List.length_map List.length_cons List.length_nil Option.map Option.bind Option.getD Option.isSome List.replicate Bool.false_eq_true implies_true forall_const Array.toList Array.isEmpty List.append List.nil_append List.cons_append List.drop_zero List.take_length List.take_succ_cons List.take_zero List.take_nil List.getElem?_map List.getElem?_cons_zero List.getElem?_cons_succ List.getElem?_nil List.append_nil
attribute [local go_sem] FxCen.tk2 FxCen.ik2 FxCen.ek2 FxCen.zv2 FxCen.tk3 FxCen.ik3 FxCen.ek3 FxCen.zv3 FxCen.tk4 FxCen.ub4 FxCen.zv4 FxCen.by4 FxCen.so4 FxCen.tk27 FxCen.ik27 FxCen.zv27 FxCen.by27 FxCen.so27 FxCen.tk31 FxCen.zv31 FxCen.tk33 FxCen.ct33 FxCen.ek33 FxCen.zv33 FxCen.tk56 FxCen.ik56 FxCen.zv56 FxCen.tk57 FxCen.zv57 FxCen.tk61 FxCen.ik61 FxCen.ek61 FxCen.zv61 FxCen.tk63 FxCen.ct63 FxCen.ek63 FxCen.zv63 FxCen.by63 FxCen.so63 FxCen.tk72 FxCen.ct72 FxCen.zv72 FxCen.by72 FxCen.so72 FxCen.tk92 FxCen.ik92 FxCen.zv92 FxCen.tk99 FxCen.zv99 FxCen.tk100 FxCen.zv100 FxCen.tk101 FxCen.zv101 FxCen.tk135 FxCen.ik135 FxCen.zv135 FxCen.tk150 FxCen.ct150 FxCen.zv150 FxCen.tk159 FxCen.zv159 FxCen.tk190 FxCen.zv190 FxCen.mk5_1000000 FxCen.dw19_18 FxCen.nc19_18 FxCen.dw19_19 FxCen.nc19_19 FxCen.mk19_0 FxCen.mk19_1000001 FxCen.mk19_1000002 FxCen.mk19_1000003 FxCen.mk19_1000000 FxCen.dw20_19 FxCen.nc20_19 FxCen.mk20_0 FxCen.mk20_1000001 FxCen.mk20_1000002 FxCen.mk20_1000000 FxCen.mk21_1000000 FxCen.dw32_7 FxCen.nc32_7 FxCen.mk32_1 FxCen.mk32_1000001 FxCen.mk32_1000002 FxCen.mk32_1000003 FxCen.mk32_1000000 FxCen.mk35_1000000 FxCen.mk56_1000000 FxCen.dw57_5 FxCen.nc57_5 FxCen.dw57_6 FxCen.nc57_6 FxCen.mk57_0 FxCen.mk57_1000001 FxCen.mk57_1000002 FxCen.mk57_1000003 FxCen.mk57_1000000 FxCen.dw58_4 FxCen.nc58_4 FxCen.dw58_5 FxCen.nc58_5 FxCen.dw58_6 FxCen.nc58_6 FxCen.mk58_1000000 FxCen.mk59_0 FxCen.mk59_1000001 FxCen.mk59_1000002 FxCen.mk59_1000000 FxCen.dw60_5 FxCen.nc60_5 FxCen.dw60_10 FxCen.nc60_10 FxCen.mk60_0 FxCen.mk60_1000001 FxCen.mk60_1000002 FxCen.mk60_1000000 FxCen.dw61_5 FxCen.nc61_5 FxCen.dw61_8 FxCen.nc61_8 FxCen.mk61_1000000 FxCen.mk62_1000000 FxCen.mk63_1000000 FxCen.mk69_1000000 FxCen.mk79_1000001 FxCen.mk79_1000000 FxCen.mk104_1000000 FxCen.dw105_1 FxCen.nc105_1 FxCen.mk105_1000000 FxCen.dw106_3 FxCen.nc106_3 FxCen.mk106_0 FxCen.mk106_1000001 FxCen.mk106_1000002 FxCen.mk106_1000000 FxCen.mk107_1000000 FxCen.mk108_0 FxCen.mk108_1000001 FxCen.mk108_1000002 FxCen.mk108_1000000 FxCen.mk109_1000000 FxCen.dw110_6 FxCen.nc110_6 FxCen.mk110_1000000 FxCen.mk137_1000000
/-! ### the loop -/
def p (d : Nat) : V := .p (0, d) 1 0 []
def room (a : Int) : V := .d (.int .i64 (281474976710656 - a))
def b1 (l : List Spot) : Blk := ⟨1, 31, [.d (.sl 72 (l.map spD))], true⟩
def hd (l : List Spot) (i : Nat) : List V := hd20_0 (p 1) (p 2) (p 3) (room (sumS gA (l.take i))) (.d (.sl 72 (l.map spD))) (.d (.int .i64 l.length)) (.d (.int .i64 i))
def Ok (l : List Spot) (st : Store) : Prop := st (0, 2) = bF (0, 0) ∧ st (0, 3) = bF (0, 0) ∧ st (0, 1) = b1 l ∧ (st (0, 8)).ver = 0 ∧ (st (0, 10)).ver = 0 ∧ (st (0, 12)).ver = 0
def J (l : List Spot) (x : Nat × Store) : Prop := x.1 ≤ l.length ∧ Ok l x.2 ∧ errS 0 l = errS (sumS gA (l.take x.1)) (l.drop x.1) ∧ 0 ≤ sumS gA (l.take x.1) ∧ sumS gA (l.take x.1) ≤ 281474976710656
def Q (l : List Spot) (x : Nat × Store) (o : Out) : Prop := ∃ st', (o = some (.exit 0, hx20_0 (p 1) (p 2) (p 3) (room (sumS gA l)), st') ∧ Ok l st' ∧ errS 0 l = 0 ∧ 0 ≤ sumS gA l ∧ sumS gA l ≤ 281474976710656) ∨
  (o = some (.ret, hr20 (p 2) (p 3) (.d (.int .i64 (errS 0 l))), st') ∧ st' (0, 2) = bF (0, 0) ∧ st' (0, 3) = bF (0, 0) ∧ ¬ errS 0 l = 0)
theorem bad_iff (x y q : Int) : bad (x, y, q) ↔ x < -300 ∨ x > 300 ∨ y < -300 ∨ y > 300 ∨ q < 0 := by
  unfold bad maxI minI
  simp only
  split <;> split <;> omega
theorem loop (L : Nat) (call : Caller) (l : List Spot) (hl : l.length ≤ 4611686018427387904) :
    ∀ (m : Nat) (x : Nat × Store) (env : List V), J l x → l.length - x.1 < m → mask (maskOf en20.ms 0) env = hd l x.1 →
      Q l x (iter (evC Try.prog G call L en20.ms 0 0 lb20_0) (maskOf en20.ms 0) m env x.2) := by
  refine iter_rel _ _ (J l) (fun x => hd l x.1) (fun x => x.2) (Q l) (fun x => l.length - x.1) ?_
  rintro ⟨i, st⟩ ⟨hi, ⟨q2, q3, q1, q8, q10, q12⟩, qe, b0, b1'⟩ k hk
  simp only at hi q1 q2 q3 q8 q10 q12 qe b0 b1'
  by_cases hin : i < l.length
  case neg =>
    obtain rfl : i = l.length := by omega
    have hlt : ¬ (l.length : Int) < l.length := by omega
    rw [List.drop_length, List.take_length] at qe
    rw [List.take_length] at b0 b1'
    refine ⟨st, .inl ⟨?_, ⟨q2, q3, q1, q8, q10, q12⟩, qe, b0, b1'⟩⟩
    have e1 : hd l l.length = hd20_0 (p 1) (p 2) (p 3) (room (sumS gA l)) (.d (.sl 72 (l.map spD))) (.d (.int .i64 l.length)) (.d (.int .i64 l.length)) := by unfold hd; rw [List.take_length]
    simp only [lb20_0, loopN, loops, e1, p, hd20_0, hx20_0, Try.f20, go_sem, Nat.reduceAdd, Nat.reduceSub, Nat.reduceMul, Nat.reduceEqDiff, Nat.reduceBEq, Nat.reduceLT, Nat.reduceLeDiff, Nat.reducePow, Int.reduceToNat, Int.reduceLT, Int.reduceLE, Int.reduceGT, Int.reduceGE, Int.reduceEq, Int.reduceNeg, Int.reduceAdd, Int.reduceSub, ↓reduceIte, reduceCtorEq, hlt]
  have hlt : (i : Int) < l.length := by omega
  have hx : l[i]? = some l[i] := by simp [hin]
  have g0 : (0 : Int) ≤ (i : Int) := by omega
  have ht : ((i : Int)).toNat = i := by omega
  have hw1 : IntKind.i64.wrap ((i : Int) + 1) = ((i + 1 : Nat) : Int) := by rw [IntWalk.i64_in _ (by omega)]; rfl
  have hdr : l.drop i = l[i] :: l.drop (i + 1) := List.drop_eq_getElem_cons hin
  rw [hdr, errS] at qe
  have tA := sumS_take (g := gA) hin
  have hk' := fun st1 env h1 h2 h3 => (hk (i + 1, st1) env h1 h2 h3 : Q l (i + 1, st1) _)
  have hret : ∀ e st1, errS 0 l = e → ¬ e = 0 → st1 (0, 2) = bF (0, 0) → st1 (0, 3) = bF (0, 0) → Q l (i, st) (some (.ret, hr20 (p 2) (p 3) (.d (.int .i64 e)), st1)) := fun e st1 h1 h2 h3 h4 => ⟨st1, .inr ⟨by rw [h1], h3, h4, by rw [h1]; exact h2⟩⟩
  simp only [hd] at hk'
  unfold J at hk'
  simp only at hk'
  rw [tA] at hk'
  unfold hd
  generalize sumS gA (l.take i) = a at *
  generalize l[i] = s at *
  obtain ⟨x, y, q⟩ := s
  simp only [p] at hret
  by_cases cb : bad (x, y, q)
  · rw [if_pos cb] at qe
    rw [bad_iff] at cb
    have hq := fun st1 => hret 4 st1 qe (by decide)
    by_cases c1 : x < -300
    · simp only [lb20_0, loopN, loops, p, room, hd20_0, Try.f20, G, go_sem, Nat.reduceAdd, Nat.reduceSub, Nat.reduceMul, Nat.reduceEqDiff, Nat.reduceBEq, Nat.reduceLT, Nat.reduceLeDiff, Nat.reducePow, Int.reduceToNat, Int.reduceLT, Int.reduceLE, Int.reduceGT, Int.reduceGE, Int.reduceEq, Int.reduceNeg, Int.reduceAdd, Int.reduceSub, ↓reduceIte, reduceCtorEq, hlt, hx, spD, g0, ht, c1, q2, q3, bF, fD]
      exact hq _ (by simp only [go_sem, Nat.reduceAdd, Nat.reduceSub, Nat.reduceMul, Nat.reduceEqDiff, Nat.reduceBEq, Nat.reduceLT, Nat.reduceLeDiff, Nat.reducePow, Int.reduceToNat, Int.reduceLT, Int.reduceLE, Int.reduceGT, Int.reduceGE, Int.reduceEq, Int.reduceNeg, Int.reduceAdd, Int.reduceSub, ↓reduceIte, reduceCtorEq, bF, fD]) (by simp only [go_sem, Nat.reduceAdd, Nat.reduceSub, Nat.reduceMul, Nat.reduceEqDiff, Nat.reduceBEq, Nat.reduceLT, Nat.reduceLeDiff, Nat.reducePow, Int.reduceToNat, Int.reduceLT, Int.reduceLE, Int.reduceGT, Int.reduceGE, Int.reduceEq, Int.reduceNeg, Int.reduceAdd, Int.reduceSub, ↓reduceIte, reduceCtorEq, bF, fD])
    by_cases c2 : x > 300
    · simp only [lb20_0, loopN, loops, p, room, hd20_0, Try.f20, G, go_sem, Nat.reduceAdd, Nat.reduceSub, Nat.reduceMul, Nat.reduceEqDiff, Nat.reduceBEq, Nat.reduceLT, Nat.reduceLeDiff, Nat.reducePow, Int.reduceToNat, Int.reduceLT, Int.reduceLE, Int.reduceGT, Int.reduceGE, Int.reduceEq, Int.reduceNeg, Int.reduceAdd, Int.reduceSub, ↓reduceIte, reduceCtorEq, hlt, hx, spD, g0, ht, c1, c2, q2, q3, bF, fD]
      exact hq _ (by simp only [go_sem, Nat.reduceAdd, Nat.reduceSub, Nat.reduceMul, Nat.reduceEqDiff, Nat.reduceBEq, Nat.reduceLT, Nat.reduceLeDiff, Nat.reducePow, Int.reduceToNat, Int.reduceLT, Int.reduceLE, Int.reduceGT, Int.reduceGE, Int.reduceEq, Int.reduceNeg, Int.reduceAdd, Int.reduceSub, ↓reduceIte, reduceCtorEq, bF, fD]) (by simp only [go_sem, Nat.reduceAdd, Nat.reduceSub, Nat.reduceMul, Nat.reduceEqDiff, Nat.reduceBEq, Nat.reduceLT, Nat.reduceLeDiff, Nat.reducePow, Int.reduceToNat, Int.reduceLT, Int.reduceLE, Int.reduceGT, Int.reduceGE, Int.reduceEq, Int.reduceNeg, Int.reduceAdd, Int.reduceSub, ↓reduceIte, reduceCtorEq, bF, fD])
    by_cases c3 : y < -300
    · simp only [lb20_0, loopN, loops, p, room, hd20_0, Try.f20, G, go_sem, Nat.reduceAdd, Nat.reduceSub, Nat.reduceMul, Nat.reduceEqDiff, Nat.reduceBEq, Nat.reduceLT, Nat.reduceLeDiff, Nat.reducePow, Int.reduceToNat, Int.reduceLT, Int.reduceLE, Int.reduceGT, Int.reduceGE, Int.reduceEq, Int.reduceNeg, Int.reduceAdd, Int.reduceSub, ↓reduceIte, reduceCtorEq, hlt, hx, spD, g0, ht, c1, c2, c3, q2, q3, bF, fD]
      exact hq _ (by simp only [go_sem, Nat.reduceAdd, Nat.reduceSub, Nat.reduceMul, Nat.reduceEqDiff, Nat.reduceBEq, Nat.reduceLT, Nat.reduceLeDiff, Nat.reducePow, Int.reduceToNat, Int.reduceLT, Int.reduceLE, Int.reduceGT, Int.reduceGE, Int.reduceEq, Int.reduceNeg, Int.reduceAdd, Int.reduceSub, ↓reduceIte, reduceCtorEq, bF, fD]) (by simp only [go_sem, Nat.reduceAdd, Nat.reduceSub, Nat.reduceMul, Nat.reduceEqDiff, Nat.reduceBEq, Nat.reduceLT, Nat.reduceLeDiff, Nat.reducePow, Int.reduceToNat, Int.reduceLT, Int.reduceLE, Int.reduceGT, Int.reduceGE, Int.reduceEq, Int.reduceNeg, Int.reduceAdd, Int.reduceSub, ↓reduceIte, reduceCtorEq, bF, fD])
    by_cases c4 : y > 300
    · simp only [lb20_0, loopN, loops, p, room, hd20_0, Try.f20, G, go_sem, Nat.reduceAdd, Nat.reduceSub, Nat.reduceMul, Nat.reduceEqDiff, Nat.reduceBEq, Nat.reduceLT, Nat.reduceLeDiff, Nat.reducePow, Int.reduceToNat, Int.reduceLT, Int.reduceLE, Int.reduceGT, Int.reduceGE, Int.reduceEq, Int.reduceNeg, Int.reduceAdd, Int.reduceSub, ↓reduceIte, reduceCtorEq, hlt, hx, spD, g0, ht, c1, c2, c3, c4, q2, q3, bF, fD]
      exact hq _ (by simp only [go_sem, Nat.reduceAdd, Nat.reduceSub, Nat.reduceMul, Nat.reduceEqDiff, Nat.reduceBEq, Nat.reduceLT, Nat.reduceLeDiff, Nat.reducePow, Int.reduceToNat, Int.reduceLT, Int.reduceLE, Int.reduceGT, Int.reduceGE, Int.reduceEq, Int.reduceNeg, Int.reduceAdd, Int.reduceSub, ↓reduceIte, reduceCtorEq, bF, fD]) (by simp only [go_sem, Nat.reduceAdd, Nat.reduceSub, Nat.reduceMul, Nat.reduceEqDiff, Nat.reduceBEq, Nat.reduceLT, Nat.reduceLeDiff, Nat.reducePow, Int.reduceToNat, Int.reduceLT, Int.reduceLE, Int.reduceGT, Int.reduceGE, Int.reduceEq, Int.reduceNeg, Int.reduceAdd, Int.reduceSub, ↓reduceIte, reduceCtorEq, bF, fD])
    have c5 : q < 0 := by omega
    simp only [lb20_0, loopN, loops, p, room, hd20_0, Try.f20, G, go_sem, Nat.reduceAdd, Nat.reduceSub, Nat.reduceMul, Nat.reduceEqDiff, Nat.reduceBEq, Nat.reduceLT, Nat.reduceLeDiff, Nat.reducePow, Int.reduceToNat, Int.reduceLT, Int.reduceLE, Int.reduceGT, Int.reduceGE, Int.reduceEq, Int.reduceNeg, Int.reduceAdd, Int.reduceSub, ↓reduceIte, reduceCtorEq, hlt, hx, spD, g0, ht, c1, c2, c3, c4, c5, q2, q3, bF, fD]
    exact hq _ (by simp only [go_sem, Nat.reduceAdd, Nat.reduceSub, Nat.reduceMul, Nat.reduceEqDiff, Nat.reduceBEq, Nat.reduceLT, Nat.reduceLeDiff, Nat.reducePow, Int.reduceToNat, Int.reduceLT, Int.reduceLE, Int.reduceGT, Int.reduceGE, Int.reduceEq, Int.reduceNeg, Int.reduceAdd, Int.reduceSub, ↓reduceIte, reduceCtorEq, bF, fD]) (by simp only [go_sem, Nat.reduceAdd, Nat.reduceSub, Nat.reduceMul, Nat.reduceEqDiff, Nat.reduceBEq, Nat.reduceLT, Nat.reduceLeDiff, Nat.reducePow, Int.reduceToNat, Int.reduceLT, Int.reduceLE, Int.reduceGT, Int.reduceGE, Int.reduceEq, Int.reduceNeg, Int.reduceAdd, Int.reduceSub, ↓reduceIte, reduceCtorEq, bF, fD])
  rw [if_neg cb] at qe
  rw [bad_iff] at cb
  have c1 : ¬ x < -300 := by omega
  have c2 : ¬ x > 300 := by omega
  have c3 : ¬ y < -300 := by omega
  have c4 : ¬ y > 300 := by omega
  have c5 : ¬ q < 0 := by omega
  simp only at qe
  have hm : minI q 1125899906842624 = q ∧ q ≤ 1125899906842624 ∨ minI q 1125899906842624 = 1125899906842624 ∧ 1125899906842624 < q := by
    unfold minI
    split <;> omega
  have w1 : IntKind.i64.wrap (281474976710656 - a - minI q 1125899906842624) = 281474976710656 - a - minI q 1125899906842624 := wi_in (by omega) (by omega)
  by_cases c6 : q > 281474976710656 - a
  · rw [if_pos c6] at qe
    have hq := fun st1 => hret 2 st1 qe (by decide)
    have c7 : 281474976710656 - a - minI q 1125899906842624 < 0 := by omega
    simp only [lb20_0, loopN, loops, p, room, hd20_0, Try.f20, G, go_sem, Nat.reduceAdd, Nat.reduceSub, Nat.reduceMul, Nat.reduceEqDiff, Nat.reduceBEq, Nat.reduceLT, Nat.reduceLeDiff, Nat.reducePow, Int.reduceToNat, Int.reduceLT, Int.reduceLE, Int.reduceGT, Int.reduceGE, Int.reduceEq, Int.reduceNeg, Int.reduceAdd, Int.reduceSub, ↓reduceIte, reduceCtorEq, hlt, hx, spD, g0, ht, c1, c2, c3, c4, c5, w1, c7, q2, q3, bF, fD]
    exact hq _ (by simp only [go_sem, Nat.reduceAdd, Nat.reduceSub, Nat.reduceMul, Nat.reduceEqDiff, Nat.reduceBEq, Nat.reduceLT, Nat.reduceLeDiff, Nat.reducePow, Int.reduceToNat, Int.reduceLT, Int.reduceLE, Int.reduceGT, Int.reduceGE, Int.reduceEq, Int.reduceNeg, Int.reduceAdd, Int.reduceSub, ↓reduceIte, reduceCtorEq, bF, fD]) (by simp only [go_sem, Nat.reduceAdd, Nat.reduceSub, Nat.reduceMul, Nat.reduceEqDiff, Nat.reduceBEq, Nat.reduceLT, Nat.reduceLeDiff, Nat.reducePow, Int.reduceToNat, Int.reduceLT, Int.reduceLE, Int.reduceGT, Int.reduceGE, Int.reduceEq, Int.reduceNeg, Int.reduceAdd, Int.reduceSub, ↓reduceIte, reduceCtorEq, bF, fD])
  rw [if_neg c6] at qe
  have c7 : ¬ 281474976710656 - a - minI q 1125899906842624 < 0 := by omega
  have c8 : 281474976710656 - a - minI q 1125899906842624 = 281474976710656 - (a + q) := by omega
  simp only [lb20_0, loopN, loops, p, room, hd20_0, Try.f20, G, go_sem, Nat.reduceAdd, Nat.reduceSub, Nat.reduceMul, Nat.reduceEqDiff, Nat.reduceBEq, Nat.reduceLT, Nat.reduceLeDiff, Nat.reducePow, Int.reduceToNat, Int.reduceLT, Int.reduceLE, Int.reduceGT, Int.reduceGE, Int.reduceEq, Int.reduceNeg, Int.reduceAdd, Int.reduceSub, ↓reduceIte, reduceCtorEq, hlt, hx, spD, g0, ht, c1, c2, c3, c4, c5, w1, c7, hw1]
  have hQ : ∀ st1 o, Q l (i + 1, st1) o → Q l (i, st) o := fun st1 o h => h
  refine hQ _ _ (hk' _ _ ⟨by omega, ⟨by simp only [go_sem, Nat.reduceAdd, Nat.reduceSub, Nat.reduceMul, Nat.reduceEqDiff, Nat.reduceBEq, Nat.reduceLT, Nat.reduceLeDiff, Nat.reducePow, Int.reduceToNat, Int.reduceLT, Int.reduceLE, Int.reduceGT, Int.reduceGE, Int.reduceEq, Int.reduceNeg, Int.reduceAdd, Int.reduceSub, ↓reduceIte, reduceCtorEq, q2], by simp only [go_sem, Nat.reduceAdd, Nat.reduceSub, Nat.reduceMul, Nat.reduceEqDiff, Nat.reduceBEq, Nat.reduceLT, Nat.reduceLeDiff, Nat.reducePow, Int.reduceToNat, Int.reduceLT, Int.reduceLE, Int.reduceGT, Int.reduceGE, Int.reduceEq, Int.reduceNeg, Int.reduceAdd, Int.reduceSub, ↓reduceIte, reduceCtorEq, q3], by simp only [go_sem, Nat.reduceAdd, Nat.reduceSub, Nat.reduceMul, Nat.reduceEqDiff, Nat.reduceBEq, Nat.reduceLT, Nat.reduceLeDiff, Nat.reducePow, Int.reduceToNat, Int.reduceLT, Int.reduceLE, Int.reduceGT, Int.reduceGE, Int.reduceEq, Int.reduceNeg, Int.reduceAdd, Int.reduceSub, ↓reduceIte, reduceCtorEq, q1], by simp only [go_sem, Nat.reduceAdd, Nat.reduceSub, Nat.reduceMul, Nat.reduceEqDiff, Nat.reduceBEq, Nat.reduceLT, Nat.reduceLeDiff, Nat.reducePow, Int.reduceToNat, Int.reduceLT, Int.reduceLE, Int.reduceGT, Int.reduceGE, Int.reduceEq, Int.reduceNeg, Int.reduceAdd, Int.reduceSub, ↓reduceIte, reduceCtorEq, q8], by simp only [go_sem, Nat.reduceAdd, Nat.reduceSub, Nat.reduceMul, Nat.reduceEqDiff, Nat.reduceBEq, Nat.reduceLT, Nat.reduceLeDiff, Nat.reducePow, Int.reduceToNat, Int.reduceLT, Int.reduceLE, Int.reduceGT, Int.reduceGE, Int.reduceEq, Int.reduceNeg, Int.reduceAdd, Int.reduceSub, ↓reduceIte, reduceCtorEq, q10], by simp only [go_sem, Nat.reduceAdd, Nat.reduceSub, Nat.reduceMul, Nat.reduceEqDiff, Nat.reduceBEq, Nat.reduceLT, Nat.reduceLeDiff, Nat.reducePow, Int.reduceToNat, Int.reduceLT, Int.reduceLE, Int.reduceGT, Int.reduceGE, Int.reduceEq, Int.reduceNeg, Int.reduceAdd, Int.reduceSub, ↓reduceIte, reduceCtorEq, q12]⟩, qe, by simp only [gA]; omega, by simp only [gA]; omega⟩ (by omega) (by simp only [p, room, hd20_0, go_sem, Nat.reduceAdd, Nat.reduceSub, Nat.reduceMul, Nat.reduceEqDiff, Nat.reduceBEq, Nat.reduceLT, Nat.reduceLeDiff, Nat.reducePow, Int.reduceToNat, Int.reduceLT, Int.reduceLE, Int.reduceGT, Int.reduceGE, Int.reduceEq, Int.reduceNeg, Int.reduceAdd, Int.reduceSub, ↓reduceIte, reduceCtorEq, hw1, gA, c8, spD]))
theorem eCentred (l : List Spot) (hl : l.length ≤ 4611686018427387904) : evTop Try.prog G T (l.length + 1) 2 20 [.sl 72 (l.map spD)] = some [fD (cenR l).1, fD (cenR l).2.1, .int .i64 (cenR l).2.2] := by
  unfold evTop
  simp only [List.map]
  rw [evF_s (fn := Try.f20) (msk := en20.ms) (hT := by rfl) (hb := by rfl)]
  simp only [Try.f20, G, go_sem, Nat.reduceAdd, Nat.reduceSub, Nat.reduceMul, Nat.reduceEqDiff, Nat.reduceBEq, Nat.reduceLT, Nat.reduceLeDiff, Nat.reducePow, Int.reduceToNat, Int.reduceLT, Int.reduceLE, Int.reduceGT, Int.reduceGE, Int.reduceEq, Int.reduceNeg, Int.reduceAdd, Int.reduceSub, ↓reduceIte, reduceCtorEq]
  refine loop_then (R := Q l (0, _)) (loop _ _ l hl _ (0, _) _ ⟨by simp only; omega, ⟨by simp only [go_sem, Nat.reduceAdd, Nat.reduceSub, Nat.reduceMul, Nat.reduceEqDiff, Nat.reduceBEq, Nat.reduceLT, Nat.reduceLeDiff, Nat.reducePow, Int.reduceToNat, Int.reduceLT, Int.reduceLE, Int.reduceGT, Int.reduceGE, Int.reduceEq, Int.reduceNeg, Int.reduceAdd, Int.reduceSub, ↓reduceIte, reduceCtorEq, bF, fD], by simp only [go_sem, Nat.reduceAdd, Nat.reduceSub, Nat.reduceMul, Nat.reduceEqDiff, Nat.reduceBEq, Nat.reduceLT, Nat.reduceLeDiff, Nat.reducePow, Int.reduceToNat, Int.reduceLT, Int.reduceLE, Int.reduceGT, Int.reduceGE, Int.reduceEq, Int.reduceNeg, Int.reduceAdd, Int.reduceSub, ↓reduceIte, reduceCtorEq, bF, fD], by simp only [go_sem, Nat.reduceAdd, Nat.reduceSub, Nat.reduceMul, Nat.reduceEqDiff, Nat.reduceBEq, Nat.reduceLT, Nat.reduceLeDiff, Nat.reducePow, Int.reduceToNat, Int.reduceLT, Int.reduceLE, Int.reduceGT, Int.reduceGE, Int.reduceEq, Int.reduceNeg, Int.reduceAdd, Int.reduceSub, ↓reduceIte, reduceCtorEq, b1], by simp only [go_sem, Nat.reduceAdd, Nat.reduceSub, Nat.reduceMul, Nat.reduceEqDiff, Nat.reduceBEq, Nat.reduceLT, Nat.reduceLeDiff, Nat.reducePow, Int.reduceToNat, Int.reduceLT, Int.reduceLE, Int.reduceGT, Int.reduceGE, Int.reduceEq, Int.reduceNeg, Int.reduceAdd, Int.reduceSub, ↓reduceIte, reduceCtorEq], by simp only [go_sem, Nat.reduceAdd, Nat.reduceSub, Nat.reduceMul, Nat.reduceEqDiff, Nat.reduceBEq, Nat.reduceLT, Nat.reduceLeDiff, Nat.reducePow, Int.reduceToNat, Int.reduceLT, Int.reduceLE, Int.reduceGT, Int.reduceGE, Int.reduceEq, Int.reduceNeg, Int.reduceAdd, Int.reduceSub, ↓reduceIte, reduceCtorEq], by simp only [go_sem, Nat.reduceAdd, Nat.reduceSub, Nat.reduceMul, Nat.reduceEqDiff, Nat.reduceBEq, Nat.reduceLT, Nat.reduceLeDiff, Nat.reducePow, Int.reduceToNat, Int.reduceLT, Int.reduceLE, Int.reduceGT, Int.reduceGE, Int.reduceEq, Int.reduceNeg, Int.reduceAdd, Int.reduceSub, ↓reduceIte, reduceCtorEq]⟩, rfl, by simp [sumS], by simp [sumS]⟩ (by simp only; omega) (by simp only [hd, p, room, hd20_0, List.take_zero, sumS, go_sem, Nat.reduceAdd, Nat.reduceSub, Nat.reduceMul, Nat.reduceEqDiff, Nat.reduceBEq, Nat.reduceLT, Nat.reduceLeDiff, Nat.reducePow, Int.reduceToNat, Int.reduceLT, Int.reduceLE, Int.reduceGT, Int.reduceGE, Int.reduceEq, Int.reduceNeg, Int.reduceAdd, Int.reduceSub, ↓reduceIte, reduceCtorEq])) ?_
  unfold cenR
  rintro o ⟨st1, ⟨rfl, ⟨q2, q3, q1, q8, q10, q12⟩, he, b0, b1'⟩ | ⟨rfl, q2, q3, hne⟩⟩
  case inr =>
    rw [if_neg hne]
    generalize errS 0 l = E at *
    simp only [hr20, p, go_sem, Nat.reduceAdd, Nat.reduceSub, Nat.reduceMul, Nat.reduceEqDiff, Nat.reduceBEq, Nat.reduceLT, Nat.reduceLeDiff, Nat.reducePow, Int.reduceToNat, Int.reduceLT, Int.reduceLE, Int.reduceGT, Int.reduceGE, Int.reduceEq, Int.reduceNeg, Int.reduceAdd, Int.reduceSub, ↓reduceIte, reduceCtorEq, q2, q3, bF, fD]
  rw [if_pos he]
  have w1 : IntKind.i64.wrap (281474976710656 - (281474976710656 - sumS gA l)) = sumS gA l := by rw [wi_in (by omega) (by omega)]; omega
  by_cases c1 : sumS gA l = 0
  · rw [if_pos c1]
    simp only [hx20_0, p, room, Try.f20, G, go_sem, Nat.reduceAdd, Nat.reduceSub, Nat.reduceMul, Nat.reduceEqDiff, Nat.reduceBEq, Nat.reduceLT, Nat.reduceLeDiff, Nat.reducePow, Int.reduceToNat, Int.reduceLT, Int.reduceLE, Int.reduceGT, Int.reduceGE, Int.reduceEq, Int.reduceNeg, Int.reduceAdd, Int.reduceSub, ↓reduceIte, reduceCtorEq, w1, c1, q2, q3, q8, bF, fD]
  rw [if_neg c1]
  have hb := errS_zero he
  have h1 := fun st h1 h8 => eMean l 65 62 atX (.inl ⟨rfl, rfl, rfl⟩) st h1 h8 hl hb ⟨by omega, b1'⟩
  have h2 := fun st h1 h8 => eMean l 70 63 atY (.inr ⟨rfl, rfl, rfl⟩) st h1 h8 hl hb ⟨by omega, b1'⟩
  have mx := mul128_2 (mk (sumS gX l) (sumS gA l))
  have my := mul128_2 (mk (sumS gY l) (sumS gA l))
  have ex : sumS (gAt atX) l = sumS gX l := rfl
  have ey : sumS (gAt atY) l = sumS gY l := rfl
  rw [ex] at h1
  rw [ey] at h2
  generalize mul128 (mk (sumS gX l) (sumS gA l)) = X at *
  generalize mul128 (mk (sumS gY l) (sumS gA l)) = Y at *
  generalize ha : sumS gA l = a at *
  unfold b1 at q1
  simp only [hx20_0, p, room, Try.f20, go_sem, Nat.reduceAdd, Nat.reduceSub, Nat.reduceMul, Nat.reduceEqDiff, Nat.reduceBEq, Nat.reduceLT, Nat.reduceLeDiff, Nat.reducePow, Int.reduceToNat, Int.reduceLT, Int.reduceLE, Int.reduceGT, Int.reduceGE, Int.reduceEq, Int.reduceNeg, Int.reduceAdd, Int.reduceSub, ↓reduceIte, reduceCtorEq, w1, c1, q1, q2, q3, q8, bF, fD]
  have hg : G = [(57, sMake), (58, sMul128), (61, sAddF), (62, sAt atX), (63, sAt atY)] := rfl
  obtain ⟨s1, e1, k1⟩ := h1 (upd st1 (0, 8) ⟨1, 2, [.d (.int .i64 a)], true⟩) (by simp only [go_sem, Nat.reduceAdd, Nat.reduceSub, Nat.reduceMul, Nat.reduceEqDiff, Nat.reduceBEq, Nat.reduceLT, Nat.reduceLeDiff, Nat.reducePow, Int.reduceToNat, Int.reduceLT, Int.reduceLE, Int.reduceGT, Int.reduceGE, Int.reduceEq, Int.reduceNeg, Int.reduceAdd, Int.reduceSub, ↓reduceIte, reduceCtorEq, q1]) (by simp only [go_sem, Nat.reduceAdd, Nat.reduceSub, Nat.reduceMul, Nat.reduceEqDiff, Nat.reduceBEq, Nat.reduceLT, Nat.reduceLeDiff, Nat.reducePow, Int.reduceToNat, Int.reduceLT, Int.reduceLE, Int.reduceGT, Int.reduceGE, Int.reduceEq, Int.reduceNeg, Int.reduceAdd, Int.reduceSub, ↓reduceIte, reduceCtorEq, bI])
  simp only [hg, fD] at e1
  rw [e1]
  have f1 : s1 (0, 1) = b1 l := by rw [k1]; simp only [go_sem, Nat.reduceAdd, Nat.reduceSub, Nat.reduceMul, Nat.reduceEqDiff, Nat.reduceBEq, Nat.reduceLT, Nat.reduceLeDiff, Nat.reducePow, Int.reduceToNat, Int.reduceLT, Int.reduceLE, Int.reduceGT, Int.reduceGE, Int.reduceEq, Int.reduceNeg, Int.reduceAdd, Int.reduceSub, ↓reduceIte, reduceCtorEq, q1, b1]
  have f2 : s1 (0, 2) = bF (0, 0) := by rw [k1]; simp only [go_sem, Nat.reduceAdd, Nat.reduceSub, Nat.reduceMul, Nat.reduceEqDiff, Nat.reduceBEq, Nat.reduceLT, Nat.reduceLeDiff, Nat.reducePow, Int.reduceToNat, Int.reduceLT, Int.reduceLE, Int.reduceGT, Int.reduceGE, Int.reduceEq, Int.reduceNeg, Int.reduceAdd, Int.reduceSub, ↓reduceIte, reduceCtorEq, q2]
  have f3 : s1 (0, 3) = bF (0, 0) := by rw [k1]; simp only [go_sem, Nat.reduceAdd, Nat.reduceSub, Nat.reduceMul, Nat.reduceEqDiff, Nat.reduceBEq, Nat.reduceLT, Nat.reduceLeDiff, Nat.reducePow, Int.reduceToNat, Int.reduceLT, Int.reduceLE, Int.reduceGT, Int.reduceGE, Int.reduceEq, Int.reduceNeg, Int.reduceAdd, Int.reduceSub, ↓reduceIte, reduceCtorEq, q3]
  have f8 : s1 (0, 8) = bI a := by rw [k1]; simp only [go_sem, Nat.reduceAdd, Nat.reduceSub, Nat.reduceMul, Nat.reduceEqDiff, Nat.reduceBEq, Nat.reduceLT, Nat.reduceLeDiff, Nat.reducePow, Int.reduceToNat, Int.reduceLT, Int.reduceLE, Int.reduceGT, Int.reduceGE, Int.reduceEq, Int.reduceNeg, Int.reduceAdd, Int.reduceSub, ↓reduceIte, reduceCtorEq, bI]
  have f10 : (s1 (0, 10)).ver = 0 := by rw [k1]; simp only [go_sem, Nat.reduceAdd, Nat.reduceSub, Nat.reduceMul, Nat.reduceEqDiff, Nat.reduceBEq, Nat.reduceLT, Nat.reduceLeDiff, Nat.reducePow, Int.reduceToNat, Int.reduceLT, Int.reduceLE, Int.reduceGT, Int.reduceGE, Int.reduceEq, Int.reduceNeg, Int.reduceAdd, Int.reduceSub, ↓reduceIte, reduceCtorEq, q10]
  have f12 : (s1 (0, 12)).ver = 0 := by rw [k1]; simp only [go_sem, Nat.reduceAdd, Nat.reduceSub, Nat.reduceMul, Nat.reduceEqDiff, Nat.reduceBEq, Nat.reduceLT, Nat.reduceLeDiff, Nat.reducePow, Int.reduceToNat, Int.reduceLT, Int.reduceLE, Int.reduceGT, Int.reduceGE, Int.reduceEq, Int.reduceNeg, Int.reduceAdd, Int.reduceSub, ↓reduceIte, reduceCtorEq, q12]
  simp only [go_sem, Nat.reduceAdd, Nat.reduceSub, Nat.reduceMul, Nat.reduceEqDiff, Nat.reduceBEq, Nat.reduceLT, Nat.reduceLeDiff, Nat.reducePow, Int.reduceToNat, Int.reduceLT, Int.reduceLE, Int.reduceGT, Int.reduceGE, Int.reduceEq, Int.reduceNeg, Int.reduceAdd, Int.reduceSub, ↓reduceIte, reduceCtorEq, f10]
  obtain ⟨s2, e2, j1⟩ := h2 (upd s1 (0, 10) ⟨1, 33, [.d (fD X.1)], true⟩) (by simp only [go_sem, Nat.reduceAdd, Nat.reduceSub, Nat.reduceMul, Nat.reduceEqDiff, Nat.reduceBEq, Nat.reduceLT, Nat.reduceLeDiff, Nat.reducePow, Int.reduceToNat, Int.reduceLT, Int.reduceLE, Int.reduceGT, Int.reduceGE, Int.reduceEq, Int.reduceNeg, Int.reduceAdd, Int.reduceSub, ↓reduceIte, reduceCtorEq, f1, b1]) (by simp only [go_sem, Nat.reduceAdd, Nat.reduceSub, Nat.reduceMul, Nat.reduceEqDiff, Nat.reduceBEq, Nat.reduceLT, Nat.reduceLeDiff, Nat.reducePow, Int.reduceToNat, Int.reduceLT, Int.reduceLE, Int.reduceGT, Int.reduceGE, Int.reduceEq, Int.reduceNeg, Int.reduceAdd, Int.reduceSub, ↓reduceIte, reduceCtorEq, f8])
  simp only [hg, fD] at e2
  rw [e2]
  have g2 : s2 (0, 2) = bF (0, 0) := by rw [j1]; simp only [go_sem, Nat.reduceAdd, Nat.reduceSub, Nat.reduceMul, Nat.reduceEqDiff, Nat.reduceBEq, Nat.reduceLT, Nat.reduceLeDiff, Nat.reducePow, Int.reduceToNat, Int.reduceLT, Int.reduceLE, Int.reduceGT, Int.reduceGE, Int.reduceEq, Int.reduceNeg, Int.reduceAdd, Int.reduceSub, ↓reduceIte, reduceCtorEq, f2]
  have g3 : s2 (0, 3) = bF (0, 0) := by rw [j1]; simp only [go_sem, Nat.reduceAdd, Nat.reduceSub, Nat.reduceMul, Nat.reduceEqDiff, Nat.reduceBEq, Nat.reduceLT, Nat.reduceLeDiff, Nat.reducePow, Int.reduceToNat, Int.reduceLT, Int.reduceLE, Int.reduceGT, Int.reduceGE, Int.reduceEq, Int.reduceNeg, Int.reduceAdd, Int.reduceSub, ↓reduceIte, reduceCtorEq, f3]
  have g10 : s2 (0, 10) = bF X.1 := by rw [j1]; simp only [go_sem, Nat.reduceAdd, Nat.reduceSub, Nat.reduceMul, Nat.reduceEqDiff, Nat.reduceBEq, Nat.reduceLT, Nat.reduceLeDiff, Nat.reducePow, Int.reduceToNat, Int.reduceLT, Int.reduceLE, Int.reduceGT, Int.reduceGE, Int.reduceEq, Int.reduceNeg, Int.reduceAdd, Int.reduceSub, ↓reduceIte, reduceCtorEq, bF]
  have g12 : (s2 (0, 12)).ver = 0 := by rw [j1]; simp only [go_sem, Nat.reduceAdd, Nat.reduceSub, Nat.reduceMul, Nat.reduceEqDiff, Nat.reduceBEq, Nat.reduceLT, Nat.reduceLeDiff, Nat.reducePow, Int.reduceToNat, Int.reduceLT, Int.reduceLE, Int.reduceGT, Int.reduceGE, Int.reduceEq, Int.reduceNeg, Int.reduceAdd, Int.reduceSub, ↓reduceIte, reduceCtorEq, f12]
  by_cases x0 : X.2 = 0
  · by_cases y0 : Y.2 = 0
    · rw [if_pos ⟨x0, y0⟩]
      simp only [go_sem, Nat.reduceAdd, Nat.reduceSub, Nat.reduceMul, Nat.reduceEqDiff, Nat.reduceBEq, Nat.reduceLT, Nat.reduceLeDiff, Nat.reducePow, Int.reduceToNat, Int.reduceLT, Int.reduceLE, Int.reduceGT, Int.reduceGE, Int.reduceEq, Int.reduceNeg, Int.reduceAdd, Int.reduceSub, ↓reduceIte, reduceCtorEq, g2, g3, g10, g12, bF, fD, x0, y0]
    · rw [if_neg fun h => y0 h.2]
      simp only [go_sem, Nat.reduceAdd, Nat.reduceSub, Nat.reduceMul, Nat.reduceEqDiff, Nat.reduceBEq, Nat.reduceLT, Nat.reduceLeDiff, Nat.reducePow, Int.reduceToNat, Int.reduceLT, Int.reduceLE, Int.reduceGT, Int.reduceGE, Int.reduceEq, Int.reduceNeg, Int.reduceAdd, Int.reduceSub, ↓reduceIte, reduceCtorEq, g2, g3, g10, g12, bF, fD, x0, y0]
  · rw [if_neg fun h => x0 h.1]
    simp only [go_sem, Nat.reduceAdd, Nat.reduceSub, Nat.reduceMul, Nat.reduceEqDiff, Nat.reduceBEq, Nat.reduceLT, Nat.reduceLeDiff, Nat.reducePow, Int.reduceToNat, Int.reduceLT, Int.reduceLE, Int.reduceGT, Int.reduceGE, Int.reduceEq, Int.reduceNeg, Int.reduceAdd, Int.reduceSub, ↓reduceIte, reduceCtorEq, g2, g3, g10, g12, bF, fD, x0]
theorem centred_ok : SpecOk Try.prog 20 sCen := specC_ok mixed G_ok T_ok fun l h => ⟨_, 2, eCentred l h⟩
#print axioms centred_ok
end Go.Proofs.YtmhjmjodchbhlaaR.Cen3Cen
end
section
set_option linter.unusedVariables false
set_option maxRecDepth 1000000
namespace Go.Proofs.YtmhjmjodchbhlaaR.LensCen
open Go.Ev Go.Proofs.YtmhjmjodchbhlaaR.FxCen
/-- A function of no arguments whose answer is known. -/
def known (r : List D) : Ev.Spec := ⟨fun xs => match xs with | [] => some r | _ => none⟩
theorem known_run (r : List D) : (known r).run [] = some r := rfl
theorem known_ok {G : Specs} {T : Table} {f : FuncId} {r : List D} (L c : Nat) (hG : ∀ g s, Ev.look G g = some s → SpecOk Try.prog g s) (hT : TableOk Try.prog (G.map (·.1)) T) (h : evTop Try.prog G T L c f [] = some r) : SpecOk Try.prog f (known r) :=
  spec_of_ev mixed hG hT fun xs rs hr => by
    simp only [known] at hr
    split at hr
    · cases hr; exact ⟨L, c, h⟩
    · cases hr
open Go.Proofs.YtmhjmjodchbhlaaR.Frac1Cen
open Go.Proofs.YtmhjmjodchbhlaaR.Cen1Cen (cenR cSpots centre_ok)
/-! ### optics.Centre at the one spot -/
theorem cen0 : cenR [(3, 0, 7)] = ((896, 1), (128, 1), 0) := by decide
def sCen0 : Ev.Spec := ⟨fun xs => match xs with | [.sl 72 [.agg 72 [.int .i64 3, .int .i64 0, .int .i64 7]]] => some [.agg 33 [.int .i64 896, .int .i64 1], .agg 33 [.int .i64 128, .int .i64 1], .int .i64 0] | _ => none⟩
theorem cen0_ok : SpecOk Try.prog 19 sCen0 := centre_ok.weak fun xs rs h => by
  simp only [sCen0] at h
  split at h
  · cases h
    have := specC_run cSpots (fun l => l.length ≤ 4611686018427387904) (fun l => [fD (cenR l).1, fD (cenR l).2.1, .int .i64 (cenR l).2.2]) [(3, 0, 7)] (by decide)
    rw [cen0] at this
    exact this
  · cases h
noncomputable def T0 : Table := tableOf [(21, en21), (32, en32), (35, en35), (69, en69), (79, en79)]
def G0 : Specs := [(19, sCen0)]
theorem e0 : evTop Try.prog G0 T0 70 9 21 [] = some [.bool true] := by kernel_rfl
theorem G0_ok : ∀ g s, Ev.look G0 g = some s → SpecOk Try.prog g s := specs_cons cen0_ok specs_nil
theorem T0_ok : TableOk Try.prog (G0.map (·.1)) T0 := (table_cons Try.func21 (by kernel_rfl) (by kernel_rfl) (table_cons Try.func32 (by kernel_rfl) (by kernel_rfl) (table_cons Try.func35 (by kernel_rfl) (by kernel_rfl) (table_cons Try.func69 (by kernel_rfl) (by kernel_rfl) (table_cons Try.func79 (by kernel_rfl) (by kernel_rfl) table_nil)))))
theorem lenses_ok : SpecOk Try.prog 21 (known [.bool true]) := known_ok 70 9 G0_ok T0_ok e0
#print axioms lenses_ok
end Go.Proofs.YtmhjmjodchbhlaaR.LensCen
end
section
set_option linter.unusedVariables false
set_option linter.unusedSimpArgs false
set_option maxRecDepth 100000
namespace Go.Proofs.YtmhjmjodchbhlaaR.TopOpticsCentres
open Go.Ev Go.Proofs.YtmhjmjodchbhlaaR.FxCen Go.Proofs.YtmhjmjodchbhlaaR.LensCen
open Go.Proofs.YtmhjmjodchbhlaaR.Cen1Cen (Spot spD sCen cenR cSpots centre_ok)
open Go.Proofs.YtmhjmjodchbhlaaR.Cen3Cen (centred_ok)
open Go.Proofs.YtmhjmjodchbhlaaR.Frac1Cen (fD)
attribute [local go_sem] Ev.putR_s Ev.putR_0 Ev.thenO_s Ev.thenO_0 Ev.seqR_n Ev.seqR_e Ev.seqR_r Ev.seqR_0 Ev.blkR_e Ev.blkR_n Ev.blkR_r Ev.blkR_0 Ev.normR_s Ev.normR_0 Ev.outR_r Ev.outR_n Ev.outR_0 Ev.retS_s Ev.retS_0 Ev.pureO_s Ev.pureO_0 Ev.topR_0 Ev.topR_t Ev.topR_t0 Ev.oneL_0 Ev.oneL_s Ev.topR_d Ev.topR_nils Ev.topR_agg Ev.topR_rs Ev.evOp_move Ev.evOp_assign Ev.evOp_pick Ev.evOp_alloc Ev.evOp_box Ev.evOp_build Ev.evOp_buildSlice Ev.evOp_load Ev.evOp_store Ev.evOp_makeMap Ev.evOp_lookup Ev.evOp_mapUpdate Ev.evOp_insert Ev.evOp_nilCheck Ev.evOp_binOp Ev.evOp_unOp Ev.evOp_convert Ev.evOp_makeFunc Ev.evOp_makeSlice Ev.evOp_slice Ev.evOp_fieldAddr Ev.evOp_field Ev.evOp_indexAddr Ev.evOp_index Ev.evOp_extract Ev.evOp_call Ev.evOp_append Ev.evOp_len Ev.evOp_min Ev.evOp_max Ev.condR_b Ev.condR_t Ev.evOps_nil Ev.evOps_plain Ev.evOps_guard Ev.runG_eq Ev.skipG_eq Ev.condL_tt Ev.condL_ff Ev.condL_tf Ev.condL_ft Ev.condL_u Ev.condC_t Ev.condC_f Ev.evC_skip Ev.evC_ret Ev.evC_exit Ev.evC_label Ev.evC_region Ev.evC_draw Ev.evC_seq Ev.evC_cond Ev.evC_block Ev.evC_loop Ev.fin_d Ev.fin_nils Ev.fin_agg_ Ev.fin_rs Ev.finS_s Ev.mapO_fin Ev.upd_upd Ev.argv_d Ev.argv_nils Ev.argv_agg Ev.argv_rs Ev.argv_p Ev.appendTo_nils Ev.appendTo_rs Ev.consV_d Ev.consV_agg Ev.consV_p Ev.consV_rs Ev.consV_nils Ev.consV_fn Ev.consV_und Ev.consV_jk Ev.consV_grown Ev.topR_grown Ev.len_grown Ev.consV_mp Ev.sameK_i Ev.sameK_s Ev.mget_0 Ev.mget_hit Ev.mget_miss Ev.mput_0 Ev.mput_hit Ev.mput_miss Ev.apartAll Ev.apartL Ev.apartV Ev.freeAll Ev.sel Ev.keyOfV Ev.evLookup Ev.evPut Ev.hintOk Ev.keyOk Ev.consP Ev.lookV Ev.guardV Ev.dstAt Ev.evPure Ev.evStore Ev.evPureB Ev.evBin Ev.evBinO Ev.evNil Ev.isNilC Ev.evUn Ev.evConv Ev.evSlice Ev.optI Ev.lenV Ev.elemT Ev.foldI Ev.capsOk Ev.noTup Ev.nth Ev.setN Ev.pad Ev.V.get Ev.V.put Ev.putD Ev.hasT Ev.newBlk Ev.upd Ev.keq Ev.empty Ev.evCall Ev.V.args Ev.argP Ev.callOf Ev.evNilP Ev.isNilP Ev.look Ev.V.view.views Ev.V.view Ev.V.toD Ev.V.toD.V.toDs Ev.V.pure.pures Ev.V.pure Ev.D.flat.flats Ev.D.flat Ev.mkAgg Ev.allD Ev.aggParts Ev.setParts Ev.setElems Ev.getPath Ev.setPath Ev.subL Ev.eqD Ev.eqD.eqDs Ev.and2 Ev.strCut Ev.evalT Ev.constT Ev.evArgs Ev.mask Ev.maskOf Ev.tableOf Ev.compT Ev.resV Ev.retV Ev.mapO Ev.elemsOf Int.cast_ofNat_Int IntWalk.i64_in IntWalk.u64_in IntWalk.u8_in beq_self_eq_true Bool.true_beq Bool.false_beq Bool.and_true Bool.true_and Bool.false_and Bool.and_false Bool.and_self Bool.not_true Bool.not_false Bool.not_eq_true cond_true cond_false if_true if_false and_true true_and and_self decide_true decide_false Bool.or_true Bool.true_or Bool.or_false Bool.false_or List.isEmpty List.isEmpty_nil List.size_toArray List.map List.length_map List.length_cons List.length_nil Option.map Option.bind Option.getD Option.isSome List.replicate Bool.false_eq_true implies_true forall_const Array.toList Array.isEmpty List.append List.nil_append List.cons_append List.drop_zero List.take_length List.take_succ_cons List.take_zero List.take_nil List.getElem?_map List.getElem?_cons_zero List.getElem?_cons_succ List.getElem?_nil List.append_nil
attribute [local go_sem] FxCen.tk2 FxCen.ik2 FxCen.ek2 FxCen.zv2 FxCen.tk3 FxCen.ik3 FxCen.ek3 FxCen.zv3 FxCen.tk4 FxCen.ub4 FxCen.zv4 FxCen.by4 FxCen.so4 FxCen.tk27 FxCen.ik27 FxCen.zv27 FxCen.by27 FxCen.so27 FxCen.tk31 FxCen.zv31 FxCen.tk33 FxCen.ct33 FxCen.ek33 FxCen.zv33 FxCen.tk56 FxCen.ik56 FxCen.zv56 FxCen.tk57 FxCen.zv57 FxCen.tk61 FxCen.ik61 FxCen.ek61 FxCen.zv61 FxCen.tk63 FxCen.ct63 FxCen.ek63 FxCen.zv63 FxCen.by63 FxCen.so63 FxCen.tk72 FxCen.ct72 FxCen.zv72 FxCen.by72 FxCen.so72 FxCen.tk92 FxCen.ik92 FxCen.zv92 FxCen.tk99 FxCen.zv99 FxCen.tk100 FxCen.zv100 FxCen.tk101 FxCen.zv101 FxCen.tk135 FxCen.ik135 FxCen.zv135 FxCen.tk150 FxCen.ct150 FxCen.zv150 FxCen.tk159 FxCen.zv159 FxCen.tk190 FxCen.zv190 FxCen.mk5_1000000 FxCen.dw19_18 FxCen.nc19_18 FxCen.dw19_19 FxCen.nc19_19 FxCen.mk19_0 FxCen.mk19_1000001 FxCen.mk19_1000002 FxCen.mk19_1000003 FxCen.mk19_1000000 FxCen.dw20_19 FxCen.nc20_19 FxCen.mk20_0 FxCen.mk20_1000001 FxCen.mk20_1000002 FxCen.mk20_1000000 FxCen.mk21_1000000 FxCen.dw32_7 FxCen.nc32_7 FxCen.mk32_1 FxCen.mk32_1000001 FxCen.mk32_1000002 FxCen.mk32_1000003 FxCen.mk32_1000000 FxCen.mk35_1000000 FxCen.mk56_1000000 FxCen.dw57_5 FxCen.nc57_5 FxCen.dw57_6 FxCen.nc57_6 FxCen.mk57_0 FxCen.mk57_1000001 FxCen.mk57_1000002 FxCen.mk57_1000003 FxCen.mk57_1000000 FxCen.dw58_4 FxCen.nc58_4 FxCen.dw58_5 FxCen.nc58_5 FxCen.dw58_6 FxCen.nc58_6 FxCen.mk58_1000000 FxCen.mk59_0 FxCen.mk59_1000001 FxCen.mk59_1000002 FxCen.mk59_1000000 FxCen.dw60_5 FxCen.nc60_5 FxCen.dw60_10 FxCen.nc60_10 FxCen.mk60_0 FxCen.mk60_1000001 FxCen.mk60_1000002 FxCen.mk60_1000000 FxCen.dw61_5 FxCen.nc61_5 FxCen.dw61_8 FxCen.nc61_8 FxCen.mk61_1000000 FxCen.mk62_1000000 FxCen.mk63_1000000 FxCen.mk69_1000000 FxCen.mk79_1000001 FxCen.mk79_1000000 FxCen.mk104_1000000 FxCen.dw105_1 FxCen.nc105_1 FxCen.mk105_1000000 FxCen.dw106_3 FxCen.nc106_3 FxCen.mk106_0 FxCen.mk106_1000001 FxCen.mk106_1000002 FxCen.mk106_1000000 FxCen.mk107_1000000 FxCen.mk108_0 FxCen.mk108_1000001 FxCen.mk108_1000002 FxCen.mk108_1000000 FxCen.mk109_1000000 FxCen.dw110_6 FxCen.nc110_6 FxCen.mk110_1000000 FxCen.mk137_1000000
noncomputable def G : Specs := [(21, known [.bool true]), (19, sCen), (20, sCen)]
noncomputable def T : Table := tableOf [(5, en5)]
theorem G_ok : ∀ g s, Ev.look G g = some s → SpecOk Try.prog g s := specs_cons lenses_ok (specs_cons centre_ok (specs_cons centred_ok specs_nil))
theorem T_ok : TableOk Try.prog (G.map (·.1)) T := (table_cons Try.func5 (by kernel_rfl) (by kernel_rfl) table_nil)
def toSpot (x : Int × Int × Int × Unit) : Spot := (x.1, x.2.1, x.2.2.1)
theorem spot_map (l : List (Int × Int × Int × Unit)) : l.map (fun y => D.agg 72 [.int .i64 y.1, .int .i64 y.2.1, .int .i64 y.2.2.1]) = (l.map toSpot).map spD := by
  rw [List.map_map]; rfl
theorem sCen_run (l : List Spot) (h : l.length ≤ 4611686018427387904) : sCen.run [.sl 72 (l.map spD)] = some [fD (cenR l).1, fD (cenR l).2.1, .int .i64 (cenR l).2.2] := specC_run cSpots _ _ l h
theorem top (a0 : List (Int × Int × Int × Unit)) (h0 : a0.length * 24 ≤ 140737488351232 ∧ ∀ y ∈ a0, ((Lit.int .i64 y.1).wf = true) ∧ ((Lit.int .i64 y.2.1).wf = true) ∧ ((Lit.int .i64 y.2.2.1).wf = true) ∧ True) : ∃ L c, evTop Try.prog G T L c 5 [D.sl 72 (a0.map (fun ya0 : Int × Int × Int × Unit => D.agg 72 [.int .i64 ya0.1, .int .i64 ya0.2.1, .int .i64 ya0.2.2.1]))] = some [.bool true] := by
  refine ⟨0, 1, ?_⟩
  rw [spot_map]
  have hr := sCen_run (a0.map toSpot) (by rw [List.length_map]; omega)
  generalize cenR (a0.map toSpot) = S at hr
  generalize (a0.map toSpot).map spD = l at *
  unfold fD at hr
  unfold evTop
  simp only [List.map]
  rw [evF_s (fn := Try.f5) (msk := en5.ms) (hT := by rfl) (hb := by rfl)]
  simp only [Try.f5, G, go_sem, Nat.reduceAdd, Nat.reduceSub, Nat.reduceMul, Nat.reduceEqDiff, Nat.reduceBEq, Nat.reduceLT, Nat.reduceLeDiff, Nat.reducePow, Int.reduceToNat, Int.reduceLT, Int.reduceLE, Int.reduceGT, Int.reduceGE, Int.reduceEq, Int.reduceNeg, Int.reduceAdd, Int.reduceSub, ↓reduceIte, reduceCtorEq, known_run, hr]
end Go.Proofs.YtmhjmjodchbhlaaR.TopOpticsCentres
end
section
set_option linter.unusedVariables false
set_option linter.unusedSimpArgs false
namespace Go.Proofs.YtmhjmjodchbhlaaR.opticsCentres
open Go.ChangeShapes Go.WideShapes Go.ChangeAt Go.RowKit
open Go.ChangeMaps (open_string shut_string)
open Go.Ev (Opens OpensF arg_agg arg_one weight_at law_calls call_of_ev ArgsOk D Fl)
theorem own : ownKnob Try.prog.godebug = none := by kernel_rfl
theorem laidOut : laidOutB Try.prog = true := by kernel_rfl
set_option maxRecDepth 100000 in
set_option maxHeartbeats 4000000 in
theorem lifted (os : Os) (started : os.Started) (H : Type) (enc : TypeId × Value → H) :
    ReturnsInHanded {} Try.checked os 5 .any (Rows.opticsCentresSpec.pre6 enc Try.prog Try.f5 Rows.opticsCentresRow.domain false) (Rows.opticsCentresSpec.post enc Try.prog Try.f5 false true false false) := by
  refine returnsInHanded_of_change_sized (C := Try.checked) own started (by kernel_rfl) Try.func5
    (ChangeSpec.witness6 (enc := enc) (C := Try.checked) false ⟨#[], #[.slice none 0 0], []⟩ 8 (by kernel_rfl) (by kernel_rfl) (by kernel_rfl) (by kernel_rfl)) ?_
  intro W base args ds gs before hval0 hW hcnd hsz0 _
  have hsz : (DataW.weightsEach Try.prog (Try.f5.params.toList ++ Rows.opticsCentresSpec.plain.varTypes Try.prog) (ds ++ gs)).all (· ≤ reachBytes) = true := hsz0
  have hval : ∀ (j : Nat) t v, Try.f5.params[j]? = some t → args[j]? = some v → Value.okWide Try.prog W .any base t v := hval0
  have hW' := hW
  obtain ⟨p, q, hA0, hV, rfl, hfz, hnd⟩ := hW
  have hA : DataW.TrodAll enc Try.prog W 0 (fun _ => true) true Try.f5.params.toList args.toList ds p := hA0
  rw [Try.params5] at hA hval hsz
  obtain ⟨v0, vs0, d0, ds0, p0, q0, hargs, rfl, rfl, h0, r0⟩ := trodAll_cons hA
  obtain ⟨rfl, rfl, rfl⟩ := trodAll_nil r0
  obtain rfl : args = #[v0] := by cases args; simp_all
  obtain ⟨rfl, rfl⟩ := trodVars_none hV
  obtain ⟨A0, len0, c0, rfl⟩ := okWide_slice Try.underlying31 (hval 0 31 v0 rfl rfl)
  have k0_ := h0
  have lt0 : ∀ x ∈ p0, x.block < W.heap.size := by obtain ⟨m, hm⟩ := k0_; exact DataW.trod_lt m _ _ _ hm
  obtain ⟨fuel0, hf0⟩ := h0
  obtain ⟨a0, hK0, hw0⟩ := (Opens.slice (B := 24) Try.underlying31 (of_decide_eq_true (by kernel_rfl)) (by kernel_rfl) (Opens.struct Try.underlying72 (by kernel_rfl) (OpensF.cons rfl (Opens.int Try.underlying3) (OpensF.cons rfl (Opens.int Try.underlying3) (OpensF.cons rfl (Opens.int Try.underlying61) OpensF.nil))))) enc W fuel0 _ _ hf0 (weight_at hsz (j := 0) rfl rfl)
  clear hA0 hval0 hsz0 hsz
  obtain ⟨L, c, ht⟩ := TopOpticsCentres.top a0 hw0
  have hok : ArgsOk Try.prog (Go.Ev.Old W) W [D.sl 72 (a0.map (fun ya0 : Int × Int × Int × Unit => D.agg 72 [.int .i64 ya0.1, .int .i64 ya0.2.1, .int .i64 ya0.2.2.1]))] [(.slice A0 len0 c0 : Value)] := fun σ st => ⟨_, _, rfl, arg_one rfl hK0, rfl⟩
  refine (law_calls Try.func5 (by kernel_rfl) (by kernel_rfl) (call_of_ev FxCen.mixed TopOpticsCentres.G_ok TopOpticsCentres.T_ok ht (fun _ h => h) hok)).mono fun e W' ⟨he, bel⟩ => ?_
  subst he
  exact ⟨_, rfl, _, _, _, [], _, [], hW', trodAll_mk1 (shut_bool Try.underlying4 _), (trodAll_cons_mk (Below.trod laidOut (by kernel_rfl) (of_decide_eq_true (by kernel_rfl)) k0_ bel lt0) trodAll_mk0), rfl, bel.frame _, fun h => by cases h⟩
theorem over : Rows.opticsCentresRow.holds Try.pinned (OpenSpec.ofChange Rows.opticsCentresSpec) :=
  OpenClaim.holds_of_wide 5 Try.f5 rfl rfl rfl rfl rfl rfl rfl ⟨rfl, rfl, rfl, rfl, rfl⟩ rfl rfl rfl rfl rfl (by kernel_rfl) Try.func5 (by kernel_rfl)
    (of_decide_eq_true (by kernel_rfl)) (by unfold Func.isWrapper; first | (rw [if_pos (by decide +kernel)]; kernel_rfl) | (rw [if_neg (by decide +kernel)]; exact ⟨rfl, rfl⟩))
    (fun os started H enc _ => lifted os started H enc)
theorem proved : Rows.OpticsCentresSaid := over
#print axioms proved
end Go.Proofs.YtmhjmjodchbhlaaR.opticsCentres
namespace Go.Proofs.YtmhjmjodchbhlaaR
/-- The row, under a short name, for the claim. -/
theorem opticsCentres_holds : Rows.OpticsCentresSaid := opticsCentres.proved
end Go.Proofs.YtmhjmjodchbhlaaR
end
