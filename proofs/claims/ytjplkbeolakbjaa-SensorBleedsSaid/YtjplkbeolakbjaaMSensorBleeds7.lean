/- Parts of one proof, joined: Out84Sens, Out85Sens, Out87Sens, ChkSens, FltSens, SizSens. -/
import Derived.Test.YtjplkbeolakbjaaMSensorBleeds6
section
set_option linter.unusedVariables false
set_option linter.unusedSimpArgs false
set_option maxRecDepth 100000
namespace Go.Proofs.Ytjplkbeolakbjaa.Out84Sens
open Go.Ev Go.Proofs.Ytjplkbeolakbjaa.FxSens
attribute [local go_sem] Ev.putR_s Ev.putR_0 Ev.thenO_s Ev.thenO_0 Ev.seqR_n Ev.seqR_e Ev.seqR_r Ev.seqR_0 Ev.blkR_e Ev.blkR_n Ev.blkR_r Ev.blkR_0 Ev.normR_s Ev.normR_0 Ev.outR_r Ev.outR_n Ev.outR_0 Ev.retS_s Ev.retS_0 Ev.pureO_s Ev.pureO_0 Ev.topR_0 Ev.topR_t Ev.topR_t0 Ev.oneL_0 Ev.oneL_s Ev.topR_d Ev.topR_nils Ev.topR_agg Ev.topR_rs Ev.evOp_move Ev.evOp_assign Ev.evOp_pick Ev.evOp_alloc Ev.evOp_box Ev.evOp_build Ev.evOp_buildSlice Ev.evOp_load Ev.evOp_store Ev.evOp_makeMap Ev.evOp_lookup Ev.evOp_mapUpdate Ev.evOp_insert Ev.evOp_nilCheck Ev.evOp_binOp Ev.evOp_unOp Ev.evOp_convert Ev.evOp_makeFunc Ev.evOp_makeSlice Ev.evOp_slice Ev.evOp_fieldAddr Ev.evOp_field Ev.evOp_indexAddr Ev.evOp_index Ev.evOp_extract Ev.evOp_call Ev.evOp_append Ev.evOp_len Ev.evOp_min Ev.evOp_max Ev.condR_b Ev.condR_t Ev.evOps_nil Ev.evOps_plain Ev.evOps_guard Ev.runG_eq Ev.skipG_eq Ev.condL_tt Ev.condL_ff Ev.condL_tf Ev.condL_ft Ev.condL_u Ev.condC_t Ev.condC_f Ev.evC_skip Ev.evC_ret Ev.evC_exit Ev.evC_label Ev.evC_region Ev.evC_draw Ev.evC_seq Ev.evC_cond Ev.evC_block Ev.evC_loop Ev.fin_d Ev.fin_nils Ev.fin_agg_ Ev.fin_rs Ev.finS_s Ev.mapO_fin Ev.upd_upd Ev.argv_d Ev.argv_nils Ev.argv_agg Ev.argv_rs Ev.argv_p Ev.appendTo_nils Ev.appendTo_rs Ev.consV_d Ev.consV_agg Ev.consV_p Ev.consV_rs Ev.consV_nils Ev.consV_fn Ev.consV_und Ev.consV_jk Ev.consV_grown Ev.topR_grown Ev.len_grown Ev.consV_mp Ev.sameK_i Ev.sameK_s Ev.mget_0 Ev.mget_hit Ev.mget_miss Ev.mput_0 Ev.mput_hit Ev.mput_miss Ev.apartAll Ev.apartL Ev.apartV Ev.freeAll Ev.sel Ev.keyOfV Ev.evLookup Ev.evPut Ev.hintOk Ev.keyOk Ev.consP Ev.lookV Ev.guardV Ev.dstAt Ev.evPure Ev.evStore Ev.evPureB Ev.evBin Ev.evBinO Ev.evNil Ev.isNilC Ev.evUn Ev.evConv Ev.evSlice Ev.optI Ev.lenV Ev.elemT Ev.foldI Ev.capsOk Ev.noTup Ev.nth Ev.setN Ev.pad Ev.V.get Ev.V.put Ev.putD Ev.hasT Ev.newBlk Ev.upd Ev.keq Ev.empty Ev.evCall Ev.V.args Ev.argP Ev.callOf Ev.evNilP Ev.isNilP Ev.look Ev.V.view.views Ev.V.view Ev.V.toD Ev.V.toD.V.toDs Ev.V.pure.pures Ev.V.pure Ev.D.flat.flats Ev.D.flat Ev.mkAgg Ev.allD Ev.aggParts Ev.setParts Ev.setElems Ev.getPath Ev.setPath Ev.subL Ev.eqD Ev.eqD.eqDs Ev.and2 Ev.strCut Ev.evalT Ev.constT Ev.evArgs Ev.mask Ev.maskOf Ev.tableOf Ev.compT Ev.resV Ev.retV Ev.mapO Ev.elemsOf Int.cast_ofNat_Int IntWalk.i64_in IntWalk.u64_in IntWalk.u8_in beq_self_eq_true Bool.true_beq Bool.false_beq Bool.and_true Bool.true_and Bool.false_and Bool.and_false Bool.and_self Bool.not_true Bool.not_false Bool.not_eq_true cond_true cond_false if_true if_false and_true true_and and_self decide_true decide_false Bool.or_true Bool.true_or Bool.or_false Bool.false_or List.isEmpty List.isEmpty_nil List.size_toArray List.map List.length_map List.length_cons List.length_nil Option.map Option.bind Option.getD Option.isSome List.replicate Bool.false_eq_true implies_true forall_const Array.toList Array.isEmpty List.append List.nil_append List.cons_append List.drop_zero List.take_length List.take_succ_cons List.take_zero List.take_nil List.getElem?_map List.getElem?_cons_zero List.getElem?_cons_succ List.getElem?_nil List.append_nil
attribute [local go_sem] FxSens.tk2 FxSens.ik2 FxSens.zv2 FxSens.tk3 FxSens.ik3 FxSens.zv3 FxSens.by3 FxSens.so3 FxSens.tk4 FxSens.ub4 FxSens.zv4 FxSens.tk22 FxSens.ik22 FxSens.zv22 FxSens.tk27 FxSens.ik27 FxSens.zv27 FxSens.by27 FxSens.so27 FxSens.tk32 FxSens.zv32 FxSens.tk36 FxSens.ik36 FxSens.zv36 FxSens.tk47 FxSens.ik47 FxSens.zv47 FxSens.by47 FxSens.so47 FxSens.tk54 FxSens.zv54 FxSens.tk56 FxSens.ct56 FxSens.zv56 FxSens.tk73 FxSens.zv73 FxSens.tk96 FxSens.ik96 FxSens.zv96 FxSens.tk97 FxSens.ct97 FxSens.zv97 FxSens.by97 FxSens.so97 FxSens.tk98 FxSens.zv98 FxSens.tk107 FxSens.zv107 FxSens.tk120 FxSens.zv120 FxSens.tk124 FxSens.zv124 FxSens.tk152 FxSens.zv152 FxSens.tk155 FxSens.zv155 FxSens.mk10_1000000 FxSens.mk15_1000000 FxSens.dw17_6 FxSens.nc17_6 FxSens.mk17_0 FxSens.mk17_1000001 FxSens.mk17_1000002 FxSens.mk17_1000000 FxSens.mk18_1000000 FxSens.mk19_1000000 FxSens.dw39_6 FxSens.nc39_6 FxSens.mk39_0 FxSens.mk39_1000001 FxSens.mk39_1000002 FxSens.mk39_1000000 FxSens.mk42_1000000 FxSens.mk43_1000001 FxSens.mk43_1000000 FxSens.mk44_0 FxSens.mk44_2 FxSens.mk44_1000001 FxSens.mk44_1000002 FxSens.mk44_1000003 FxSens.mk44_1000004 FxSens.mk44_1000000 FxSens.mk45_0 FxSens.mk45_2 FxSens.mk45_4 FxSens.mk45_1000001 FxSens.mk45_1000002 FxSens.mk45_1000003 FxSens.mk45_1000004 FxSens.mk45_1000005 FxSens.mk45_1000006 FxSens.mk45_1000000 FxSens.dw46_28 FxSens.nc46_28 FxSens.mk46_0 FxSens.mk46_2 FxSens.mk46_4 FxSens.mk46_1000001 FxSens.mk46_1000002 FxSens.mk46_1000003 FxSens.mk46_1000004 FxSens.mk46_1000005 FxSens.mk46_1000006 FxSens.mk46_1000000 FxSens.dw47_6 FxSens.nc47_6 FxSens.mk47_0 FxSens.mk47_1000001 FxSens.mk47_1000002 FxSens.mk47_1000000 FxSens.dw48_10 FxSens.nc48_10 FxSens.dw48_11 FxSens.nc48_11 FxSens.mk48_0 FxSens.mk48_1000001 FxSens.mk48_1000002 FxSens.mk48_1000000 FxSens.mk61_1000000 FxSens.mk83_1000000 FxSens.mk84_1000000 FxSens.mk85_1000000 FxSens.mk86_1000000 FxSens.mk87_1000000 FxSens.dw88_1 FxSens.nc88_1 FxSens.mk88_1000000 FxSens.dw89_5 FxSens.nc89_5 FxSens.mk89_0 FxSens.mk89_1000001 FxSens.mk89_1000002 FxSens.mk89_1000000 FxSens.mk90_1000000 FxSens.dw91_3 FxSens.nc91_3 FxSens.mk91_0 FxSens.mk91_1000001 FxSens.mk91_1000002 FxSens.mk91_1000000 FxSens.mk92_1000000 FxSens.mk93_1000000 FxSens.mk94_0 FxSens.mk94_1000001 FxSens.mk94_1000002 FxSens.mk94_1000000 FxSens.dw95_3 FxSens.nc95_3 FxSens.dw95_6 FxSens.nc95_6 FxSens.mk95_0 FxSens.mk95_1000001 FxSens.mk95_1000002 FxSens.mk95_1000000 FxSens.mk114_1000000 FxSens.mk115_1000000 FxSens.mk116_1000000 FxSens.mk117_1000000 FxSens.mk118_1000000 FxSens.mk119_1000000 FxSens.mk128_0 FxSens.mk128_1000001 FxSens.mk128_1000002 FxSens.mk128_1000000 FxSens.mk129_0 FxSens.mk129_1000001 FxSens.mk129_1000002 FxSens.mk129_1000000 FxSens.mk130_0 FxSens.mk130_1000001 FxSens.mk130_1000002 FxSens.mk130_1000000
def outB (most x : Int) : Bool := decide (x < 0) || decide (x > most)
def outside (l : List Int) (most : Int) : Bool := l.any (outB most)

noncomputable def T84 : Table := tableOf [(84, en84), (114, en114), (128, en128), (115, en115)]
theorem T84_84 : T84 84 = some en84 := rfl
theorem T84_114 : T84 114 = some en114 := rfl
theorem T84_128 : T84 128 = some en128 := rfl
theorem T84_115 : T84 115 = some en115 := rfl
theorem e115 (L c lv : Nat) (x most : Int) (st : Store) (h : (st (0, 3)).ver = 1) (h1 : (st (0, 3)).live = true) (h2 : (st (0, 3)).vs = [.d (.int .i64 most)]) :
    evF Try.prog [] T84 L (c + 1) 115 [.d (.int .i64 x), .p (0, 3) 1 0 []] lv st = some (.d (.bool (outB most x)), st) := by
  rw [evF_s (hT := T84_115) (hb := rfl)]
  by_cases h3 : x < 0
  · simp only [Try.f115, go_sem, Nat.reduceAdd, Nat.reduceSub, Nat.reduceMul, Nat.reduceEqDiff, Nat.reduceBEq, Nat.reduceLT, Nat.reduceLeDiff, Nat.reducePow, Int.reduceToNat, Int.reduceLT, Int.reduceLE, Int.reduceGT, Int.reduceGE, Int.reduceEq, Int.reduceNeg, Int.reduceAdd, Int.reduceSub, ↓reduceIte, reduceCtorEq, h, h1, h2, h3, outB]
  · simp only [Try.f115, go_sem, Nat.reduceAdd, Nat.reduceSub, Nat.reduceMul, Nat.reduceEqDiff, Nat.reduceBEq, Nat.reduceLT, Nat.reduceLeDiff, Nat.reducePow, Int.reduceToNat, Int.reduceLT, Int.reduceLE, Int.reduceGT, Int.reduceGE, Int.reduceEq, Int.reduceNeg, Int.reduceAdd, Int.reduceSub, ↓reduceIte, reduceCtorEq, h, h1, h2, h3, outB]

/-- The place of the first that is outside, from i on. -/
def idx (p : Int → Bool) : List Int → Int → Int
  | [], _ => -1
  | x :: r, i => if p x = true then i else idx p r (i + 1)
theorem idx_any (p : Int → Bool) : ∀ (l : List Int) (i : Int), 0 ≤ i → decide (idx p l i ≥ 0) = l.any p
  | [], i, _ => rfl
  | x :: r, i, h => by
    simp only [idx, List.any_cons]
    by_cases hp : p x = true
    · simp [hp, h]
    · simp only [hp, Bool.false_eq_true, if_false, Bool.false_or]; exact idx_any p r (i + 1) (by omega)
theorem idx_none (p : Int → Bool) : ∀ (l : List Int) (i : Int), l.any p = false → idx p l i = -1
  | [], _, _ => rfl
  | x :: r, i, h => by
    simp only [List.any_cons, Bool.or_eq_false_iff] at h
    rw [idx, if_neg (by simp [h.1])]
    exact idx_none p r (i + 1) h.2

def h128 (l : List Int) (i : Nat) : List V := hd128_0 (.d (.sl 3 (l.map (.int .i64)))) (.fn 115 [.p (0, 3) 1 0 []]) (.d (.int .i64 l.length)) (.d (.int .i64 i))
def R128 (l : List Int) (most : Int) (st : Store) (i : Nat) : Out := if (l.drop i).any (outB most) = true then some (.ret, hr128 (.d (.int .i64 (idx (outB most) (l.drop i) i))), st) else some (.exit 0, hx128_0, st)
theorem l128 (L c lv : Nat) (l : List Int) (most : Int) (st : Store) (h : (st (0, 3)).ver = 1) (h1 : (st (0, 3)).live = true) (h2 : (st (0, 3)).vs = [.d (.int .i64 most)]) (hl : l.length ≤ 4611686018427387904) :
    ∀ (n i : Nat) (env : List V), i ≤ l.length → l.length - i < n → mask (maskOf en128.ms 0) env = h128 l i →
      iter (evC Try.prog [] (evF Try.prog [] T84 L (c + 1)) L en128.ms lv 0 lb128_0) (maskOf en128.ms 0) n env st = R128 l most st i := by
  refine iter_wf _ _ (fun i => i ≤ l.length) (h128 l) (fun _ => st) (R128 l most st) (fun i => l.length - i) ?_
  intro i hi k hk
  by_cases hil : i < l.length
  case neg =>
    obtain rfl : i = l.length := by omega
    have hlt : ¬ (l.length : Int) < l.length := by omega
    simp only [lb128_0, loopN, loops, h128, hd128_0, R128, hr128, hx128_0, Try.f128, go_sem, Nat.reduceAdd, Nat.reduceSub, Nat.reduceMul, Nat.reduceEqDiff, Nat.reduceBEq, Nat.reduceLT, Nat.reduceLeDiff, Nat.reducePow, Int.reduceToNat, Int.reduceLT, Int.reduceLE, Int.reduceGT, Int.reduceGE, Int.reduceEq, Int.reduceNeg, Int.reduceAdd, Int.reduceSub, ↓reduceIte, reduceCtorEq, hlt, List.drop_length, List.any_nil]
  have hlt : (i : Int) < l.length := by omega
  have hx : (l.map (D.int .i64))[i]? = some (.int .i64 l[i]) := by simp [hil]
  have hdr : l.drop i = l[i] :: l.drop (i + 1) := List.drop_eq_getElem_cons hil
  have hw : IntKind.i64.wrap ((i : Int) + 1) = ((i + 1 : Nat) : Int) := by rw [IntWalk.i64_in _ (by omega)]; rfl
  have h0 : (0 : Int) ≤ (i : Int) := by omega
  have ht : ((i : Int)).toNat = i := by omega
  by_cases hp : outB most l[i] = true
  · have hR : R128 l most st i = some (.ret, hr128 (.d (.int .i64 i)), st) := by
      rw [R128, hdr, List.any_cons, hp, Bool.true_or, if_pos rfl, idx, if_pos hp]
    rw [hR]
    simp only [lb128_0, loopN, loops, h128, hd128_0, hr128, Try.f128, go_sem, Nat.reduceAdd, Nat.reduceSub, Nat.reduceMul, Nat.reduceEqDiff, Nat.reduceBEq, Nat.reduceLT, Nat.reduceLeDiff, Nat.reducePow, Int.reduceToNat, Int.reduceLT, Int.reduceLE, Int.reduceGT, Int.reduceGE, Int.reduceEq, Int.reduceNeg, Int.reduceAdd, Int.reduceSub, ↓reduceIte, reduceCtorEq, hlt, hx, h0, ht, e115 L c _ _ most st h h1 h2, hp]
  · have hp' : outB most l[i] = false := by simpa using hp
    have hR : R128 l most st i = R128 l most st (i + 1) := by
      rw [R128, hdr, List.any_cons, hp', Bool.false_or, idx, if_neg hp]; rfl
    rw [hR]
    simp only [lb128_0, loopN, loops, h128, hd128_0, Try.f128, go_sem, Nat.reduceAdd, Nat.reduceSub, Nat.reduceMul, Nat.reduceEqDiff, Nat.reduceBEq, Nat.reduceLT, Nat.reduceLeDiff, Nat.reducePow, Int.reduceToNat, Int.reduceLT, Int.reduceLE, Int.reduceGT, Int.reduceGE, Int.reduceEq, Int.reduceNeg, Int.reduceAdd, Int.reduceSub, ↓reduceIte, reduceCtorEq, hlt, hx, h0, ht, e115 L c _ _ most st h h1 h2, hp', hw]
    exact hk (i + 1) _ (by omega) (by omega) (by simp only [h128, hd128_0, go_sem, Nat.reduceAdd, Nat.reduceSub, Nat.reduceMul, Nat.reduceEqDiff, Nat.reduceBEq, Nat.reduceLT, Nat.reduceLeDiff, Nat.reducePow, Int.reduceToNat, Int.reduceLT, Int.reduceLE, Int.reduceGT, Int.reduceGE, Int.reduceEq, Int.reduceNeg, Int.reduceAdd, Int.reduceSub, ↓reduceIte, reduceCtorEq, hw])
theorem e128 (c lv : Nat) (l : List Int) (most : Int) (st : Store) (h : (st (0, 3)).ver = 1) (h1 : (st (0, 3)).live = true) (h2 : (st (0, 3)).vs = [.d (.int .i64 most)]) (hl : l.length ≤ 4611686018427387904) (L : Nat) (hL : l.length < L) :
    evF Try.prog [] T84 L (c + 2) 128 [.d (.sl 3 (l.map (.int .i64))), .fn 115 [.p (0, 3) 1 0 []]] lv st = some (.d (.int .i64 (idx (outB most) l 0)), st) := by
  rw [evF_s (hT := T84_128) (hb := rfl)]
  simp only [Try.f128, go_sem, Nat.reduceAdd, Nat.reduceSub, Nat.reduceMul, Nat.reduceEqDiff, Nat.reduceBEq, Nat.reduceLT, Nat.reduceLeDiff, Nat.reducePow, Int.reduceToNat, Int.reduceLT, Int.reduceLE, Int.reduceGT, Int.reduceGE, Int.reduceEq, Int.reduceNeg, Int.reduceAdd, Int.reduceSub, ↓reduceIte, reduceCtorEq]
  conv in iter _ _ _ _ _ => change iter (evC _ _ _ _ en128.ms _ _ lb128_0) (maskOf en128.ms 0) _ _ _
  rw [l128 L c lv l most st h h1 h2 hl L 0 _ (by omega) (by omega) (by simp only [h128, hd128_0, go_sem, Nat.reduceAdd, Nat.reduceSub, Nat.reduceMul, Nat.reduceEqDiff, Nat.reduceBEq, Nat.reduceLT, Nat.reduceLeDiff, Nat.reducePow, Int.reduceToNat, Int.reduceLT, Int.reduceLE, Int.reduceGT, Int.reduceGE, Int.reduceEq, Int.reduceNeg, Int.reduceAdd, Int.reduceSub, ↓reduceIte, reduceCtorEq])]
  rw [R128, List.drop_zero]
  by_cases ha : l.any (outB most) = true
  · rw [if_pos ha]
    simp only [hr128, go_sem, Nat.reduceAdd, Nat.reduceSub, Nat.reduceMul, Nat.reduceEqDiff, Nat.reduceBEq, Nat.reduceLT, Nat.reduceLeDiff, Nat.reducePow, Int.reduceToNat, Int.reduceLT, Int.reduceLE, Int.reduceGT, Int.reduceGE, Int.reduceEq, Int.reduceNeg, Int.reduceAdd, Int.reduceSub, ↓reduceIte, reduceCtorEq]
  · rw [if_neg ha]
    have hi : idx (outB most) l 0 = -1 := idx_none _ _ _ (by simpa using ha)
    simp only [hx128_0, go_sem, Nat.reduceAdd, Nat.reduceSub, Nat.reduceMul, Nat.reduceEqDiff, Nat.reduceBEq, Nat.reduceLT, Nat.reduceLeDiff, Nat.reducePow, Int.reduceToNat, Int.reduceLT, Int.reduceLE, Int.reduceGT, Int.reduceGE, Int.reduceEq, Int.reduceNeg, Int.reduceAdd, Int.reduceSub, ↓reduceIte, reduceCtorEq, hi]
theorem e114 (c lv : Nat) (l : List Int) (most : Int) (st : Store) (h : (st (0, 3)).ver = 1) (h1 : (st (0, 3)).live = true) (h2 : (st (0, 3)).vs = [.d (.int .i64 most)]) (hl : l.length ≤ 4611686018427387904) (L : Nat) (hL : l.length < L) :
    evF Try.prog [] T84 L (c + 3) 114 [.d (.sl 3 (l.map (.int .i64))), .fn 115 [.p (0, 3) 1 0 []]] lv st = some (.d (.bool (outside l most)), st) := by
  rw [evF_s (hT := T84_114) (hb := rfl)]
  have hi := idx_any (outB most) l 0 (by omega)
  simp only [Try.f114, go_sem, Nat.reduceAdd, Nat.reduceSub, Nat.reduceMul, Nat.reduceEqDiff, Nat.reduceBEq, Nat.reduceLT, Nat.reduceLeDiff, Nat.reducePow, Int.reduceToNat, Int.reduceLT, Int.reduceLE, Int.reduceGT, Int.reduceGE, Int.reduceEq, Int.reduceNeg, Int.reduceAdd, Int.reduceSub, ↓reduceIte, reduceCtorEq, e128 c _ l most st h h1 h2 hl L hL, hi, outside]
theorem e84 (l : List Int) (most : Int) (hl : l.length ≤ 4611686018427387904) : ∃ L c, evTop Try.prog [] T84 L c 84 [.sl 3 (l.map (.int .i64)), .int .i64 most] = some [.bool (outside l most)] := by
  refine ⟨l.length + 1, 4, ?_⟩
  unfold evTop
  simp only [List.map]
  rw [evF_s (hT := T84_84) (hb := rfl)]
  simp only [Try.f84, go_sem, Nat.reduceAdd, Nat.reduceSub, Nat.reduceMul, Nat.reduceEqDiff, Nat.reduceBEq, Nat.reduceLT, Nat.reduceLeDiff, Nat.reducePow, Int.reduceToNat, Int.reduceLT, Int.reduceLE, Int.reduceGT, Int.reduceGE, Int.reduceEq, Int.reduceNeg, Int.reduceAdd, Int.reduceSub, ↓reduceIte, reduceCtorEq]
  rw [e114 0 _ l most _ (by simp only [go_sem, Nat.reduceAdd, Nat.reduceSub, Nat.reduceMul, Nat.reduceEqDiff, Nat.reduceBEq, Nat.reduceLT, Nat.reduceLeDiff, Nat.reducePow, Int.reduceToNat, Int.reduceLT, Int.reduceLE, Int.reduceGT, Int.reduceGE, Int.reduceEq, Int.reduceNeg, Int.reduceAdd, Int.reduceSub, ↓reduceIte, reduceCtorEq]) (by simp only [go_sem, Nat.reduceAdd, Nat.reduceSub, Nat.reduceMul, Nat.reduceEqDiff, Nat.reduceBEq, Nat.reduceLT, Nat.reduceLeDiff, Nat.reducePow, Int.reduceToNat, Int.reduceLT, Int.reduceLE, Int.reduceGT, Int.reduceGE, Int.reduceEq, Int.reduceNeg, Int.reduceAdd, Int.reduceSub, ↓reduceIte, reduceCtorEq]) (by simp only [go_sem, Nat.reduceAdd, Nat.reduceSub, Nat.reduceMul, Nat.reduceEqDiff, Nat.reduceBEq, Nat.reduceLT, Nat.reduceLeDiff, Nat.reducePow, Int.reduceToNat, Int.reduceLT, Int.reduceLE, Int.reduceGT, Int.reduceGE, Int.reduceEq, Int.reduceNeg, Int.reduceAdd, Int.reduceSub, ↓reduceIte, reduceCtorEq]) hl _ (by omega)]
  simp only [go_sem, Nat.reduceAdd, Nat.reduceSub, Nat.reduceMul, Nat.reduceEqDiff, Nat.reduceBEq, Nat.reduceLT, Nat.reduceLeDiff, Nat.reducePow, Int.reduceToNat, Int.reduceLT, Int.reduceLE, Int.reduceGT, Int.reduceGE, Int.reduceEq, Int.reduceNeg, Int.reduceAdd, Int.reduceSub, ↓reduceIte, reduceCtorEq]
noncomputable def s84 : Ev.Spec := mkSpec (fun x : List Int × Int => [.sl 3 (x.1.map (.int .i64)), .int .i64 x.2]) (fun x => x.1.length ≤ 4611686018427387904) (fun x => [.bool (outside x.1 x.2)])
theorem map_inj {k : IntKind} {l l' : List Int} (h : l.map (D.int k) = l'.map (D.int k)) : l = l' := by
  induction l generalizing l' with
  | nil => cases l' with
    | nil => rfl
    | cons _ _ => cases h
  | cons x r ih => cases l' with
    | nil => cases h
    | cons y q => simp only [List.map_cons, List.cons.injEq, D.int.injEq, true_and] at h; rw [h.1, ih h.2]
theorem s84_run (l : List Int) (most : Int) (hl : l.length ≤ 4611686018427387904) : s84.run [.sl 3 (l.map (.int .i64)), .int .i64 most] = some [.bool (outside l most)] := by
  unfold s84
  exact mkSpec_run (enc := fun x : List Int × Int => [D.sl 3 (x.1.map (D.int .i64)), D.int .i64 x.2]) (pre := fun x => x.1.length ≤ 4611686018427387904) (fun x y h => by
    simp only [List.cons.injEq, D.sl.injEq, D.int.injEq, and_true, true_and] at h
    exact Prod.ext (map_inj h.1) h.2) (l, most) hl
theorem s84_ok : SpecOk Try.prog 84 s84 :=
  spec_of mixed specs_nil (table_cons Try.func84 (by kernel_rfl) (by kernel_rfl) (table_cons Try.func114 (by kernel_rfl) (by kernel_rfl) (table_cons Try.func128 (by kernel_rfl) (by kernel_rfl) (table_cons Try.func115 (by kernel_rfl) (by kernel_rfl) table_nil)))) fun x hp => e84 x.1 x.2 hp
#print axioms s84_ok
end Go.Proofs.Ytjplkbeolakbjaa.Out84Sens
end
section
set_option linter.unusedVariables false
set_option linter.unusedSimpArgs false
set_option maxRecDepth 100000
namespace Go.Proofs.Ytjplkbeolakbjaa.Out85Sens
open Go.Ev Go.Proofs.Ytjplkbeolakbjaa.FxSens
attribute [local go_sem] Ev.putR_s Ev.putR_0 Ev.thenO_s Ev.thenO_0 Ev.seqR_n Ev.seqR_e Ev.seqR_r Ev.seqR_0 Ev.blkR_e Ev.blkR_n Ev.blkR_r Ev.blkR_0 Ev.normR_s Ev.normR_0 Ev.outR_r Ev.outR_n Ev.outR_0 Ev.retS_s Ev.retS_0 Ev.pureO_s Ev.pureO_0 Ev.topR_0 Ev.topR_t Ev.topR_t0 Ev.oneL_0 Ev.oneL_s Ev.topR_d Ev.topR_nils Ev.topR_agg Ev.topR_rs Ev.evOp_move Ev.evOp_assign Ev.evOp_pick Ev.evOp_alloc Ev.evOp_box Ev.evOp_build Ev.evOp_buildSlice Ev.evOp_load Ev.evOp_store Ev.evOp_makeMap Ev.evOp_lookup Ev.evOp_mapUpdate Ev.evOp_insert Ev.evOp_nilCheck Ev.evOp_binOp Ev.evOp_unOp Ev.evOp_convert Ev.evOp_makeFunc Ev.evOp_makeSlice Ev.evOp_slice Ev.evOp_fieldAddr Ev.evOp_field Ev.evOp_indexAddr Ev.evOp_index Ev.evOp_extract Ev.evOp_call Ev.evOp_append Ev.evOp_len Ev.evOp_min Ev.evOp_max Ev.condR_b Ev.condR_t Ev.evOps_nil Ev.evOps_plain Ev.evOps_guard Ev.runG_eq Ev.skipG_eq Ev.condL_tt Ev.condL_ff Ev.condL_tf Ev.condL_ft Ev.condL_u Ev.condC_t Ev.condC_f Ev.evC_skip Ev.evC_ret Ev.evC_exit Ev.evC_label Ev.evC_region Ev.evC_draw Ev.evC_seq Ev.evC_cond Ev.evC_block Ev.evC_loop Ev.fin_d Ev.fin_nils Ev.fin_agg_ Ev.fin_rs Ev.finS_s Ev.mapO_fin Ev.upd_upd Ev.argv_d Ev.argv_nils Ev.argv_agg Ev.argv_rs Ev.argv_p Ev.appendTo_nils Ev.appendTo_rs Ev.consV_d Ev.consV_agg Ev.consV_p Ev.consV_rs Ev.consV_nils Ev.consV_fn Ev.consV_und Ev.consV_jk Ev.consV_grown Ev.topR_grown Ev.len_grown Ev.consV_mp Ev.sameK_i Ev.sameK_s Ev.mget_0 Ev.mget_hit Ev.mget_miss Ev.mput_0 Ev.mput_hit Ev.mput_miss Ev.apartAll Ev.apartL Ev.apartV Ev.freeAll Ev.sel Ev.keyOfV Ev.evLookup Ev.evPut Ev.hintOk Ev.keyOk Ev.consP Ev.lookV Ev.guardV Ev.dstAt Ev.evPure Ev.evStore Ev.evPureB Ev.evBin Ev.evBinO Ev.evNil Ev.isNilC Ev.evUn Ev.evConv Ev.evSlice Ev.optI Ev.lenV Ev.elemT Ev.foldI Ev.capsOk Ev.noTup Ev.nth Ev.setN Ev.pad Ev.V.get Ev.V.put Ev.putD Ev.hasT Ev.newBlk Ev.upd Ev.keq Ev.empty Ev.evCall Ev.V.args Ev.argP Ev.callOf Ev.evNilP Ev.isNilP Ev.look Ev.V.view.views Ev.V.view Ev.V.toD Ev.V.toD.V.toDs Ev.V.pure.pures Ev.V.pure Ev.D.flat.flats Ev.D.flat Ev.mkAgg Ev.allD Ev.aggParts Ev.setParts Ev.setElems Ev.getPath Ev.setPath Ev.subL Ev.eqD Ev.eqD.eqDs Ev.and2 Ev.strCut Ev.evalT Ev.constT Ev.evArgs Ev.mask Ev.maskOf Ev.tableOf Ev.compT Ev.resV Ev.retV Ev.mapO Ev.elemsOf Int.cast_ofNat_Int IntWalk.i64_in IntWalk.u64_in IntWalk.u8_in beq_self_eq_true Bool.true_beq Bool.false_beq Bool.and_true Bool.true_and Bool.false_and Bool.and_false Bool.and_self Bool.not_true Bool.not_false Bool.not_eq_true cond_true cond_false if_true if_false and_true true_and and_self decide_true decide_false Bool.or_true Bool.true_or Bool.or_false Bool.false_or List.isEmpty List.isEmpty_nil List.size_toArray List.map List.length_map List.length_cons List.length_nil Option.map Option.bind Option.getD Option.isSome List.replicate Bool.false_eq_true implies_true forall_const Array.toList Array.isEmpty List.append List.nil_append List.cons_append List.drop_zero List.take_length List.take_succ_cons List.take_zero List.take_nil List.getElem?_map List.getElem?_cons_zero List.getElem?_cons_succ List.getElem?_nil List.append_nil
attribute [local go_sem] FxSens.tk2 FxSens.ik2 FxSens.zv2 FxSens.tk3 FxSens.ik3 FxSens.zv3 FxSens.by3 FxSens.so3 FxSens.tk4 FxSens.ub4 FxSens.zv4 FxSens.tk22 FxSens.ik22 FxSens.zv22 FxSens.tk27 FxSens.ik27 FxSens.zv27 FxSens.by27 FxSens.so27 FxSens.tk32 FxSens.zv32 FxSens.tk36 FxSens.ik36 FxSens.zv36 FxSens.tk47 FxSens.ik47 FxSens.zv47 FxSens.by47 FxSens.so47 FxSens.tk54 FxSens.zv54 FxSens.tk56 FxSens.ct56 FxSens.zv56 FxSens.tk73 FxSens.zv73 FxSens.tk96 FxSens.ik96 FxSens.zv96 FxSens.tk97 FxSens.ct97 FxSens.zv97 FxSens.by97 FxSens.so97 FxSens.tk98 FxSens.zv98 FxSens.tk107 FxSens.zv107 FxSens.tk120 FxSens.zv120 FxSens.tk124 FxSens.zv124 FxSens.tk152 FxSens.zv152 FxSens.tk155 FxSens.zv155 FxSens.mk10_1000000 FxSens.mk15_1000000 FxSens.dw17_6 FxSens.nc17_6 FxSens.mk17_0 FxSens.mk17_1000001 FxSens.mk17_1000002 FxSens.mk17_1000000 FxSens.mk18_1000000 FxSens.mk19_1000000 FxSens.dw39_6 FxSens.nc39_6 FxSens.mk39_0 FxSens.mk39_1000001 FxSens.mk39_1000002 FxSens.mk39_1000000 FxSens.mk42_1000000 FxSens.mk43_1000001 FxSens.mk43_1000000 FxSens.mk44_0 FxSens.mk44_2 FxSens.mk44_1000001 FxSens.mk44_1000002 FxSens.mk44_1000003 FxSens.mk44_1000004 FxSens.mk44_1000000 FxSens.mk45_0 FxSens.mk45_2 FxSens.mk45_4 FxSens.mk45_1000001 FxSens.mk45_1000002 FxSens.mk45_1000003 FxSens.mk45_1000004 FxSens.mk45_1000005 FxSens.mk45_1000006 FxSens.mk45_1000000 FxSens.dw46_28 FxSens.nc46_28 FxSens.mk46_0 FxSens.mk46_2 FxSens.mk46_4 FxSens.mk46_1000001 FxSens.mk46_1000002 FxSens.mk46_1000003 FxSens.mk46_1000004 FxSens.mk46_1000005 FxSens.mk46_1000006 FxSens.mk46_1000000 FxSens.dw47_6 FxSens.nc47_6 FxSens.mk47_0 FxSens.mk47_1000001 FxSens.mk47_1000002 FxSens.mk47_1000000 FxSens.dw48_10 FxSens.nc48_10 FxSens.dw48_11 FxSens.nc48_11 FxSens.mk48_0 FxSens.mk48_1000001 FxSens.mk48_1000002 FxSens.mk48_1000000 FxSens.mk61_1000000 FxSens.mk83_1000000 FxSens.mk84_1000000 FxSens.mk85_1000000 FxSens.mk86_1000000 FxSens.mk87_1000000 FxSens.dw88_1 FxSens.nc88_1 FxSens.mk88_1000000 FxSens.dw89_5 FxSens.nc89_5 FxSens.mk89_0 FxSens.mk89_1000001 FxSens.mk89_1000002 FxSens.mk89_1000000 FxSens.mk90_1000000 FxSens.dw91_3 FxSens.nc91_3 FxSens.mk91_0 FxSens.mk91_1000001 FxSens.mk91_1000002 FxSens.mk91_1000000 FxSens.mk92_1000000 FxSens.mk93_1000000 FxSens.mk94_0 FxSens.mk94_1000001 FxSens.mk94_1000002 FxSens.mk94_1000000 FxSens.dw95_3 FxSens.nc95_3 FxSens.dw95_6 FxSens.nc95_6 FxSens.mk95_0 FxSens.mk95_1000001 FxSens.mk95_1000002 FxSens.mk95_1000000 FxSens.mk114_1000000 FxSens.mk115_1000000 FxSens.mk116_1000000 FxSens.mk117_1000000 FxSens.mk118_1000000 FxSens.mk119_1000000 FxSens.mk128_0 FxSens.mk128_1000001 FxSens.mk128_1000002 FxSens.mk128_1000000 FxSens.mk129_0 FxSens.mk129_1000001 FxSens.mk129_1000002 FxSens.mk129_1000000 FxSens.mk130_0 FxSens.mk130_1000001 FxSens.mk130_1000002 FxSens.mk130_1000000
def outB (most x : Int) : Bool := decide (x < 0) || decide (x > most)
def outside (l : List Int) (most : Int) : Bool := l.any (outB most)

noncomputable def T85 : Table := tableOf [(85, en85), (116, en116), (129, en129), (117, en117)]
theorem T85_85 : T85 85 = some en85 := rfl
theorem T85_116 : T85 116 = some en116 := rfl
theorem T85_129 : T85 129 = some en129 := rfl
theorem T85_117 : T85 117 = some en117 := rfl
theorem e117 (L c lv : Nat) (x most : Int) (st : Store) (h : (st (0, 3)).ver = 1) (h1 : (st (0, 3)).live = true) (h2 : (st (0, 3)).vs = [.d (.int .i64 most)]) :
    evF Try.prog [] T85 L (c + 1) 117 [.d (.int .i64 x), .p (0, 3) 1 0 []] lv st = some (.d (.bool (outB most x)), st) := by
  rw [evF_s (hT := T85_117) (hb := rfl)]
  by_cases h3 : x < 0
  · simp only [Try.f117, go_sem, Nat.reduceAdd, Nat.reduceSub, Nat.reduceMul, Nat.reduceEqDiff, Nat.reduceBEq, Nat.reduceLT, Nat.reduceLeDiff, Nat.reducePow, Int.reduceToNat, Int.reduceLT, Int.reduceLE, Int.reduceGT, Int.reduceGE, Int.reduceEq, Int.reduceNeg, Int.reduceAdd, Int.reduceSub, ↓reduceIte, reduceCtorEq, h, h1, h2, h3, outB]
  · simp only [Try.f117, go_sem, Nat.reduceAdd, Nat.reduceSub, Nat.reduceMul, Nat.reduceEqDiff, Nat.reduceBEq, Nat.reduceLT, Nat.reduceLeDiff, Nat.reducePow, Int.reduceToNat, Int.reduceLT, Int.reduceLE, Int.reduceGT, Int.reduceGE, Int.reduceEq, Int.reduceNeg, Int.reduceAdd, Int.reduceSub, ↓reduceIte, reduceCtorEq, h, h1, h2, h3, outB]

/-- The place of the first that is outside, from i on. -/
def idx (p : Int → Bool) : List Int → Int → Int
  | [], _ => -1
  | x :: r, i => if p x = true then i else idx p r (i + 1)
theorem idx_any (p : Int → Bool) : ∀ (l : List Int) (i : Int), 0 ≤ i → decide (idx p l i ≥ 0) = l.any p
  | [], i, _ => rfl
  | x :: r, i, h => by
    simp only [idx, List.any_cons]
    by_cases hp : p x = true
    · simp [hp, h]
    · simp only [hp, Bool.false_eq_true, if_false, Bool.false_or]; exact idx_any p r (i + 1) (by omega)
theorem idx_none (p : Int → Bool) : ∀ (l : List Int) (i : Int), l.any p = false → idx p l i = -1
  | [], _, _ => rfl
  | x :: r, i, h => by
    simp only [List.any_cons, Bool.or_eq_false_iff] at h
    rw [idx, if_neg (by simp [h.1])]
    exact idx_none p r (i + 1) h.2

def h129 (l : List Int) (i : Nat) : List V := hd129_0 (.d (.sl 47 (l.map (.int .i64)))) (.fn 117 [.p (0, 3) 1 0 []]) (.d (.int .i64 l.length)) (.d (.int .i64 i))
def R129 (l : List Int) (most : Int) (st : Store) (i : Nat) : Out := if (l.drop i).any (outB most) = true then some (.ret, hr129 (.d (.int .i64 (idx (outB most) (l.drop i) i))), st) else some (.exit 0, hx129_0, st)
theorem l129 (L c lv : Nat) (l : List Int) (most : Int) (st : Store) (h : (st (0, 3)).ver = 1) (h1 : (st (0, 3)).live = true) (h2 : (st (0, 3)).vs = [.d (.int .i64 most)]) (hl : l.length ≤ 4611686018527387904) :
    ∀ (n i : Nat) (env : List V), i ≤ l.length → l.length - i < n → mask (maskOf en129.ms 0) env = h129 l i →
      iter (evC Try.prog [] (evF Try.prog [] T85 L (c + 1)) L en129.ms lv 0 lb129_0) (maskOf en129.ms 0) n env st = R129 l most st i := by
  refine iter_wf _ _ (fun i => i ≤ l.length) (h129 l) (fun _ => st) (R129 l most st) (fun i => l.length - i) ?_
  intro i hi k hk
  by_cases hil : i < l.length
  case neg =>
    obtain rfl : i = l.length := by omega
    have hlt : ¬ (l.length : Int) < l.length := by omega
    simp only [lb129_0, loopN, loops, h129, hd129_0, R129, hr129, hx129_0, Try.f129, go_sem, Nat.reduceAdd, Nat.reduceSub, Nat.reduceMul, Nat.reduceEqDiff, Nat.reduceBEq, Nat.reduceLT, Nat.reduceLeDiff, Nat.reducePow, Int.reduceToNat, Int.reduceLT, Int.reduceLE, Int.reduceGT, Int.reduceGE, Int.reduceEq, Int.reduceNeg, Int.reduceAdd, Int.reduceSub, ↓reduceIte, reduceCtorEq, hlt, List.drop_length, List.any_nil]
  have hlt : (i : Int) < l.length := by omega
  have hx : (l.map (D.int .i64))[i]? = some (.int .i64 l[i]) := by simp [hil]
  have hdr : l.drop i = l[i] :: l.drop (i + 1) := List.drop_eq_getElem_cons hil
  have hw : IntKind.i64.wrap ((i : Int) + 1) = ((i + 1 : Nat) : Int) := by rw [IntWalk.i64_in _ (by omega)]; rfl
  have h0 : (0 : Int) ≤ (i : Int) := by omega
  have ht : ((i : Int)).toNat = i := by omega
  by_cases hp : outB most l[i] = true
  · have hR : R129 l most st i = some (.ret, hr129 (.d (.int .i64 i)), st) := by
      rw [R129, hdr, List.any_cons, hp, Bool.true_or, if_pos rfl, idx, if_pos hp]
    rw [hR]
    simp only [lb129_0, loopN, loops, h129, hd129_0, hr129, Try.f129, go_sem, Nat.reduceAdd, Nat.reduceSub, Nat.reduceMul, Nat.reduceEqDiff, Nat.reduceBEq, Nat.reduceLT, Nat.reduceLeDiff, Nat.reducePow, Int.reduceToNat, Int.reduceLT, Int.reduceLE, Int.reduceGT, Int.reduceGE, Int.reduceEq, Int.reduceNeg, Int.reduceAdd, Int.reduceSub, ↓reduceIte, reduceCtorEq, hlt, hx, h0, ht, e117 L c _ _ most st h h1 h2, hp]
  · have hp' : outB most l[i] = false := by simpa using hp
    have hR : R129 l most st i = R129 l most st (i + 1) := by
      rw [R129, hdr, List.any_cons, hp', Bool.false_or, idx, if_neg hp]; rfl
    rw [hR]
    simp only [lb129_0, loopN, loops, h129, hd129_0, Try.f129, go_sem, Nat.reduceAdd, Nat.reduceSub, Nat.reduceMul, Nat.reduceEqDiff, Nat.reduceBEq, Nat.reduceLT, Nat.reduceLeDiff, Nat.reducePow, Int.reduceToNat, Int.reduceLT, Int.reduceLE, Int.reduceGT, Int.reduceGE, Int.reduceEq, Int.reduceNeg, Int.reduceAdd, Int.reduceSub, ↓reduceIte, reduceCtorEq, hlt, hx, h0, ht, e117 L c _ _ most st h h1 h2, hp', hw]
    exact hk (i + 1) _ (by omega) (by omega) (by simp only [h129, hd129_0, go_sem, Nat.reduceAdd, Nat.reduceSub, Nat.reduceMul, Nat.reduceEqDiff, Nat.reduceBEq, Nat.reduceLT, Nat.reduceLeDiff, Nat.reducePow, Int.reduceToNat, Int.reduceLT, Int.reduceLE, Int.reduceGT, Int.reduceGE, Int.reduceEq, Int.reduceNeg, Int.reduceAdd, Int.reduceSub, ↓reduceIte, reduceCtorEq, hw])
theorem e129 (c lv : Nat) (l : List Int) (most : Int) (st : Store) (h : (st (0, 3)).ver = 1) (h1 : (st (0, 3)).live = true) (h2 : (st (0, 3)).vs = [.d (.int .i64 most)]) (hl : l.length ≤ 4611686018527387904) (L : Nat) (hL : l.length < L) :
    evF Try.prog [] T85 L (c + 2) 129 [.d (.sl 47 (l.map (.int .i64))), .fn 117 [.p (0, 3) 1 0 []]] lv st = some (.d (.int .i64 (idx (outB most) l 0)), st) := by
  rw [evF_s (hT := T85_129) (hb := rfl)]
  simp only [Try.f129, go_sem, Nat.reduceAdd, Nat.reduceSub, Nat.reduceMul, Nat.reduceEqDiff, Nat.reduceBEq, Nat.reduceLT, Nat.reduceLeDiff, Nat.reducePow, Int.reduceToNat, Int.reduceLT, Int.reduceLE, Int.reduceGT, Int.reduceGE, Int.reduceEq, Int.reduceNeg, Int.reduceAdd, Int.reduceSub, ↓reduceIte, reduceCtorEq]
  conv in iter _ _ _ _ _ => change iter (evC _ _ _ _ en129.ms _ _ lb129_0) (maskOf en129.ms 0) _ _ _
  rw [l129 L c lv l most st h h1 h2 hl L 0 _ (by omega) (by omega) (by simp only [h129, hd129_0, go_sem, Nat.reduceAdd, Nat.reduceSub, Nat.reduceMul, Nat.reduceEqDiff, Nat.reduceBEq, Nat.reduceLT, Nat.reduceLeDiff, Nat.reducePow, Int.reduceToNat, Int.reduceLT, Int.reduceLE, Int.reduceGT, Int.reduceGE, Int.reduceEq, Int.reduceNeg, Int.reduceAdd, Int.reduceSub, ↓reduceIte, reduceCtorEq])]
  rw [R129, List.drop_zero]
  by_cases ha : l.any (outB most) = true
  · rw [if_pos ha]
    simp only [hr129, go_sem, Nat.reduceAdd, Nat.reduceSub, Nat.reduceMul, Nat.reduceEqDiff, Nat.reduceBEq, Nat.reduceLT, Nat.reduceLeDiff, Nat.reducePow, Int.reduceToNat, Int.reduceLT, Int.reduceLE, Int.reduceGT, Int.reduceGE, Int.reduceEq, Int.reduceNeg, Int.reduceAdd, Int.reduceSub, ↓reduceIte, reduceCtorEq]
  · rw [if_neg ha]
    have hi : idx (outB most) l 0 = -1 := idx_none _ _ _ (by simpa using ha)
    simp only [hx129_0, go_sem, Nat.reduceAdd, Nat.reduceSub, Nat.reduceMul, Nat.reduceEqDiff, Nat.reduceBEq, Nat.reduceLT, Nat.reduceLeDiff, Nat.reducePow, Int.reduceToNat, Int.reduceLT, Int.reduceLE, Int.reduceGT, Int.reduceGE, Int.reduceEq, Int.reduceNeg, Int.reduceAdd, Int.reduceSub, ↓reduceIte, reduceCtorEq, hi]
theorem e116 (c lv : Nat) (l : List Int) (most : Int) (st : Store) (h : (st (0, 3)).ver = 1) (h1 : (st (0, 3)).live = true) (h2 : (st (0, 3)).vs = [.d (.int .i64 most)]) (hl : l.length ≤ 4611686018527387904) (L : Nat) (hL : l.length < L) :
    evF Try.prog [] T85 L (c + 3) 116 [.d (.sl 47 (l.map (.int .i64))), .fn 117 [.p (0, 3) 1 0 []]] lv st = some (.d (.bool (outside l most)), st) := by
  rw [evF_s (hT := T85_116) (hb := rfl)]
  have hi := idx_any (outB most) l 0 (by omega)
  simp only [Try.f116, go_sem, Nat.reduceAdd, Nat.reduceSub, Nat.reduceMul, Nat.reduceEqDiff, Nat.reduceBEq, Nat.reduceLT, Nat.reduceLeDiff, Nat.reducePow, Int.reduceToNat, Int.reduceLT, Int.reduceLE, Int.reduceGT, Int.reduceGE, Int.reduceEq, Int.reduceNeg, Int.reduceAdd, Int.reduceSub, ↓reduceIte, reduceCtorEq, e129 c _ l most st h h1 h2 hl L hL, hi, outside]
theorem e85 (l : List Int) (most : Int) (hl : l.length ≤ 4611686018527387904) : ∃ L c, evTop Try.prog [] T85 L c 85 [.sl 47 (l.map (.int .i64)), .int .i64 most] = some [.bool (outside l most)] := by
  refine ⟨l.length + 1, 4, ?_⟩
  unfold evTop
  simp only [List.map]
  rw [evF_s (hT := T85_85) (hb := rfl)]
  simp only [Try.f85, go_sem, Nat.reduceAdd, Nat.reduceSub, Nat.reduceMul, Nat.reduceEqDiff, Nat.reduceBEq, Nat.reduceLT, Nat.reduceLeDiff, Nat.reducePow, Int.reduceToNat, Int.reduceLT, Int.reduceLE, Int.reduceGT, Int.reduceGE, Int.reduceEq, Int.reduceNeg, Int.reduceAdd, Int.reduceSub, ↓reduceIte, reduceCtorEq]
  rw [e116 0 _ l most _ (by simp only [go_sem, Nat.reduceAdd, Nat.reduceSub, Nat.reduceMul, Nat.reduceEqDiff, Nat.reduceBEq, Nat.reduceLT, Nat.reduceLeDiff, Nat.reducePow, Int.reduceToNat, Int.reduceLT, Int.reduceLE, Int.reduceGT, Int.reduceGE, Int.reduceEq, Int.reduceNeg, Int.reduceAdd, Int.reduceSub, ↓reduceIte, reduceCtorEq]) (by simp only [go_sem, Nat.reduceAdd, Nat.reduceSub, Nat.reduceMul, Nat.reduceEqDiff, Nat.reduceBEq, Nat.reduceLT, Nat.reduceLeDiff, Nat.reducePow, Int.reduceToNat, Int.reduceLT, Int.reduceLE, Int.reduceGT, Int.reduceGE, Int.reduceEq, Int.reduceNeg, Int.reduceAdd, Int.reduceSub, ↓reduceIte, reduceCtorEq]) (by simp only [go_sem, Nat.reduceAdd, Nat.reduceSub, Nat.reduceMul, Nat.reduceEqDiff, Nat.reduceBEq, Nat.reduceLT, Nat.reduceLeDiff, Nat.reducePow, Int.reduceToNat, Int.reduceLT, Int.reduceLE, Int.reduceGT, Int.reduceGE, Int.reduceEq, Int.reduceNeg, Int.reduceAdd, Int.reduceSub, ↓reduceIte, reduceCtorEq]) hl _ (by omega)]
  simp only [go_sem, Nat.reduceAdd, Nat.reduceSub, Nat.reduceMul, Nat.reduceEqDiff, Nat.reduceBEq, Nat.reduceLT, Nat.reduceLeDiff, Nat.reducePow, Int.reduceToNat, Int.reduceLT, Int.reduceLE, Int.reduceGT, Int.reduceGE, Int.reduceEq, Int.reduceNeg, Int.reduceAdd, Int.reduceSub, ↓reduceIte, reduceCtorEq]
noncomputable def s85 : Ev.Spec := mkSpec (fun x : List Int × Int => [.sl 47 (x.1.map (.int .i64)), .int .i64 x.2]) (fun x => x.1.length ≤ 4611686018527387904) (fun x => [.bool (outside x.1 x.2)])
theorem map_inj {k : IntKind} {l l' : List Int} (h : l.map (D.int k) = l'.map (D.int k)) : l = l' := by
  induction l generalizing l' with
  | nil => cases l' with
    | nil => rfl
    | cons _ _ => cases h
  | cons x r ih => cases l' with
    | nil => cases h
    | cons y q => simp only [List.map_cons, List.cons.injEq, D.int.injEq, true_and] at h; rw [h.1, ih h.2]
theorem s85_run (l : List Int) (most : Int) (hl : l.length ≤ 4611686018527387904) : s85.run [.sl 47 (l.map (.int .i64)), .int .i64 most] = some [.bool (outside l most)] := by
  unfold s85
  exact mkSpec_run (enc := fun x : List Int × Int => [D.sl 47 (x.1.map (D.int .i64)), D.int .i64 x.2]) (pre := fun x => x.1.length ≤ 4611686018527387904) (fun x y h => by
    simp only [List.cons.injEq, D.sl.injEq, D.int.injEq, and_true, true_and] at h
    exact Prod.ext (map_inj h.1) h.2) (l, most) hl
theorem s85_ok : SpecOk Try.prog 85 s85 :=
  spec_of mixed specs_nil (table_cons Try.func85 (by kernel_rfl) (by kernel_rfl) (table_cons Try.func116 (by kernel_rfl) (by kernel_rfl) (table_cons Try.func129 (by kernel_rfl) (by kernel_rfl) (table_cons Try.func117 (by kernel_rfl) (by kernel_rfl) table_nil)))) fun x hp => e85 x.1 x.2 hp
#print axioms s85_ok
end Go.Proofs.Ytjplkbeolakbjaa.Out85Sens
end
section
set_option linter.unusedVariables false
set_option linter.unusedSimpArgs false
set_option maxRecDepth 100000
namespace Go.Proofs.Ytjplkbeolakbjaa.Out87Sens
open Go.Ev Go.Proofs.Ytjplkbeolakbjaa.FxSens
attribute [local go_sem] Ev.putR_s Ev.putR_0 Ev.thenO_s Ev.thenO_0 Ev.seqR_n Ev.seqR_e Ev.seqR_r Ev.seqR_0 Ev.blkR_e Ev.blkR_n Ev.blkR_r Ev.blkR_0 Ev.normR_s Ev.normR_0 Ev.outR_r Ev.outR_n Ev.outR_0 Ev.retS_s Ev.retS_0 Ev.pureO_s Ev.pureO_0 Ev.topR_0 Ev.topR_t Ev.topR_t0 Ev.oneL_0 Ev.oneL_s Ev.topR_d Ev.topR_nils Ev.topR_agg Ev.topR_rs Ev.evOp_move Ev.evOp_assign Ev.evOp_pick Ev.evOp_alloc Ev.evOp_box Ev.evOp_build Ev.evOp_buildSlice Ev.evOp_load Ev.evOp_store Ev.evOp_makeMap Ev.evOp_lookup Ev.evOp_mapUpdate Ev.evOp_insert Ev.evOp_nilCheck Ev.evOp_binOp Ev.evOp_unOp Ev.evOp_convert Ev.evOp_makeFunc Ev.evOp_makeSlice Ev.evOp_slice Ev.evOp_fieldAddr Ev.evOp_field Ev.evOp_indexAddr Ev.evOp_index Ev.evOp_extract Ev.evOp_call Ev.evOp_append Ev.evOp_len Ev.evOp_min Ev.evOp_max Ev.condR_b Ev.condR_t Ev.evOps_nil Ev.evOps_plain Ev.evOps_guard Ev.runG_eq Ev.skipG_eq Ev.condL_tt Ev.condL_ff Ev.condL_tf Ev.condL_ft Ev.condL_u Ev.condC_t Ev.condC_f Ev.evC_skip Ev.evC_ret Ev.evC_exit Ev.evC_label Ev.evC_region Ev.evC_draw Ev.evC_seq Ev.evC_cond Ev.evC_block Ev.evC_loop Ev.fin_d Ev.fin_nils Ev.fin_agg_ Ev.fin_rs Ev.finS_s Ev.mapO_fin Ev.upd_upd Ev.argv_d Ev.argv_nils Ev.argv_agg Ev.argv_rs Ev.argv_p Ev.appendTo_nils Ev.appendTo_rs Ev.consV_d Ev.consV_agg Ev.consV_p Ev.consV_rs Ev.consV_nils Ev.consV_fn Ev.consV_und Ev.consV_jk Ev.consV_grown Ev.topR_grown Ev.len_grown Ev.consV_mp Ev.sameK_i Ev.sameK_s Ev.mget_0 Ev.mget_hit Ev.mget_miss Ev.mput_0 Ev.mput_hit Ev.mput_miss Ev.apartAll Ev.apartL Ev.apartV Ev.freeAll Ev.sel Ev.keyOfV Ev.evLookup Ev.evPut Ev.hintOk Ev.keyOk Ev.consP Ev.lookV Ev.guardV Ev.dstAt Ev.evPure Ev.evStore Ev.evPureB Ev.evBin Ev.evBinO Ev.evNil Ev.isNilC Ev.evUn Ev.evConv Ev.evSlice Ev.optI Ev.lenV Ev.elemT Ev.foldI Ev.capsOk Ev.noTup Ev.nth Ev.setN Ev.pad Ev.V.get Ev.V.put Ev.putD Ev.hasT Ev.newBlk Ev.upd Ev.keq Ev.empty Ev.evCall Ev.V.args Ev.argP Ev.callOf Ev.evNilP Ev.isNilP Ev.look Ev.V.view.views Ev.V.view Ev.V.toD Ev.V.toD.V.toDs Ev.V.pure.pures Ev.V.pure Ev.D.flat.flats Ev.D.flat Ev.mkAgg Ev.allD Ev.aggParts Ev.setParts Ev.setElems Ev.getPath Ev.setPath Ev.subL Ev.eqD Ev.eqD.eqDs Ev.and2 Ev.strCut Ev.evalT Ev.constT Ev.evArgs Ev.mask Ev.maskOf Ev.tableOf Ev.compT Ev.resV Ev.retV Ev.mapO Ev.elemsOf Int.cast_ofNat_Int IntWalk.i64_in IntWalk.u64_in IntWalk.u8_in beq_self_eq_true Bool.true_beq Bool.false_beq Bool.and_true Bool.true_and Bool.false_and Bool.and_false Bool.and_self Bool.not_true Bool.not_false Bool.not_eq_true cond_true cond_false if_true if_false and_true true_and and_self decide_true decide_false Bool.or_true Bool.true_or Bool.or_false Bool.false_or List.isEmpty List.isEmpty_nil List.size_toArray List.map List.length_map List.length_cons List.length_nil Option.map Option.bind Option.getD Option.isSome List.replicate Bool.false_eq_true implies_true forall_const Array.toList Array.isEmpty List.append List.nil_append List.cons_append List.drop_zero List.take_length List.take_succ_cons List.take_zero List.take_nil List.getElem?_map List.getElem?_cons_zero List.getElem?_cons_succ List.getElem?_nil List.append_nil
attribute [local go_sem] FxSens.tk2 FxSens.ik2 FxSens.zv2 FxSens.tk3 FxSens.ik3 FxSens.zv3 FxSens.by3 FxSens.so3 FxSens.tk4 FxSens.ub4 FxSens.zv4 FxSens.tk22 FxSens.ik22 FxSens.zv22 FxSens.tk27 FxSens.ik27 FxSens.zv27 FxSens.by27 FxSens.so27 FxSens.tk32 FxSens.zv32 FxSens.tk36 FxSens.ik36 FxSens.zv36 FxSens.tk47 FxSens.ik47 FxSens.zv47 FxSens.by47 FxSens.so47 FxSens.tk54 FxSens.zv54 FxSens.tk56 FxSens.ct56 FxSens.zv56 FxSens.tk73 FxSens.zv73 FxSens.tk96 FxSens.ik96 FxSens.zv96 FxSens.tk97 FxSens.ct97 FxSens.zv97 FxSens.by97 FxSens.so97 FxSens.tk98 FxSens.zv98 FxSens.tk107 FxSens.zv107 FxSens.tk120 FxSens.zv120 FxSens.tk124 FxSens.zv124 FxSens.tk152 FxSens.zv152 FxSens.tk155 FxSens.zv155 FxSens.mk10_1000000 FxSens.mk15_1000000 FxSens.dw17_6 FxSens.nc17_6 FxSens.mk17_0 FxSens.mk17_1000001 FxSens.mk17_1000002 FxSens.mk17_1000000 FxSens.mk18_1000000 FxSens.mk19_1000000 FxSens.dw39_6 FxSens.nc39_6 FxSens.mk39_0 FxSens.mk39_1000001 FxSens.mk39_1000002 FxSens.mk39_1000000 FxSens.mk42_1000000 FxSens.mk43_1000001 FxSens.mk43_1000000 FxSens.mk44_0 FxSens.mk44_2 FxSens.mk44_1000001 FxSens.mk44_1000002 FxSens.mk44_1000003 FxSens.mk44_1000004 FxSens.mk44_1000000 FxSens.mk45_0 FxSens.mk45_2 FxSens.mk45_4 FxSens.mk45_1000001 FxSens.mk45_1000002 FxSens.mk45_1000003 FxSens.mk45_1000004 FxSens.mk45_1000005 FxSens.mk45_1000006 FxSens.mk45_1000000 FxSens.dw46_28 FxSens.nc46_28 FxSens.mk46_0 FxSens.mk46_2 FxSens.mk46_4 FxSens.mk46_1000001 FxSens.mk46_1000002 FxSens.mk46_1000003 FxSens.mk46_1000004 FxSens.mk46_1000005 FxSens.mk46_1000006 FxSens.mk46_1000000 FxSens.dw47_6 FxSens.nc47_6 FxSens.mk47_0 FxSens.mk47_1000001 FxSens.mk47_1000002 FxSens.mk47_1000000 FxSens.dw48_10 FxSens.nc48_10 FxSens.dw48_11 FxSens.nc48_11 FxSens.mk48_0 FxSens.mk48_1000001 FxSens.mk48_1000002 FxSens.mk48_1000000 FxSens.mk61_1000000 FxSens.mk83_1000000 FxSens.mk84_1000000 FxSens.mk85_1000000 FxSens.mk86_1000000 FxSens.mk87_1000000 FxSens.dw88_1 FxSens.nc88_1 FxSens.mk88_1000000 FxSens.dw89_5 FxSens.nc89_5 FxSens.mk89_0 FxSens.mk89_1000001 FxSens.mk89_1000002 FxSens.mk89_1000000 FxSens.mk90_1000000 FxSens.dw91_3 FxSens.nc91_3 FxSens.mk91_0 FxSens.mk91_1000001 FxSens.mk91_1000002 FxSens.mk91_1000000 FxSens.mk92_1000000 FxSens.mk93_1000000 FxSens.mk94_0 FxSens.mk94_1000001 FxSens.mk94_1000002 FxSens.mk94_1000000 FxSens.dw95_3 FxSens.nc95_3 FxSens.dw95_6 FxSens.nc95_6 FxSens.mk95_0 FxSens.mk95_1000001 FxSens.mk95_1000002 FxSens.mk95_1000000 FxSens.mk114_1000000 FxSens.mk115_1000000 FxSens.mk116_1000000 FxSens.mk117_1000000 FxSens.mk118_1000000 FxSens.mk119_1000000 FxSens.mk128_0 FxSens.mk128_1000001 FxSens.mk128_1000002 FxSens.mk128_1000000 FxSens.mk129_0 FxSens.mk129_1000001 FxSens.mk129_1000002 FxSens.mk129_1000000 FxSens.mk130_0 FxSens.mk130_1000001 FxSens.mk130_1000002 FxSens.mk130_1000000
def outB (most x : Int) : Bool := decide (x < 0) || decide (x > most)
def outside (l : List Int) (most : Int) : Bool := l.any (outB most)

noncomputable def T87 : Table := tableOf [(87, en87), (118, en118), (130, en130), (119, en119)]
theorem T87_87 : T87 87 = some en87 := rfl
theorem T87_118 : T87 118 = some en118 := rfl
theorem T87_130 : T87 130 = some en130 := rfl
theorem T87_119 : T87 119 = some en119 := rfl
theorem e119 (L c lv : Nat) (x most : Int) (st : Store) (h : (st (0, 3)).ver = 1) (h1 : (st (0, 3)).live = true) (h2 : (st (0, 3)).vs = [.d (.int .i64 most)]) :
    evF Try.prog [] T87 L (c + 1) 119 [.d (.int .i64 x), .p (0, 3) 1 0 []] lv st = some (.d (.bool (outB most x)), st) := by
  rw [evF_s (hT := T87_119) (hb := rfl)]
  by_cases h3 : x < 0
  · simp only [Try.f119, go_sem, Nat.reduceAdd, Nat.reduceSub, Nat.reduceMul, Nat.reduceEqDiff, Nat.reduceBEq, Nat.reduceLT, Nat.reduceLeDiff, Nat.reducePow, Int.reduceToNat, Int.reduceLT, Int.reduceLE, Int.reduceGT, Int.reduceGE, Int.reduceEq, Int.reduceNeg, Int.reduceAdd, Int.reduceSub, ↓reduceIte, reduceCtorEq, h, h1, h2, h3, outB]
  · simp only [Try.f119, go_sem, Nat.reduceAdd, Nat.reduceSub, Nat.reduceMul, Nat.reduceEqDiff, Nat.reduceBEq, Nat.reduceLT, Nat.reduceLeDiff, Nat.reducePow, Int.reduceToNat, Int.reduceLT, Int.reduceLE, Int.reduceGT, Int.reduceGE, Int.reduceEq, Int.reduceNeg, Int.reduceAdd, Int.reduceSub, ↓reduceIte, reduceCtorEq, h, h1, h2, h3, outB]

/-- The place of the first that is outside, from i on. -/
def idx (p : Int → Bool) : List Int → Int → Int
  | [], _ => -1
  | x :: r, i => if p x = true then i else idx p r (i + 1)
theorem idx_any (p : Int → Bool) : ∀ (l : List Int) (i : Int), 0 ≤ i → decide (idx p l i ≥ 0) = l.any p
  | [], i, _ => rfl
  | x :: r, i, h => by
    simp only [idx, List.any_cons]
    by_cases hp : p x = true
    · simp [hp, h]
    · simp only [hp, Bool.false_eq_true, if_false, Bool.false_or]; exact idx_any p r (i + 1) (by omega)
theorem idx_none (p : Int → Bool) : ∀ (l : List Int) (i : Int), l.any p = false → idx p l i = -1
  | [], _, _ => rfl
  | x :: r, i, h => by
    simp only [List.any_cons, Bool.or_eq_false_iff] at h
    rw [idx, if_neg (by simp [h.1])]
    exact idx_none p r (i + 1) h.2

def h130 (l : List Int) (i : Nat) : List V := hd130_0 (.d (.sl 27 (l.map (.int .i64)))) (.fn 119 [.p (0, 3) 1 0 []]) (.d (.int .i64 l.length)) (.d (.int .i64 i))
def R130 (l : List Int) (most : Int) (st : Store) (i : Nat) : Out := if (l.drop i).any (outB most) = true then some (.ret, hr130 (.d (.int .i64 (idx (outB most) (l.drop i) i))), st) else some (.exit 0, hx130_0, st)
theorem l130 (L c lv : Nat) (l : List Int) (most : Int) (st : Store) (h : (st (0, 3)).ver = 1) (h1 : (st (0, 3)).live = true) (h2 : (st (0, 3)).vs = [.d (.int .i64 most)]) (hl : l.length ≤ 4611686018727387904) :
    ∀ (n i : Nat) (env : List V), i ≤ l.length → l.length - i < n → mask (maskOf en130.ms 0) env = h130 l i →
      iter (evC Try.prog [] (evF Try.prog [] T87 L (c + 1)) L en130.ms lv 0 lb130_0) (maskOf en130.ms 0) n env st = R130 l most st i := by
  refine iter_wf _ _ (fun i => i ≤ l.length) (h130 l) (fun _ => st) (R130 l most st) (fun i => l.length - i) ?_
  intro i hi k hk
  by_cases hil : i < l.length
  case neg =>
    obtain rfl : i = l.length := by omega
    have hlt : ¬ (l.length : Int) < l.length := by omega
    simp only [lb130_0, loopN, loops, h130, hd130_0, R130, hr130, hx130_0, Try.f130, go_sem, Nat.reduceAdd, Nat.reduceSub, Nat.reduceMul, Nat.reduceEqDiff, Nat.reduceBEq, Nat.reduceLT, Nat.reduceLeDiff, Nat.reducePow, Int.reduceToNat, Int.reduceLT, Int.reduceLE, Int.reduceGT, Int.reduceGE, Int.reduceEq, Int.reduceNeg, Int.reduceAdd, Int.reduceSub, ↓reduceIte, reduceCtorEq, hlt, List.drop_length, List.any_nil]
  have hlt : (i : Int) < l.length := by omega
  have hx : (l.map (D.int .i64))[i]? = some (.int .i64 l[i]) := by simp [hil]
  have hdr : l.drop i = l[i] :: l.drop (i + 1) := List.drop_eq_getElem_cons hil
  have hw : IntKind.i64.wrap ((i : Int) + 1) = ((i + 1 : Nat) : Int) := by rw [IntWalk.i64_in _ (by omega)]; rfl
  have h0 : (0 : Int) ≤ (i : Int) := by omega
  have ht : ((i : Int)).toNat = i := by omega
  by_cases hp : outB most l[i] = true
  · have hR : R130 l most st i = some (.ret, hr130 (.d (.int .i64 i)), st) := by
      rw [R130, hdr, List.any_cons, hp, Bool.true_or, if_pos rfl, idx, if_pos hp]
    rw [hR]
    simp only [lb130_0, loopN, loops, h130, hd130_0, hr130, Try.f130, go_sem, Nat.reduceAdd, Nat.reduceSub, Nat.reduceMul, Nat.reduceEqDiff, Nat.reduceBEq, Nat.reduceLT, Nat.reduceLeDiff, Nat.reducePow, Int.reduceToNat, Int.reduceLT, Int.reduceLE, Int.reduceGT, Int.reduceGE, Int.reduceEq, Int.reduceNeg, Int.reduceAdd, Int.reduceSub, ↓reduceIte, reduceCtorEq, hlt, hx, h0, ht, e119 L c _ _ most st h h1 h2, hp]
  · have hp' : outB most l[i] = false := by simpa using hp
    have hR : R130 l most st i = R130 l most st (i + 1) := by
      rw [R130, hdr, List.any_cons, hp', Bool.false_or, idx, if_neg hp]; rfl
    rw [hR]
    simp only [lb130_0, loopN, loops, h130, hd130_0, Try.f130, go_sem, Nat.reduceAdd, Nat.reduceSub, Nat.reduceMul, Nat.reduceEqDiff, Nat.reduceBEq, Nat.reduceLT, Nat.reduceLeDiff, Nat.reducePow, Int.reduceToNat, Int.reduceLT, Int.reduceLE, Int.reduceGT, Int.reduceGE, Int.reduceEq, Int.reduceNeg, Int.reduceAdd, Int.reduceSub, ↓reduceIte, reduceCtorEq, hlt, hx, h0, ht, e119 L c _ _ most st h h1 h2, hp', hw]
    exact hk (i + 1) _ (by omega) (by omega) (by simp only [h130, hd130_0, go_sem, Nat.reduceAdd, Nat.reduceSub, Nat.reduceMul, Nat.reduceEqDiff, Nat.reduceBEq, Nat.reduceLT, Nat.reduceLeDiff, Nat.reducePow, Int.reduceToNat, Int.reduceLT, Int.reduceLE, Int.reduceGT, Int.reduceGE, Int.reduceEq, Int.reduceNeg, Int.reduceAdd, Int.reduceSub, ↓reduceIte, reduceCtorEq, hw])
theorem e130 (c lv : Nat) (l : List Int) (most : Int) (st : Store) (h : (st (0, 3)).ver = 1) (h1 : (st (0, 3)).live = true) (h2 : (st (0, 3)).vs = [.d (.int .i64 most)]) (hl : l.length ≤ 4611686018727387904) (L : Nat) (hL : l.length < L) :
    evF Try.prog [] T87 L (c + 2) 130 [.d (.sl 27 (l.map (.int .i64))), .fn 119 [.p (0, 3) 1 0 []]] lv st = some (.d (.int .i64 (idx (outB most) l 0)), st) := by
  rw [evF_s (hT := T87_130) (hb := rfl)]
  simp only [Try.f130, go_sem, Nat.reduceAdd, Nat.reduceSub, Nat.reduceMul, Nat.reduceEqDiff, Nat.reduceBEq, Nat.reduceLT, Nat.reduceLeDiff, Nat.reducePow, Int.reduceToNat, Int.reduceLT, Int.reduceLE, Int.reduceGT, Int.reduceGE, Int.reduceEq, Int.reduceNeg, Int.reduceAdd, Int.reduceSub, ↓reduceIte, reduceCtorEq]
  conv in iter _ _ _ _ _ => change iter (evC _ _ _ _ en130.ms _ _ lb130_0) (maskOf en130.ms 0) _ _ _
  rw [l130 L c lv l most st h h1 h2 hl L 0 _ (by omega) (by omega) (by simp only [h130, hd130_0, go_sem, Nat.reduceAdd, Nat.reduceSub, Nat.reduceMul, Nat.reduceEqDiff, Nat.reduceBEq, Nat.reduceLT, Nat.reduceLeDiff, Nat.reducePow, Int.reduceToNat, Int.reduceLT, Int.reduceLE, Int.reduceGT, Int.reduceGE, Int.reduceEq, Int.reduceNeg, Int.reduceAdd, Int.reduceSub, ↓reduceIte, reduceCtorEq])]
  rw [R130, List.drop_zero]
  by_cases ha : l.any (outB most) = true
  · rw [if_pos ha]
    simp only [hr130, go_sem, Nat.reduceAdd, Nat.reduceSub, Nat.reduceMul, Nat.reduceEqDiff, Nat.reduceBEq, Nat.reduceLT, Nat.reduceLeDiff, Nat.reducePow, Int.reduceToNat, Int.reduceLT, Int.reduceLE, Int.reduceGT, Int.reduceGE, Int.reduceEq, Int.reduceNeg, Int.reduceAdd, Int.reduceSub, ↓reduceIte, reduceCtorEq]
  · rw [if_neg ha]
    have hi : idx (outB most) l 0 = -1 := idx_none _ _ _ (by simpa using ha)
    simp only [hx130_0, go_sem, Nat.reduceAdd, Nat.reduceSub, Nat.reduceMul, Nat.reduceEqDiff, Nat.reduceBEq, Nat.reduceLT, Nat.reduceLeDiff, Nat.reducePow, Int.reduceToNat, Int.reduceLT, Int.reduceLE, Int.reduceGT, Int.reduceGE, Int.reduceEq, Int.reduceNeg, Int.reduceAdd, Int.reduceSub, ↓reduceIte, reduceCtorEq, hi]
theorem e118 (c lv : Nat) (l : List Int) (most : Int) (st : Store) (h : (st (0, 3)).ver = 1) (h1 : (st (0, 3)).live = true) (h2 : (st (0, 3)).vs = [.d (.int .i64 most)]) (hl : l.length ≤ 4611686018727387904) (L : Nat) (hL : l.length < L) :
    evF Try.prog [] T87 L (c + 3) 118 [.d (.sl 27 (l.map (.int .i64))), .fn 119 [.p (0, 3) 1 0 []]] lv st = some (.d (.bool (outside l most)), st) := by
  rw [evF_s (hT := T87_118) (hb := rfl)]
  have hi := idx_any (outB most) l 0 (by omega)
  simp only [Try.f118, go_sem, Nat.reduceAdd, Nat.reduceSub, Nat.reduceMul, Nat.reduceEqDiff, Nat.reduceBEq, Nat.reduceLT, Nat.reduceLeDiff, Nat.reducePow, Int.reduceToNat, Int.reduceLT, Int.reduceLE, Int.reduceGT, Int.reduceGE, Int.reduceEq, Int.reduceNeg, Int.reduceAdd, Int.reduceSub, ↓reduceIte, reduceCtorEq, e130 c _ l most st h h1 h2 hl L hL, hi, outside]
theorem e87 (l : List Int) (most : Int) (hl : l.length ≤ 4611686018727387904) : ∃ L c, evTop Try.prog [] T87 L c 87 [.sl 27 (l.map (.int .i64)), .int .i64 most] = some [.bool (outside l most)] := by
  refine ⟨l.length + 1, 4, ?_⟩
  unfold evTop
  simp only [List.map]
  rw [evF_s (hT := T87_87) (hb := rfl)]
  simp only [Try.f87, go_sem, Nat.reduceAdd, Nat.reduceSub, Nat.reduceMul, Nat.reduceEqDiff, Nat.reduceBEq, Nat.reduceLT, Nat.reduceLeDiff, Nat.reducePow, Int.reduceToNat, Int.reduceLT, Int.reduceLE, Int.reduceGT, Int.reduceGE, Int.reduceEq, Int.reduceNeg, Int.reduceAdd, Int.reduceSub, ↓reduceIte, reduceCtorEq]
  rw [e118 0 _ l most _ (by simp only [go_sem, Nat.reduceAdd, Nat.reduceSub, Nat.reduceMul, Nat.reduceEqDiff, Nat.reduceBEq, Nat.reduceLT, Nat.reduceLeDiff, Nat.reducePow, Int.reduceToNat, Int.reduceLT, Int.reduceLE, Int.reduceGT, Int.reduceGE, Int.reduceEq, Int.reduceNeg, Int.reduceAdd, Int.reduceSub, ↓reduceIte, reduceCtorEq]) (by simp only [go_sem, Nat.reduceAdd, Nat.reduceSub, Nat.reduceMul, Nat.reduceEqDiff, Nat.reduceBEq, Nat.reduceLT, Nat.reduceLeDiff, Nat.reducePow, Int.reduceToNat, Int.reduceLT, Int.reduceLE, Int.reduceGT, Int.reduceGE, Int.reduceEq, Int.reduceNeg, Int.reduceAdd, Int.reduceSub, ↓reduceIte, reduceCtorEq]) (by simp only [go_sem, Nat.reduceAdd, Nat.reduceSub, Nat.reduceMul, Nat.reduceEqDiff, Nat.reduceBEq, Nat.reduceLT, Nat.reduceLeDiff, Nat.reducePow, Int.reduceToNat, Int.reduceLT, Int.reduceLE, Int.reduceGT, Int.reduceGE, Int.reduceEq, Int.reduceNeg, Int.reduceAdd, Int.reduceSub, ↓reduceIte, reduceCtorEq]) hl _ (by omega)]
  simp only [go_sem, Nat.reduceAdd, Nat.reduceSub, Nat.reduceMul, Nat.reduceEqDiff, Nat.reduceBEq, Nat.reduceLT, Nat.reduceLeDiff, Nat.reducePow, Int.reduceToNat, Int.reduceLT, Int.reduceLE, Int.reduceGT, Int.reduceGE, Int.reduceEq, Int.reduceNeg, Int.reduceAdd, Int.reduceSub, ↓reduceIte, reduceCtorEq]
noncomputable def s87 : Ev.Spec := mkSpec (fun x : List Int × Int => [.sl 27 (x.1.map (.int .i64)), .int .i64 x.2]) (fun x => x.1.length ≤ 4611686018727387904) (fun x => [.bool (outside x.1 x.2)])
theorem map_inj {k : IntKind} {l l' : List Int} (h : l.map (D.int k) = l'.map (D.int k)) : l = l' := by
  induction l generalizing l' with
  | nil => cases l' with
    | nil => rfl
    | cons _ _ => cases h
  | cons x r ih => cases l' with
    | nil => cases h
    | cons y q => simp only [List.map_cons, List.cons.injEq, D.int.injEq, true_and] at h; rw [h.1, ih h.2]
theorem s87_run (l : List Int) (most : Int) (hl : l.length ≤ 4611686018727387904) : s87.run [.sl 27 (l.map (.int .i64)), .int .i64 most] = some [.bool (outside l most)] := by
  unfold s87
  exact mkSpec_run (enc := fun x : List Int × Int => [D.sl 27 (x.1.map (D.int .i64)), D.int .i64 x.2]) (pre := fun x => x.1.length ≤ 4611686018727387904) (fun x y h => by
    simp only [List.cons.injEq, D.sl.injEq, D.int.injEq, and_true, true_and] at h
    exact Prod.ext (map_inj h.1) h.2) (l, most) hl
theorem s87_ok : SpecOk Try.prog 87 s87 :=
  spec_of mixed specs_nil (table_cons Try.func87 (by kernel_rfl) (by kernel_rfl) (table_cons Try.func118 (by kernel_rfl) (by kernel_rfl) (table_cons Try.func130 (by kernel_rfl) (by kernel_rfl) (table_cons Try.func119 (by kernel_rfl) (by kernel_rfl) table_nil)))) fun x hp => e87 x.1 x.2 hp
#print axioms s87_ok
end Go.Proofs.Ytjplkbeolakbjaa.Out87Sens
end
section
set_option linter.unusedVariables false
set_option linter.unusedSimpArgs false
set_option maxRecDepth 100000
namespace Go.Proofs.Ytjplkbeolakbjaa.ChkSens
open Go.Ev Go.Proofs.Ytjplkbeolakbjaa.FxSens Go.Proofs.Ytjplkbeolakbjaa.Out84Sens
attribute [local go_sem] Ev.putR_s Ev.putR_0 Ev.thenO_s Ev.thenO_0 Ev.seqR_n Ev.seqR_e Ev.seqR_r Ev.seqR_0 Ev.blkR_e Ev.blkR_n Ev.blkR_r Ev.blkR_0 Ev.normR_s Ev.normR_0 Ev.outR_r Ev.outR_n Ev.outR_0 Ev.retS_s Ev.retS_0 Ev.pureO_s Ev.pureO_0 Ev.topR_0 Ev.topR_t Ev.topR_t0 Ev.oneL_0 Ev.oneL_s Ev.topR_d Ev.topR_nils Ev.topR_agg Ev.topR_rs Ev.evOp_move Ev.evOp_assign Ev.evOp_pick Ev.evOp_alloc Ev.evOp_box Ev.evOp_build Ev.evOp_buildSlice Ev.evOp_load Ev.evOp_store Ev.evOp_makeMap Ev.evOp_lookup Ev.evOp_mapUpdate Ev.evOp_insert Ev.evOp_nilCheck Ev.evOp_binOp Ev.evOp_unOp Ev.evOp_convert Ev.evOp_makeFunc Ev.evOp_makeSlice Ev.evOp_slice Ev.evOp_fieldAddr Ev.evOp_field Ev.evOp_indexAddr Ev.evOp_index Ev.evOp_extract Ev.evOp_call Ev.evOp_append Ev.evOp_len Ev.evOp_min Ev.evOp_max Ev.condR_b Ev.condR_t Ev.evOps_nil Ev.evOps_plain Ev.evOps_guard Ev.runG_eq Ev.skipG_eq Ev.condL_tt Ev.condL_ff Ev.condL_tf Ev.condL_ft Ev.condL_u Ev.condC_t Ev.condC_f Ev.evC_skip Ev.evC_ret Ev.evC_exit Ev.evC_label Ev.evC_region Ev.evC_draw Ev.evC_seq Ev.evC_cond Ev.evC_block Ev.evC_loop Ev.fin_d Ev.fin_nils Ev.fin_agg_ Ev.fin_rs Ev.finS_s Ev.mapO_fin Ev.upd_upd Ev.argv_d Ev.argv_nils Ev.argv_agg Ev.argv_rs Ev.argv_p Ev.appendTo_nils Ev.appendTo_rs Ev.consV_d Ev.consV_agg Ev.consV_p Ev.consV_rs Ev.consV_nils Ev.consV_fn Ev.consV_und Ev.consV_jk Ev.consV_grown Ev.topR_grown Ev.len_grown Ev.consV_mp Ev.sameK_i Ev.sameK_s Ev.mget_0 Ev.mget_hit Ev.mget_miss Ev.mput_0 Ev.mput_hit Ev.mput_miss Ev.apartAll Ev.apartL Ev.apartV Ev.freeAll Ev.sel Ev.keyOfV Ev.evLookup Ev.evPut Ev.hintOk Ev.keyOk Ev.consP Ev.lookV Ev.guardV Ev.dstAt Ev.evPure Ev.evStore Ev.evPureB Ev.evBin Ev.evBinO Ev.evNil Ev.isNilC Ev.evUn Ev.evConv Ev.evSlice Ev.optI Ev.lenV Ev.elemT Ev.foldI Ev.capsOk Ev.noTup Ev.nth Ev.setN Ev.pad Ev.V.get Ev.V.put Ev.putD Ev.hasT Ev.newBlk Ev.upd Ev.keq Ev.empty Ev.evCall Ev.V.args Ev.argP Ev.callOf Ev.evNilP Ev.isNilP Ev.look Ev.V.view.views Ev.V.view Ev.V.toD Ev.V.toD.V.toDs Ev.V.pure.pures Ev.V.pure Ev.D.flat.flats Ev.D.flat Ev.mkAgg Ev.allD Ev.aggParts Ev.setParts Ev.setElems Ev.getPath Ev.setPath Ev.subL Ev.eqD Ev.eqD.eqDs Ev.and2 Ev.strCut Ev.evalT Ev.constT Ev.evArgs Ev.mask Ev.maskOf Ev.tableOf Ev.compT Ev.resV Ev.retV Ev.mapO Ev.elemsOf Int.cast_ofNat_Int IntWalk.i64_in IntWalk.u64_in IntWalk.u8_in beq_self_eq_true Bool.true_beq Bool.false_beq Bool.and_true Bool.true_and Bool.false_and Bool.and_false Bool.and_self Bool.not_true Bool.not_false Bool.not_eq_true cond_true cond_false if_true if_false and_true true_and and_self decide_true decide_false Bool.or_true Bool.true_or Bool.or_false Bool.false_or List.isEmpty List.isEmpty_nil List.size_toArray List.map List.length_map List.length_cons List.length_nil Option.map Option.bind Option.getD Option.isSome List.replicate Bool.false_eq_true implies_true forall_const Array.toList Array.isEmpty List.append List.nil_append List.cons_append List.drop_zero List.take_length List.take_succ_cons List.take_zero List.take_nil List.getElem?_map List.getElem?_cons_zero List.getElem?_cons_succ List.getElem?_nil List.append_nil
attribute [local go_sem] FxSens.tk2 FxSens.ik2 FxSens.zv2 FxSens.tk3 FxSens.ik3 FxSens.zv3 FxSens.by3 FxSens.so3 FxSens.tk4 FxSens.ub4 FxSens.zv4 FxSens.tk22 FxSens.ik22 FxSens.zv22 FxSens.tk27 FxSens.ik27 FxSens.zv27 FxSens.by27 FxSens.so27 FxSens.tk32 FxSens.zv32 FxSens.tk36 FxSens.ik36 FxSens.zv36 FxSens.tk47 FxSens.ik47 FxSens.zv47 FxSens.by47 FxSens.so47 FxSens.tk54 FxSens.zv54 FxSens.tk56 FxSens.ct56 FxSens.zv56 FxSens.tk73 FxSens.zv73 FxSens.tk96 FxSens.ik96 FxSens.zv96 FxSens.tk97 FxSens.ct97 FxSens.zv97 FxSens.by97 FxSens.so97 FxSens.tk98 FxSens.zv98 FxSens.tk107 FxSens.zv107 FxSens.tk120 FxSens.zv120 FxSens.tk124 FxSens.zv124 FxSens.tk152 FxSens.zv152 FxSens.tk155 FxSens.zv155 FxSens.mk10_1000000 FxSens.mk15_1000000 FxSens.dw17_6 FxSens.nc17_6 FxSens.mk17_0 FxSens.mk17_1000001 FxSens.mk17_1000002 FxSens.mk17_1000000 FxSens.mk18_1000000 FxSens.mk19_1000000 FxSens.dw39_6 FxSens.nc39_6 FxSens.mk39_0 FxSens.mk39_1000001 FxSens.mk39_1000002 FxSens.mk39_1000000 FxSens.mk42_1000000 FxSens.mk43_1000001 FxSens.mk43_1000000 FxSens.mk44_0 FxSens.mk44_2 FxSens.mk44_1000001 FxSens.mk44_1000002 FxSens.mk44_1000003 FxSens.mk44_1000004 FxSens.mk44_1000000 FxSens.mk45_0 FxSens.mk45_2 FxSens.mk45_4 FxSens.mk45_1000001 FxSens.mk45_1000002 FxSens.mk45_1000003 FxSens.mk45_1000004 FxSens.mk45_1000005 FxSens.mk45_1000006 FxSens.mk45_1000000 FxSens.dw46_28 FxSens.nc46_28 FxSens.mk46_0 FxSens.mk46_2 FxSens.mk46_4 FxSens.mk46_1000001 FxSens.mk46_1000002 FxSens.mk46_1000003 FxSens.mk46_1000004 FxSens.mk46_1000005 FxSens.mk46_1000006 FxSens.mk46_1000000 FxSens.dw47_6 FxSens.nc47_6 FxSens.mk47_0 FxSens.mk47_1000001 FxSens.mk47_1000002 FxSens.mk47_1000000 FxSens.dw48_10 FxSens.nc48_10 FxSens.dw48_11 FxSens.nc48_11 FxSens.mk48_0 FxSens.mk48_1000001 FxSens.mk48_1000002 FxSens.mk48_1000000 FxSens.mk61_1000000 FxSens.mk83_1000000 FxSens.mk84_1000000 FxSens.mk85_1000000 FxSens.mk86_1000000 FxSens.mk87_1000000 FxSens.dw88_1 FxSens.nc88_1 FxSens.mk88_1000000 FxSens.dw89_5 FxSens.nc89_5 FxSens.mk89_0 FxSens.mk89_1000001 FxSens.mk89_1000002 FxSens.mk89_1000000 FxSens.mk90_1000000 FxSens.dw91_3 FxSens.nc91_3 FxSens.mk91_0 FxSens.mk91_1000001 FxSens.mk91_1000002 FxSens.mk91_1000000 FxSens.mk92_1000000 FxSens.mk93_1000000 FxSens.mk94_0 FxSens.mk94_1000001 FxSens.mk94_1000002 FxSens.mk94_1000000 FxSens.dw95_3 FxSens.nc95_3 FxSens.dw95_6 FxSens.nc95_6 FxSens.mk95_0 FxSens.mk95_1000001 FxSens.mk95_1000002 FxSens.mk95_1000000 FxSens.mk114_1000000 FxSens.mk115_1000000 FxSens.mk116_1000000 FxSens.mk117_1000000 FxSens.mk118_1000000 FxSens.mk119_1000000 FxSens.mk128_0 FxSens.mk128_1000001 FxSens.mk128_1000002 FxSens.mk128_1000000 FxSens.mk129_0 FxSens.mk129_1000001 FxSens.mk129_1000002 FxSens.mk129_1000000 FxSens.mk130_0 FxSens.mk130_1000001 FxSens.mk130_1000002 FxSens.mk130_1000000
/-- A sensor as plain data. -/
def sen (w h : Int) (b d f : List Int) (full gain noise : Int) : D := .agg 56 [.int .i64 w, .int .i64 h, .sl 3 (b.map (.int .i64)), .sl 47 (d.map (.int .i64)), .sl 3 (f.map (.int .i64)), .int .i64 full, .int .i64 gain, .int .i64 noise]
structure Sen where
  w : Int
  h : Int
  b : List Int
  d : List Int
  f : List Int
  full : Int
  gain : Int
  noise : Int
def Sen.D (s : Sen) : D := sen s.w s.h s.b s.d s.f s.full s.gain s.noise
def wrong (s : Sen) : Int :=
  if s.w < 1 ∨ s.w > 32 ∨ s.h < 1 ∨ s.h > 32 then 4
  else if (s.b.length : Int) ≠ s.w * s.h ∨ (s.d.length : Int) ≠ s.w * s.h ∨ (s.f.length : Int) ≠ s.w * s.h then 3
  else if outside s.b 4096 = true ∨ outside s.d 17592186044416 = true ∨ outside s.f 4096 = true then 4
  else if s.full < 1 ∨ s.full > 1048576 ∨ s.gain < 1 ∨ s.gain > 64 ∨ s.noise < 0 ∨ s.noise > 64 then 4 else 0
noncomputable def G43 : Specs := [(84, s84), (85, Out85Sens.s85), (87, Out87Sens.s87)]
theorem G43_ok : ∀ g s, Ev.look G43 g = some s → SpecOk Try.prog g s := specs_cons s84_ok (specs_cons Out85Sens.s85_ok (specs_cons Out87Sens.s87_ok specs_nil))
noncomputable def T43 : Table := tableOf [(43, en43)]
theorem minI_lt (w h : Int) : minI w h < 1 ↔ w < 1 ∨ h < 1 := by unfold minI; split <;> omega
theorem maxI_gt (w h : Int) : maxI w h > 32 ↔ w > 32 ∨ h > 32 := by unfold maxI; split <;> omega
theorem area {w h : Int} (h1 : 1 ≤ w) (h2 : w ≤ 32) (h3 : 1 ≤ h) (h4 : h ≤ 32) : 1 ≤ w * h ∧ w * h ≤ 1024 := by
  have a := Int.mul_le_mul h2 h4 (by omega) (by omega)
  have b := Int.mul_le_mul h1 h3 (by omega) (by omega)
  omega
theorem e43 (w h : Int) (b d f : List Int) (full gain noise : Int) : ∃ L c, evTop Try.prog G43 T43 L c 43 [sen w h b d f full gain noise] = some [.int .i64 (wrong ⟨w, h, b, d, f, full, gain, noise⟩)] := by
  refine ⟨0, 1, ?_⟩
  unfold evTop
  simp only [List.map]
  rw [evF_s (hT := by rfl) (hb := by rfl)]
  unfold sen wrong
  simp only
  by_cases h1 : minI w h < 1
  · rw [if_pos (by have := (minI_lt w h).1 h1; omega)]
    simp only [Try.f43, go_sem, Nat.reduceAdd, Nat.reduceSub, Nat.reduceMul, Nat.reduceEqDiff, Nat.reduceBEq, Nat.reduceLT, Nat.reduceLeDiff, Nat.reducePow, Int.reduceToNat, Int.reduceLT, Int.reduceLE, Int.reduceGT, Int.reduceGE, Int.reduceEq, Int.reduceNeg, Int.reduceAdd, Int.reduceSub, ↓reduceIte, reduceCtorEq, h1]
  have h1' := (not_congr (minI_lt w h)).1 h1
  by_cases h2 : maxI w h > 32
  · rw [if_pos (by have := (maxI_gt w h).1 h2; omega)]
    simp only [Try.f43, go_sem, Nat.reduceAdd, Nat.reduceSub, Nat.reduceMul, Nat.reduceEqDiff, Nat.reduceBEq, Nat.reduceLT, Nat.reduceLeDiff, Nat.reducePow, Int.reduceToNat, Int.reduceLT, Int.reduceLE, Int.reduceGT, Int.reduceGE, Int.reduceEq, Int.reduceNeg, Int.reduceAdd, Int.reduceSub, ↓reduceIte, reduceCtorEq, h1, h2]
  have h2' := (not_congr (maxI_gt w h)).1 h2
  rw [if_neg (by omega)]
  obtain ⟨a1, a2⟩ := area (w := w) (h := h) (by omega) (by omega) (by omega) (by omega)
  have hw : IntKind.i64.wrap (w * h) = w * h := IntWalk.i64_in _ (by omega)
  by_cases h3 : (b.length : Int) = w * h
  case neg => 
    rw [if_pos (.inl h3)]
    simp only [Try.f43, go_sem, Nat.reduceAdd, Nat.reduceSub, Nat.reduceMul, Nat.reduceEqDiff, Nat.reduceBEq, Nat.reduceLT, Nat.reduceLeDiff, Nat.reducePow, Int.reduceToNat, Int.reduceLT, Int.reduceLE, Int.reduceGT, Int.reduceGE, Int.reduceEq, Int.reduceNeg, Int.reduceAdd, Int.reduceSub, ↓reduceIte, reduceCtorEq, h1, h2, hw, h3]
  by_cases h4 : (d.length : Int) = w * h
  case neg => 
    rw [if_pos (.inr (.inl h4))]
    simp only [Try.f43, go_sem, Nat.reduceAdd, Nat.reduceSub, Nat.reduceMul, Nat.reduceEqDiff, Nat.reduceBEq, Nat.reduceLT, Nat.reduceLeDiff, Nat.reducePow, Int.reduceToNat, Int.reduceLT, Int.reduceLE, Int.reduceGT, Int.reduceGE, Int.reduceEq, Int.reduceNeg, Int.reduceAdd, Int.reduceSub, ↓reduceIte, reduceCtorEq, h1, h2, hw, h3, h4]
  by_cases h5 : (f.length : Int) = w * h
  case neg => 
    rw [if_pos (.inr (.inr h5))]
    simp only [Try.f43, go_sem, Nat.reduceAdd, Nat.reduceSub, Nat.reduceMul, Nat.reduceEqDiff, Nat.reduceBEq, Nat.reduceLT, Nat.reduceLeDiff, Nat.reducePow, Int.reduceToNat, Int.reduceLT, Int.reduceLE, Int.reduceGT, Int.reduceGE, Int.reduceEq, Int.reduceNeg, Int.reduceAdd, Int.reduceSub, ↓reduceIte, reduceCtorEq, h1, h2, hw, h3, h4, h5]
  rw [if_neg (by omega)]
  have r1 := s84_run b 4096 (by omega)
  have r2 : Out85Sens.s85.run [.sl 47 (d.map (.int .i64)), .int .i64 17592186044416] = some [.bool (outside d 17592186044416)] := Out85Sens.s85_run d 17592186044416 (by omega)
  have r3 := s84_run f 4096 (by omega)
  by_cases o1 : outside b 4096 = true
  · rw [if_pos (.inl o1)]
    simp only [Try.f43, G43, go_sem, Nat.reduceAdd, Nat.reduceSub, Nat.reduceMul, Nat.reduceEqDiff, Nat.reduceBEq, Nat.reduceLT, Nat.reduceLeDiff, Nat.reducePow, Int.reduceToNat, Int.reduceLT, Int.reduceLE, Int.reduceGT, Int.reduceGE, Int.reduceEq, Int.reduceNeg, Int.reduceAdd, Int.reduceSub, ↓reduceIte, reduceCtorEq, h1, h2, hw, h3, h4, h5, r1, o1]
  by_cases o2 : outside d 17592186044416 = true
  · rw [if_pos (.inr (.inl o2))]
    simp only [Try.f43, G43, go_sem, Nat.reduceAdd, Nat.reduceSub, Nat.reduceMul, Nat.reduceEqDiff, Nat.reduceBEq, Nat.reduceLT, Nat.reduceLeDiff, Nat.reducePow, Int.reduceToNat, Int.reduceLT, Int.reduceLE, Int.reduceGT, Int.reduceGE, Int.reduceEq, Int.reduceNeg, Int.reduceAdd, Int.reduceSub, ↓reduceIte, reduceCtorEq, h1, h2, hw, h3, h4, h5, r1, r2, o1, o2]
  by_cases o3 : outside f 4096 = true
  · rw [if_pos (.inr (.inr o3))]
    simp only [Try.f43, G43, go_sem, Nat.reduceAdd, Nat.reduceSub, Nat.reduceMul, Nat.reduceEqDiff, Nat.reduceBEq, Nat.reduceLT, Nat.reduceLeDiff, Nat.reducePow, Int.reduceToNat, Int.reduceLT, Int.reduceLE, Int.reduceGT, Int.reduceGE, Int.reduceEq, Int.reduceNeg, Int.reduceAdd, Int.reduceSub, ↓reduceIte, reduceCtorEq, h1, h2, hw, h3, h4, h5, r1, r2, r3, o1, o2, o3]
  rw [if_neg (by simp [o1, o2, o3])]
  by_cases c1 : full < 1
  · rw [if_pos (by omega)]
    simp only [Try.f43, G43, go_sem, Nat.reduceAdd, Nat.reduceSub, Nat.reduceMul, Nat.reduceEqDiff, Nat.reduceBEq, Nat.reduceLT, Nat.reduceLeDiff, Nat.reducePow, Int.reduceToNat, Int.reduceLT, Int.reduceLE, Int.reduceGT, Int.reduceGE, Int.reduceEq, Int.reduceNeg, Int.reduceAdd, Int.reduceSub, ↓reduceIte, reduceCtorEq, h1, h2, hw, h3, h4, h5, r1, r2, r3, o1, o2, o3, c1]
  by_cases c2 : full > 1048576
  · rw [if_pos (by omega)]
    simp only [Try.f43, G43, go_sem, Nat.reduceAdd, Nat.reduceSub, Nat.reduceMul, Nat.reduceEqDiff, Nat.reduceBEq, Nat.reduceLT, Nat.reduceLeDiff, Nat.reducePow, Int.reduceToNat, Int.reduceLT, Int.reduceLE, Int.reduceGT, Int.reduceGE, Int.reduceEq, Int.reduceNeg, Int.reduceAdd, Int.reduceSub, ↓reduceIte, reduceCtorEq, h1, h2, hw, h3, h4, h5, r1, r2, r3, o1, o2, o3, c1, c2]
  by_cases c3 : gain < 1
  · rw [if_pos (by omega)]
    simp only [Try.f43, G43, go_sem, Nat.reduceAdd, Nat.reduceSub, Nat.reduceMul, Nat.reduceEqDiff, Nat.reduceBEq, Nat.reduceLT, Nat.reduceLeDiff, Nat.reducePow, Int.reduceToNat, Int.reduceLT, Int.reduceLE, Int.reduceGT, Int.reduceGE, Int.reduceEq, Int.reduceNeg, Int.reduceAdd, Int.reduceSub, ↓reduceIte, reduceCtorEq, h1, h2, hw, h3, h4, h5, r1, r2, r3, o1, o2, o3, c1, c2, c3]
  by_cases c4 : gain > 64
  · rw [if_pos (by omega)]
    simp only [Try.f43, G43, go_sem, Nat.reduceAdd, Nat.reduceSub, Nat.reduceMul, Nat.reduceEqDiff, Nat.reduceBEq, Nat.reduceLT, Nat.reduceLeDiff, Nat.reducePow, Int.reduceToNat, Int.reduceLT, Int.reduceLE, Int.reduceGT, Int.reduceGE, Int.reduceEq, Int.reduceNeg, Int.reduceAdd, Int.reduceSub, ↓reduceIte, reduceCtorEq, h1, h2, hw, h3, h4, h5, r1, r2, r3, o1, o2, o3, c1, c2, c3, c4]
  by_cases c5 : noise < 0
  · rw [if_pos (by omega)]
    simp only [Try.f43, G43, go_sem, Nat.reduceAdd, Nat.reduceSub, Nat.reduceMul, Nat.reduceEqDiff, Nat.reduceBEq, Nat.reduceLT, Nat.reduceLeDiff, Nat.reducePow, Int.reduceToNat, Int.reduceLT, Int.reduceLE, Int.reduceGT, Int.reduceGE, Int.reduceEq, Int.reduceNeg, Int.reduceAdd, Int.reduceSub, ↓reduceIte, reduceCtorEq, h1, h2, hw, h3, h4, h5, r1, r2, r3, o1, o2, o3, c1, c2, c3, c4, c5]
  by_cases c6 : noise > 64
  · rw [if_pos (by omega)]
    simp only [Try.f43, G43, go_sem, Nat.reduceAdd, Nat.reduceSub, Nat.reduceMul, Nat.reduceEqDiff, Nat.reduceBEq, Nat.reduceLT, Nat.reduceLeDiff, Nat.reducePow, Int.reduceToNat, Int.reduceLT, Int.reduceLE, Int.reduceGT, Int.reduceGE, Int.reduceEq, Int.reduceNeg, Int.reduceAdd, Int.reduceSub, ↓reduceIte, reduceCtorEq, h1, h2, hw, h3, h4, h5, r1, r2, r3, o1, o2, o3, c1, c2, c3, c4, c5, c6]
  rw [if_neg (by omega)]
  simp only [Try.f43, G43, go_sem, Nat.reduceAdd, Nat.reduceSub, Nat.reduceMul, Nat.reduceEqDiff, Nat.reduceBEq, Nat.reduceLT, Nat.reduceLeDiff, Nat.reducePow, Int.reduceToNat, Int.reduceLT, Int.reduceLE, Int.reduceGT, Int.reduceGE, Int.reduceEq, Int.reduceNeg, Int.reduceAdd, Int.reduceSub, ↓reduceIte, reduceCtorEq, h1, h2, hw, h3, h4, h5, r1, r2, r3, o1, o2, o3, c1, c2, c3, c4, c5, c6]
theorem sen_inj (x y : Sen) (h : [x.D] = [y.D]) : x = y := by
  obtain ⟨a, b, c, d, e, f, g, i⟩ := x
  obtain ⟨a', b', c', d', e', f', g', i'⟩ := y
  simp only [Sen.D, sen, List.cons.injEq, D.agg.injEq, D.sl.injEq, D.int.injEq, and_true, true_and] at h
  obtain ⟨rfl, rfl, h1, h2, h3, rfl, rfl, rfl⟩ := h
  rw [map_inj h1, map_inj h2, map_inj h3]
noncomputable def s43 : Ev.Spec := mkSpec (fun x : Sen => [x.D]) (fun _ => True) (fun x => [.int .i64 (wrong x)])
theorem s43_run (w h : Int) (b d f : List Int) (full gain noise : Int) : s43.run [.agg 56 [.int .i64 w, .int .i64 h, .sl 3 (b.map (.int .i64)), .sl 47 (d.map (.int .i64)), .sl 3 (f.map (.int .i64)), .int .i64 full, .int .i64 gain, .int .i64 noise]] =
    some [.int .i64 (wrong ⟨w, h, b, d, f, full, gain, noise⟩)] := by
  unfold s43
  exact mkSpec_run (enc := fun x : Sen => [x.D]) (pre := fun _ => True) sen_inj ⟨w, h, b, d, f, full, gain, noise⟩ trivial
theorem s43_ok : SpecOk Try.prog 43 s43 :=
  spec_of mixed G43_ok (table_cons Try.func43 (by kernel_rfl) (by kernel_rfl) table_nil) fun x _ => e43 x.w x.h x.b x.d x.f x.full x.gain x.noise
#print axioms s43_ok
end Go.Proofs.Ytjplkbeolakbjaa.ChkSens
end
section
set_option linter.unusedVariables false
set_option linter.unusedSimpArgs false
set_option maxRecDepth 100000
namespace Go.Proofs.Ytjplkbeolakbjaa.FltSens
open Go.Ev Go.Proofs.Ytjplkbeolakbjaa.FxSens Go.Proofs.Ytjplkbeolakbjaa.Out84Sens Go.Proofs.Ytjplkbeolakbjaa.ChkSens
attribute [local go_sem] Ev.putR_s Ev.putR_0 Ev.thenO_s Ev.thenO_0 Ev.seqR_n Ev.seqR_e Ev.seqR_r Ev.seqR_0 Ev.blkR_e Ev.blkR_n Ev.blkR_r Ev.blkR_0 Ev.normR_s Ev.normR_0 Ev.outR_r Ev.outR_n Ev.outR_0 Ev.retS_s Ev.retS_0 Ev.pureO_s Ev.pureO_0 Ev.topR_0 Ev.topR_t Ev.topR_t0 Ev.oneL_0 Ev.oneL_s Ev.topR_d Ev.topR_nils Ev.topR_agg Ev.topR_rs Ev.evOp_move Ev.evOp_assign Ev.evOp_pick Ev.evOp_alloc Ev.evOp_box Ev.evOp_build Ev.evOp_buildSlice Ev.evOp_load Ev.evOp_store Ev.evOp_makeMap Ev.evOp_lookup Ev.evOp_mapUpdate Ev.evOp_insert Ev.evOp_nilCheck Ev.evOp_binOp Ev.evOp_unOp Ev.evOp_convert Ev.evOp_makeFunc Ev.evOp_makeSlice Ev.evOp_slice Ev.evOp_fieldAddr Ev.evOp_field Ev.evOp_indexAddr Ev.evOp_index Ev.evOp_extract Ev.evOp_call Ev.evOp_append Ev.evOp_len Ev.evOp_min Ev.evOp_max Ev.condR_b Ev.condR_t Ev.evOps_nil Ev.evOps_plain Ev.evOps_guard Ev.runG_eq Ev.skipG_eq Ev.condL_tt Ev.condL_ff Ev.condL_tf Ev.condL_ft Ev.condL_u Ev.condC_t Ev.condC_f Ev.evC_skip Ev.evC_ret Ev.evC_exit Ev.evC_label Ev.evC_region Ev.evC_draw Ev.evC_seq Ev.evC_cond Ev.evC_block Ev.evC_loop Ev.fin_d Ev.fin_nils Ev.fin_agg_ Ev.fin_rs Ev.finS_s Ev.mapO_fin Ev.upd_upd Ev.argv_d Ev.argv_nils Ev.argv_agg Ev.argv_rs Ev.argv_p Ev.appendTo_nils Ev.appendTo_rs Ev.consV_d Ev.consV_agg Ev.consV_p Ev.consV_rs Ev.consV_nils Ev.consV_fn Ev.consV_und Ev.consV_jk Ev.consV_grown Ev.topR_grown Ev.len_grown Ev.consV_mp Ev.sameK_i Ev.sameK_s Ev.mget_0 Ev.mget_hit Ev.mget_miss Ev.mput_0 Ev.mput_hit Ev.mput_miss Ev.apartAll Ev.apartL Ev.apartV Ev.freeAll Ev.sel Ev.keyOfV Ev.evLookup Ev.evPut Ev.hintOk Ev.keyOk Ev.consP Ev.lookV Ev.guardV Ev.dstAt Ev.evPure Ev.evStore Ev.evPureB Ev.evBin Ev.evBinO Ev.evNil Ev.isNilC Ev.evUn Ev.evConv Ev.evSlice Ev.optI Ev.lenV Ev.elemT Ev.foldI Ev.capsOk Ev.noTup Ev.nth Ev.setN Ev.pad Ev.V.get Ev.V.put Ev.putD Ev.hasT Ev.newBlk Ev.upd Ev.keq Ev.empty Ev.evCall Ev.V.args Ev.argP Ev.callOf Ev.evNilP Ev.isNilP Ev.look Ev.V.view.views Ev.V.view Ev.V.toD Ev.V.toD.V.toDs Ev.V.pure.pures Ev.V.pure Ev.D.flat.flats Ev.D.flat Ev.mkAgg Ev.allD Ev.aggParts Ev.setParts Ev.setElems Ev.getPath Ev.setPath Ev.subL Ev.eqD Ev.eqD.eqDs Ev.and2 Ev.strCut Ev.evalT Ev.constT Ev.evArgs Ev.mask Ev.maskOf Ev.tableOf Ev.compT Ev.resV Ev.retV Ev.mapO Ev.elemsOf Int.cast_ofNat_Int IntWalk.i64_in IntWalk.u64_in IntWalk.u8_in beq_self_eq_true Bool.true_beq Bool.false_beq Bool.and_true Bool.true_and Bool.false_and Bool.and_false Bool.and_self Bool.not_true Bool.not_false Bool.not_eq_true cond_true cond_false if_true if_false and_true true_and and_self decide_true decide_false Bool.or_true Bool.true_or Bool.or_false Bool.false_or List.isEmpty List.isEmpty_nil List.size_toArray List.map List.length_map List.length_cons List.length_nil Option.map Option.bind Option.getD Option.isSome List.replicate Bool.false_eq_true implies_true forall_const Array.toList Array.isEmpty List.append List.nil_append List.cons_append List.drop_zero List.take_length List.take_succ_cons List.take_zero List.take_nil List.getElem?_map List.getElem?_cons_zero List.getElem?_cons_succ List.getElem?_nil List.append_nil
attribute [local go_sem] FxSens.tk2 FxSens.ik2 FxSens.zv2 FxSens.tk3 FxSens.ik3 FxSens.zv3 FxSens.by3 FxSens.so3 FxSens.tk4 FxSens.ub4 FxSens.zv4 FxSens.tk22 FxSens.ik22 FxSens.zv22 FxSens.tk27 FxSens.ik27 FxSens.zv27 FxSens.by27 FxSens.so27 FxSens.tk32 FxSens.zv32 FxSens.tk36 FxSens.ik36 FxSens.zv36 FxSens.tk47 FxSens.ik47 FxSens.zv47 FxSens.by47 FxSens.so47 FxSens.tk54 FxSens.zv54 FxSens.tk56 FxSens.ct56 FxSens.zv56 FxSens.tk73 FxSens.zv73 FxSens.tk96 FxSens.ik96 FxSens.zv96 FxSens.tk97 FxSens.ct97 FxSens.zv97 FxSens.by97 FxSens.so97 FxSens.tk98 FxSens.zv98 FxSens.tk107 FxSens.zv107 FxSens.tk120 FxSens.zv120 FxSens.tk124 FxSens.zv124 FxSens.tk152 FxSens.zv152 FxSens.tk155 FxSens.zv155 FxSens.mk10_1000000 FxSens.mk15_1000000 FxSens.dw17_6 FxSens.nc17_6 FxSens.mk17_0 FxSens.mk17_1000001 FxSens.mk17_1000002 FxSens.mk17_1000000 FxSens.mk18_1000000 FxSens.mk19_1000000 FxSens.dw39_6 FxSens.nc39_6 FxSens.mk39_0 FxSens.mk39_1000001 FxSens.mk39_1000002 FxSens.mk39_1000000 FxSens.mk42_1000000 FxSens.mk43_1000001 FxSens.mk43_1000000 FxSens.mk44_0 FxSens.mk44_2 FxSens.mk44_1000001 FxSens.mk44_1000002 FxSens.mk44_1000003 FxSens.mk44_1000004 FxSens.mk44_1000000 FxSens.mk45_0 FxSens.mk45_2 FxSens.mk45_4 FxSens.mk45_1000001 FxSens.mk45_1000002 FxSens.mk45_1000003 FxSens.mk45_1000004 FxSens.mk45_1000005 FxSens.mk45_1000006 FxSens.mk45_1000000 FxSens.dw46_28 FxSens.nc46_28 FxSens.mk46_0 FxSens.mk46_2 FxSens.mk46_4 FxSens.mk46_1000001 FxSens.mk46_1000002 FxSens.mk46_1000003 FxSens.mk46_1000004 FxSens.mk46_1000005 FxSens.mk46_1000006 FxSens.mk46_1000000 FxSens.dw47_6 FxSens.nc47_6 FxSens.mk47_0 FxSens.mk47_1000001 FxSens.mk47_1000002 FxSens.mk47_1000000 FxSens.dw48_10 FxSens.nc48_10 FxSens.dw48_11 FxSens.nc48_11 FxSens.mk48_0 FxSens.mk48_1000001 FxSens.mk48_1000002 FxSens.mk48_1000000 FxSens.mk61_1000000 FxSens.mk83_1000000 FxSens.mk84_1000000 FxSens.mk85_1000000 FxSens.mk86_1000000 FxSens.mk87_1000000 FxSens.dw88_1 FxSens.nc88_1 FxSens.mk88_1000000 FxSens.dw89_5 FxSens.nc89_5 FxSens.mk89_0 FxSens.mk89_1000001 FxSens.mk89_1000002 FxSens.mk89_1000000 FxSens.mk90_1000000 FxSens.dw91_3 FxSens.nc91_3 FxSens.mk91_0 FxSens.mk91_1000001 FxSens.mk91_1000002 FxSens.mk91_1000000 FxSens.mk92_1000000 FxSens.mk93_1000000 FxSens.mk94_0 FxSens.mk94_1000001 FxSens.mk94_1000002 FxSens.mk94_1000000 FxSens.dw95_3 FxSens.nc95_3 FxSens.dw95_6 FxSens.nc95_6 FxSens.mk95_0 FxSens.mk95_1000001 FxSens.mk95_1000002 FxSens.mk95_1000000 FxSens.mk114_1000000 FxSens.mk115_1000000 FxSens.mk116_1000000 FxSens.mk117_1000000 FxSens.mk118_1000000 FxSens.mk119_1000000 FxSens.mk128_0 FxSens.mk128_1000001 FxSens.mk128_1000002 FxSens.mk128_1000000 FxSens.mk129_0 FxSens.mk129_1000001 FxSens.mk129_1000002 FxSens.mk129_1000000 FxSens.mk130_0 FxSens.mk130_1000001 FxSens.mk130_1000002 FxSens.mk130_1000000
noncomputable def T44 : Table := tableOf [(44, en44)]
/-- Is one of the three lists wrong at i? -/
def badAt (b d f : List Int) (i : Nat) : Bool := outB 4096 (b.getD i 0) || outB 17592186044416 (d.getD i 0) || outB 4096 (f.getD i 0)
def badFrom (b d f : List Int) (n i : Nat) : Bool := (List.range' i (n - i)).any (badAt b d f)
theorem badFrom_step {b d f : List Int} {n i : Nat} (h : i < n) : badFrom b d f n i = (badAt b d f i || badFrom b d f n (i + 1)) := by
  obtain ⟨m, hm⟩ : ∃ m, n - i = m + 1 := ⟨n - i - 1, by omega⟩
  have : n - (i + 1) = m := by omega
  rw [badFrom, badFrom, hm, this, List.range'_succ, List.any_cons]
theorem badFrom_end {b d f : List Int} {n : Nat} : badFrom b d f n n = false := by simp [badFrom]
theorem any_getD {p : Int → Bool} {l : List Int} : l.any p = (List.range' 0 l.length).any fun i => p (l.getD i 0) := by
  have h1 : l = (List.range' 0 l.length).map fun i => l.getD i 0 := by
    refine List.ext_getElem (by simp) fun i h1 h2 => ?_
    simp [h1]
  rw [show l.any p = ((List.range' 0 l.length).map fun i => l.getD i 0).any p from congrArg (List.any · p) h1, List.any_map]; rfl
theorem bad_all {b d f : List Int} {n : Nat} (hb : b.length = n) (hd : d.length = n) (hf : f.length = n) : badFrom b d f n 0 = (outside b 4096 || outside d 17592186044416 || outside f 4096) := by
  rw [outside, outside, outside, any_getD, any_getD (l := d), any_getD (l := f), hb, hd, hf, badFrom, Nat.sub_zero]
  generalize List.range' 0 n = l
  induction l with
  | nil => rfl
  | cons x r ih => simp only [List.any_cons, ih, badAt]; cases outB 4096 (b.getD x 0) <;> cases outB 17592186044416 (d.getD x 0) <;> cases outB 4096 (f.getD x 0) <;> simp
def cells (w h : Int) (b d f : List Int) (full gain noise : Int) : List V := [.d (sen w h b d f full gain noise)]
def hd2 (n : Int) (i : Nat) : List V := hd44_2 (.p (0, 1) 1 0 []) (.d (.int .i64 n)) (.d (.int .i64 i))
def R2 (b d f : List Int) (n : Nat) (st : Store) (i : Nat) : Out := if badFrom b d f n i = true then some (.ret, hr44 (.d (.int .i64 4)), st) else some (.exit 2, hx44_2 (.p (0, 1) 1 0 []), st)
theorem l2 (L : Nat) (call : Caller) (lv : Nat) (w h : Int) (b d f : List Int) (full gain noise : Int) (st : Store) (n : Nat) (hn : n ≤ 1024) (q1 : (st (0, 1)).ver = 1) (q2 : (st (0, 1)).live = true) (q3 : (st (0, 1)).vs = cells w h b d f full gain noise) (hb : b.length = n) (hd : d.length = n) (hf : f.length = n) :
    ∀ (m i : Nat) (env : List V), i ≤ n → n - i < m → mask (maskOf en44.ms 2) env = hd2 n i →
      iter (evC Try.prog [] call L en44.ms lv 2 lb44_2) (maskOf en44.ms 2) m env st = R2 b d f n st i := by
  refine iter_wf _ _ (fun i => i ≤ n) (hd2 n) (fun _ => st) (R2 b d f n st) (fun i => n - i) ?_
  intro i hi k hk
  by_cases hin : i < n
  case neg =>
    obtain rfl : i = n := by omega
    have hlt : ¬ (i : Int) < i := by omega
    simp only [lb44_2, loopN, loops, hd2, hd44_2, R2, hr44, hx44_2, Try.f44, go_sem, Nat.reduceAdd, Nat.reduceSub, Nat.reduceMul, Nat.reduceEqDiff, Nat.reduceBEq, Nat.reduceLT, Nat.reduceLeDiff, Nat.reducePow, Int.reduceToNat, Int.reduceLT, Int.reduceLE, Int.reduceGT, Int.reduceGE, Int.reduceEq, Int.reduceNeg, Int.reduceAdd, Int.reduceSub, ↓reduceIte, reduceCtorEq, hlt, badFrom_end]
  have hlt : (i : Int) < n := by omega
  have hlb : (i : Int) < b.length := by omega
  have hld : (i : Int) < d.length := by omega
  have hlf : (i : Int) < f.length := by omega
  have hxb : (b.map (D.int .i64))[i]? = some (.int .i64 b[i]) := by simp [hb, hin]
  have hxd : (d.map (D.int .i64))[i]? = some (.int .i64 d[i]) := by simp [hd, hin]
  have hxf : (f.map (D.int .i64))[i]? = some (.int .i64 f[i]) := by simp [hf, hin]
  have hw : IntKind.i64.wrap ((i : Int) + 1) = ((i + 1 : Nat) : Int) := by rw [IntWalk.i64_in _ (by omega)]; rfl
  have h0 : (0 : Int) ≤ (i : Int) := by omega
  have ht : ((i : Int)).toNat = i := by omega
  have hba : badAt b d f i = (outB 4096 b[i] || outB 17592186044416 d[i] || outB 4096 f[i]) := by simp [badAt, hb, hd, hf, hin]
  by_cases hp : badAt b d f i = true
  · have hR : R2 b d f n st i = some (.ret, hr44 (.d (.int .i64 4)), st) := by rw [R2, badFrom_step hin, hp, Bool.true_or, if_pos rfl]
    rw [hR]
    rw [hba] at hp
    simp only [outB, Bool.or_eq_true, decide_eq_true_eq] at hp
    by_cases c1 : b[i] < 0
    · simp only [lb44_2, loopN, loops, hd2, hd44_2, hr44, Try.f44, go_sem, Nat.reduceAdd, Nat.reduceSub, Nat.reduceMul, Nat.reduceEqDiff, Nat.reduceBEq, Nat.reduceLT, Nat.reduceLeDiff, Nat.reducePow, Int.reduceToNat, Int.reduceLT, Int.reduceLE, Int.reduceGT, Int.reduceGE, Int.reduceEq, Int.reduceNeg, Int.reduceAdd, Int.reduceSub, ↓reduceIte, reduceCtorEq, hlt, hlb, hld, hlf, q1, q2, q3, cells, sen, hxb, hxd, hxf, h0, ht, c1]
    by_cases c2 : b[i] > 4096
    · simp only [lb44_2, loopN, loops, hd2, hd44_2, hr44, Try.f44, go_sem, Nat.reduceAdd, Nat.reduceSub, Nat.reduceMul, Nat.reduceEqDiff, Nat.reduceBEq, Nat.reduceLT, Nat.reduceLeDiff, Nat.reducePow, Int.reduceToNat, Int.reduceLT, Int.reduceLE, Int.reduceGT, Int.reduceGE, Int.reduceEq, Int.reduceNeg, Int.reduceAdd, Int.reduceSub, ↓reduceIte, reduceCtorEq, hlt, hlb, hld, hlf, q1, q2, q3, cells, sen, hxb, hxd, hxf, h0, ht, c1, c2]
    by_cases c3 : d[i] < 0
    · simp only [lb44_2, loopN, loops, hd2, hd44_2, hr44, Try.f44, go_sem, Nat.reduceAdd, Nat.reduceSub, Nat.reduceMul, Nat.reduceEqDiff, Nat.reduceBEq, Nat.reduceLT, Nat.reduceLeDiff, Nat.reducePow, Int.reduceToNat, Int.reduceLT, Int.reduceLE, Int.reduceGT, Int.reduceGE, Int.reduceEq, Int.reduceNeg, Int.reduceAdd, Int.reduceSub, ↓reduceIte, reduceCtorEq, hlt, hlb, hld, hlf, q1, q2, q3, cells, sen, hxb, hxd, hxf, h0, ht, c1, c2, c3]
    by_cases c4 : d[i] > 17592186044416
    · simp only [lb44_2, loopN, loops, hd2, hd44_2, hr44, Try.f44, go_sem, Nat.reduceAdd, Nat.reduceSub, Nat.reduceMul, Nat.reduceEqDiff, Nat.reduceBEq, Nat.reduceLT, Nat.reduceLeDiff, Nat.reducePow, Int.reduceToNat, Int.reduceLT, Int.reduceLE, Int.reduceGT, Int.reduceGE, Int.reduceEq, Int.reduceNeg, Int.reduceAdd, Int.reduceSub, ↓reduceIte, reduceCtorEq, hlt, hlb, hld, hlf, q1, q2, q3, cells, sen, hxb, hxd, hxf, h0, ht, c1, c2, c3, c4]
    by_cases c5 : f[i] < 0
    · simp only [lb44_2, loopN, loops, hd2, hd44_2, hr44, Try.f44, go_sem, Nat.reduceAdd, Nat.reduceSub, Nat.reduceMul, Nat.reduceEqDiff, Nat.reduceBEq, Nat.reduceLT, Nat.reduceLeDiff, Nat.reducePow, Int.reduceToNat, Int.reduceLT, Int.reduceLE, Int.reduceGT, Int.reduceGE, Int.reduceEq, Int.reduceNeg, Int.reduceAdd, Int.reduceSub, ↓reduceIte, reduceCtorEq, hlt, hlb, hld, hlf, q1, q2, q3, cells, sen, hxb, hxd, hxf, h0, ht, c1, c2, c3, c4, c5]
    have c6 : f[i] > 4096 := by omega
    simp only [lb44_2, loopN, loops, hd2, hd44_2, hr44, Try.f44, go_sem, Nat.reduceAdd, Nat.reduceSub, Nat.reduceMul, Nat.reduceEqDiff, Nat.reduceBEq, Nat.reduceLT, Nat.reduceLeDiff, Nat.reducePow, Int.reduceToNat, Int.reduceLT, Int.reduceLE, Int.reduceGT, Int.reduceGE, Int.reduceEq, Int.reduceNeg, Int.reduceAdd, Int.reduceSub, ↓reduceIte, reduceCtorEq, hlt, hlb, hld, hlf, q1, q2, q3, cells, sen, hxb, hxd, hxf, h0, ht, c1, c2, c3, c4, c5, c6]
  · have hp' : badAt b d f i = false := by simpa using hp
    have hR : R2 b d f n st i = R2 b d f n st (i + 1) := by rw [R2, badFrom_step hin, hp', Bool.false_or]; rfl
    rw [hR]
    rw [hba] at hp
    simp only [outB, Bool.or_eq_true, decide_eq_true_eq, not_or] at hp
    obtain ⟨⟨⟨c1, c2⟩, c3, c4⟩, c5, c6⟩ := hp
    simp only [lb44_2, loopN, loops, hd2, hd44_2, Try.f44, go_sem, Nat.reduceAdd, Nat.reduceSub, Nat.reduceMul, Nat.reduceEqDiff, Nat.reduceBEq, Nat.reduceLT, Nat.reduceLeDiff, Nat.reducePow, Int.reduceToNat, Int.reduceLT, Int.reduceLE, Int.reduceGT, Int.reduceGE, Int.reduceEq, Int.reduceNeg, Int.reduceAdd, Int.reduceSub, ↓reduceIte, reduceCtorEq, hlt, hlb, hld, hlf, q1, q2, q3, cells, sen, hxb, hxd, hxf, h0, ht, c1, c2, c3, c4, c5, c6, hw]
    exact hk (i + 1) _ (by omega) (by omega) (by simp only [hd2, hd44_2, go_sem, Nat.reduceAdd, Nat.reduceSub, Nat.reduceMul, Nat.reduceEqDiff, Nat.reduceBEq, Nat.reduceLT, Nat.reduceLeDiff, Nat.reducePow, Int.reduceToNat, Int.reduceLT, Int.reduceLE, Int.reduceGT, Int.reduceGE, Int.reduceEq, Int.reduceNeg, Int.reduceAdd, Int.reduceSub, ↓reduceIte, reduceCtorEq, hw])
theorem e44 (w h : Int) (b d f : List Int) (full gain noise : Int) : ∃ L c, evTop Try.prog [] T44 L c 44 [sen w h b d f full gain noise] = some [.int .i64 (wrong ⟨w, h, b, d, f, full, gain, noise⟩)] := by
  refine ⟨(w * h).toNat + 5, 1, ?_⟩
  unfold evTop
  simp only [List.map]
  rw [evF_s (fn := Try.f44) (msk := en44.ms) (hT := by rfl) (hb := by rfl)]
  unfold sen
  obtain ⟨v, hv⟩ : ∃ v, v = wrong ⟨w, h, b, d, f, full, gain, noise⟩ := ⟨_, rfl⟩
  rw [← hv]
  unfold wrong at hv
  simp only at hv
  by_cases a1 : w < 1
  · rw [if_pos (by omega)] at hv
    simp only [Try.f44, go_sem, Nat.reduceAdd, Nat.reduceSub, Nat.reduceMul, Nat.reduceEqDiff, Nat.reduceBEq, Nat.reduceLT, Nat.reduceLeDiff, Nat.reducePow, Int.reduceToNat, Int.reduceLT, Int.reduceLE, Int.reduceGT, Int.reduceGE, Int.reduceEq, Int.reduceNeg, Int.reduceAdd, Int.reduceSub, ↓reduceIte, reduceCtorEq, hv, a1]
  by_cases a2 : w > 32
  · rw [if_pos (by omega)] at hv
    simp only [Try.f44, go_sem, Nat.reduceAdd, Nat.reduceSub, Nat.reduceMul, Nat.reduceEqDiff, Nat.reduceBEq, Nat.reduceLT, Nat.reduceLeDiff, Nat.reducePow, Int.reduceToNat, Int.reduceLT, Int.reduceLE, Int.reduceGT, Int.reduceGE, Int.reduceEq, Int.reduceNeg, Int.reduceAdd, Int.reduceSub, ↓reduceIte, reduceCtorEq, hv, a1, a2]
  by_cases a3 : h < 1
  · rw [if_pos (by omega)] at hv
    simp only [Try.f44, go_sem, Nat.reduceAdd, Nat.reduceSub, Nat.reduceMul, Nat.reduceEqDiff, Nat.reduceBEq, Nat.reduceLT, Nat.reduceLeDiff, Nat.reducePow, Int.reduceToNat, Int.reduceLT, Int.reduceLE, Int.reduceGT, Int.reduceGE, Int.reduceEq, Int.reduceNeg, Int.reduceAdd, Int.reduceSub, ↓reduceIte, reduceCtorEq, hv, a1, a2, a3]
  by_cases a4 : h > 32
  · rw [if_pos (by omega)] at hv
    simp only [Try.f44, go_sem, Nat.reduceAdd, Nat.reduceSub, Nat.reduceMul, Nat.reduceEqDiff, Nat.reduceBEq, Nat.reduceLT, Nat.reduceLeDiff, Nat.reducePow, Int.reduceToNat, Int.reduceLT, Int.reduceLE, Int.reduceGT, Int.reduceGE, Int.reduceEq, Int.reduceNeg, Int.reduceAdd, Int.reduceSub, ↓reduceIte, reduceCtorEq, hv, a1, a2, a3, a4]
  rw [if_neg (by omega)] at hv
  obtain ⟨g1, g2⟩ := area (w := w) (h := h) (by omega) (by omega) (by omega) (by omega)
  have hw : IntKind.i64.wrap (w * h) = w * h := IntWalk.i64_in _ (by omega)
  simp only [Try.f44, go_sem, Nat.reduceAdd, Nat.reduceSub, Nat.reduceMul, Nat.reduceEqDiff, Nat.reduceBEq, Nat.reduceLT, Nat.reduceLeDiff, Nat.reducePow, Int.reduceToNat, Int.reduceLT, Int.reduceLE, Int.reduceGT, Int.reduceGE, Int.reduceEq, Int.reduceNeg, Int.reduceAdd, Int.reduceSub, ↓reduceIte, reduceCtorEq, a1, a2, a3, a4]
  rw [iter_s]
  by_cases h3 : (b.length : Int) = w * h
  case neg =>
    rw [if_pos (.inl h3)] at hv
    simp only [go_sem, Nat.reduceAdd, Nat.reduceSub, Nat.reduceMul, Nat.reduceEqDiff, Nat.reduceBEq, Nat.reduceLT, Nat.reduceLeDiff, Nat.reducePow, Int.reduceToNat, Int.reduceLT, Int.reduceLE, Int.reduceGT, Int.reduceGE, Int.reduceEq, Int.reduceNeg, Int.reduceAdd, Int.reduceSub, ↓reduceIte, reduceCtorEq, hv, hw, h3]
  simp only [go_sem, Nat.reduceAdd, Nat.reduceSub, Nat.reduceMul, Nat.reduceEqDiff, Nat.reduceBEq, Nat.reduceLT, Nat.reduceLeDiff, Nat.reducePow, Int.reduceToNat, Int.reduceLT, Int.reduceLE, Int.reduceGT, Int.reduceGE, Int.reduceEq, Int.reduceNeg, Int.reduceAdd, Int.reduceSub, ↓reduceIte, reduceCtorEq, hw, h3]
  rw [iter_s]
  by_cases h4 : (d.length : Int) = w * h
  case neg =>
    rw [if_pos (.inr (.inl h4))] at hv
    simp only [go_sem, Nat.reduceAdd, Nat.reduceSub, Nat.reduceMul, Nat.reduceEqDiff, Nat.reduceBEq, Nat.reduceLT, Nat.reduceLeDiff, Nat.reducePow, Int.reduceToNat, Int.reduceLT, Int.reduceLE, Int.reduceGT, Int.reduceGE, Int.reduceEq, Int.reduceNeg, Int.reduceAdd, Int.reduceSub, ↓reduceIte, reduceCtorEq, hv, hw, h3, h4]
  simp only [go_sem, Nat.reduceAdd, Nat.reduceSub, Nat.reduceMul, Nat.reduceEqDiff, Nat.reduceBEq, Nat.reduceLT, Nat.reduceLeDiff, Nat.reducePow, Int.reduceToNat, Int.reduceLT, Int.reduceLE, Int.reduceGT, Int.reduceGE, Int.reduceEq, Int.reduceNeg, Int.reduceAdd, Int.reduceSub, ↓reduceIte, reduceCtorEq, hw, h3, h4]
  rw [iter_s]
  by_cases h5 : (f.length : Int) = w * h
  case neg =>
    rw [if_pos (.inr (.inr h5))] at hv
    simp only [go_sem, Nat.reduceAdd, Nat.reduceSub, Nat.reduceMul, Nat.reduceEqDiff, Nat.reduceBEq, Nat.reduceLT, Nat.reduceLeDiff, Nat.reducePow, Int.reduceToNat, Int.reduceLT, Int.reduceLE, Int.reduceGT, Int.reduceGE, Int.reduceEq, Int.reduceNeg, Int.reduceAdd, Int.reduceSub, ↓reduceIte, reduceCtorEq, hv, hw, h3, h4, h5]
  simp only [go_sem, Nat.reduceAdd, Nat.reduceSub, Nat.reduceMul, Nat.reduceEqDiff, Nat.reduceBEq, Nat.reduceLT, Nat.reduceLeDiff, Nat.reducePow, Int.reduceToNat, Int.reduceLT, Int.reduceLE, Int.reduceGT, Int.reduceGE, Int.reduceEq, Int.reduceNeg, Int.reduceAdd, Int.reduceSub, ↓reduceIte, reduceCtorEq, hw, h3, h4, h5]
  rw [iter_s]
  simp only [go_sem, Nat.reduceAdd, Nat.reduceSub, Nat.reduceMul, Nat.reduceEqDiff, Nat.reduceBEq, Nat.reduceLT, Nat.reduceLeDiff, Nat.reducePow, Int.reduceToNat, Int.reduceLT, Int.reduceLE, Int.reduceGT, Int.reduceGE, Int.reduceEq, Int.reduceNeg, Int.reduceAdd, Int.reduceSub, ↓reduceIte, reduceCtorEq, hw]
  have hbl : b.length = (w * h).toNat := by omega
  have hn : (w * h) = ((w * h).toNat : Nat) := by omega
  conv in iter _ _ _ _ _ => change iter (evC _ _ _ _ en44.ms _ _ lb44_2) (maskOf en44.ms 2) _ _ _
  rw [l2 _ _ _ w h b d f full gain noise _ (w * h).toNat (by omega) (by simp only [go_sem, Nat.reduceAdd, Nat.reduceSub, Nat.reduceMul, Nat.reduceEqDiff, Nat.reduceBEq, Nat.reduceLT, Nat.reduceLeDiff, Nat.reducePow, Int.reduceToNat, Int.reduceLT, Int.reduceLE, Int.reduceGT, Int.reduceGE, Int.reduceEq, Int.reduceNeg, Int.reduceAdd, Int.reduceSub, ↓reduceIte, reduceCtorEq]) (by simp only [go_sem, Nat.reduceAdd, Nat.reduceSub, Nat.reduceMul, Nat.reduceEqDiff, Nat.reduceBEq, Nat.reduceLT, Nat.reduceLeDiff, Nat.reducePow, Int.reduceToNat, Int.reduceLT, Int.reduceLE, Int.reduceGT, Int.reduceGE, Int.reduceEq, Int.reduceNeg, Int.reduceAdd, Int.reduceSub, ↓reduceIte, reduceCtorEq]) (by simp only [cells, sen, go_sem, Nat.reduceAdd, Nat.reduceSub, Nat.reduceMul, Nat.reduceEqDiff, Nat.reduceBEq, Nat.reduceLT, Nat.reduceLeDiff, Nat.reducePow, Int.reduceToNat, Int.reduceLT, Int.reduceLE, Int.reduceGT, Int.reduceGE, Int.reduceEq, Int.reduceNeg, Int.reduceAdd, Int.reduceSub, ↓reduceIte, reduceCtorEq]) (by omega) (by omega) (by omega) _ 0 _ (by omega) (by omega) (by simp only [hd2, hd44_2, go_sem, Nat.reduceAdd, Nat.reduceSub, Nat.reduceMul, Nat.reduceEqDiff, Nat.reduceBEq, Nat.reduceLT, Nat.reduceLeDiff, Nat.reducePow, Int.reduceToNat, Int.reduceLT, Int.reduceLE, Int.reduceGT, Int.reduceGE, Int.reduceEq, Int.reduceNeg, Int.reduceAdd, Int.reduceSub, ↓reduceIte, reduceCtorEq, ← hn])]
  rw [R2, bad_all (by omega) (by omega) (by omega)]
  rw [if_neg (by omega)] at hv
  by_cases o : (outside b 4096 || outside d 17592186044416 || outside f 4096) = true
  · rw [if_pos o]
    rw [if_pos (by simpa [or_assoc] using o)] at hv
    simp only [hr44, go_sem, Nat.reduceAdd, Nat.reduceSub, Nat.reduceMul, Nat.reduceEqDiff, Nat.reduceBEq, Nat.reduceLT, Nat.reduceLeDiff, Nat.reducePow, Int.reduceToNat, Int.reduceLT, Int.reduceLE, Int.reduceGT, Int.reduceGE, Int.reduceEq, Int.reduceNeg, Int.reduceAdd, Int.reduceSub, ↓reduceIte, reduceCtorEq, hv]
  rw [if_neg o]
  rw [if_neg (by simpa [or_assoc] using o)] at hv
  by_cases c1 : full < 1
  · rw [if_pos (by omega)] at hv
    simp only [hx44_2, hr44, go_sem, Nat.reduceAdd, Nat.reduceSub, Nat.reduceMul, Nat.reduceEqDiff, Nat.reduceBEq, Nat.reduceLT, Nat.reduceLeDiff, Nat.reducePow, Int.reduceToNat, Int.reduceLT, Int.reduceLE, Int.reduceGT, Int.reduceGE, Int.reduceEq, Int.reduceNeg, Int.reduceAdd, Int.reduceSub, ↓reduceIte, reduceCtorEq, hv, c1]
  by_cases c2 : full > 1048576
  · rw [if_pos (by omega)] at hv
    simp only [hx44_2, hr44, go_sem, Nat.reduceAdd, Nat.reduceSub, Nat.reduceMul, Nat.reduceEqDiff, Nat.reduceBEq, Nat.reduceLT, Nat.reduceLeDiff, Nat.reducePow, Int.reduceToNat, Int.reduceLT, Int.reduceLE, Int.reduceGT, Int.reduceGE, Int.reduceEq, Int.reduceNeg, Int.reduceAdd, Int.reduceSub, ↓reduceIte, reduceCtorEq, hv, c1, c2]
  by_cases c3 : gain < 1
  · rw [if_pos (by omega)] at hv
    simp only [hx44_2, hr44, go_sem, Nat.reduceAdd, Nat.reduceSub, Nat.reduceMul, Nat.reduceEqDiff, Nat.reduceBEq, Nat.reduceLT, Nat.reduceLeDiff, Nat.reducePow, Int.reduceToNat, Int.reduceLT, Int.reduceLE, Int.reduceGT, Int.reduceGE, Int.reduceEq, Int.reduceNeg, Int.reduceAdd, Int.reduceSub, ↓reduceIte, reduceCtorEq, hv, c1, c2, c3]
  by_cases c4 : gain > 64
  · rw [if_pos (by omega)] at hv
    simp only [hx44_2, hr44, go_sem, Nat.reduceAdd, Nat.reduceSub, Nat.reduceMul, Nat.reduceEqDiff, Nat.reduceBEq, Nat.reduceLT, Nat.reduceLeDiff, Nat.reducePow, Int.reduceToNat, Int.reduceLT, Int.reduceLE, Int.reduceGT, Int.reduceGE, Int.reduceEq, Int.reduceNeg, Int.reduceAdd, Int.reduceSub, ↓reduceIte, reduceCtorEq, hv, c1, c2, c3, c4]
  by_cases c5 : noise < 0
  · rw [if_pos (by omega)] at hv
    simp only [hx44_2, hr44, go_sem, Nat.reduceAdd, Nat.reduceSub, Nat.reduceMul, Nat.reduceEqDiff, Nat.reduceBEq, Nat.reduceLT, Nat.reduceLeDiff, Nat.reducePow, Int.reduceToNat, Int.reduceLT, Int.reduceLE, Int.reduceGT, Int.reduceGE, Int.reduceEq, Int.reduceNeg, Int.reduceAdd, Int.reduceSub, ↓reduceIte, reduceCtorEq, hv, c1, c2, c3, c4, c5]
  by_cases c6 : noise > 64
  · rw [if_pos (by omega)] at hv
    simp only [hx44_2, hr44, go_sem, Nat.reduceAdd, Nat.reduceSub, Nat.reduceMul, Nat.reduceEqDiff, Nat.reduceBEq, Nat.reduceLT, Nat.reduceLeDiff, Nat.reducePow, Int.reduceToNat, Int.reduceLT, Int.reduceLE, Int.reduceGT, Int.reduceGE, Int.reduceEq, Int.reduceNeg, Int.reduceAdd, Int.reduceSub, ↓reduceIte, reduceCtorEq, hv, c1, c2, c3, c4, c5, c6]
  rw [if_neg (by omega)] at hv
  simp only [hx44_2, hr44, go_sem, Nat.reduceAdd, Nat.reduceSub, Nat.reduceMul, Nat.reduceEqDiff, Nat.reduceBEq, Nat.reduceLT, Nat.reduceLeDiff, Nat.reducePow, Int.reduceToNat, Int.reduceLT, Int.reduceLE, Int.reduceGT, Int.reduceGE, Int.reduceEq, Int.reduceNeg, Int.reduceAdd, Int.reduceSub, ↓reduceIte, reduceCtorEq, hv, c1, c2, c3, c4, c5, c6]
theorem s44_ok : SpecOk Try.prog 44 s43 :=
  spec_of mixed specs_nil (table_cons Try.func44 (by kernel_rfl) (by kernel_rfl) table_nil) fun x _ => e44 x.w x.h x.b x.d x.f x.full x.gain x.noise
#print axioms s44_ok
end Go.Proofs.Ytjplkbeolakbjaa.FltSens
end
section
set_option linter.unusedVariables false
set_option linter.unusedSimpArgs false
set_option maxRecDepth 100000
namespace Go.Proofs.Ytjplkbeolakbjaa.SizSens
open Go.Ev Go.Proofs.Ytjplkbeolakbjaa.FxSens Go.Proofs.Ytjplkbeolakbjaa.ChkSens Go.Proofs.Ytjplkbeolakbjaa.FltSens
attribute [local go_sem] Ev.putR_s Ev.putR_0 Ev.thenO_s Ev.thenO_0 Ev.seqR_n Ev.seqR_e Ev.seqR_r Ev.seqR_0 Ev.blkR_e Ev.blkR_n Ev.blkR_r Ev.blkR_0 Ev.normR_s Ev.normR_0 Ev.outR_r Ev.outR_n Ev.outR_0 Ev.retS_s Ev.retS_0 Ev.pureO_s Ev.pureO_0 Ev.topR_0 Ev.topR_t Ev.topR_t0 Ev.oneL_0 Ev.oneL_s Ev.topR_d Ev.topR_nils Ev.topR_agg Ev.topR_rs Ev.evOp_move Ev.evOp_assign Ev.evOp_pick Ev.evOp_alloc Ev.evOp_box Ev.evOp_build Ev.evOp_buildSlice Ev.evOp_load Ev.evOp_store Ev.evOp_makeMap Ev.evOp_lookup Ev.evOp_mapUpdate Ev.evOp_insert Ev.evOp_nilCheck Ev.evOp_binOp Ev.evOp_unOp Ev.evOp_convert Ev.evOp_makeFunc Ev.evOp_makeSlice Ev.evOp_slice Ev.evOp_fieldAddr Ev.evOp_field Ev.evOp_indexAddr Ev.evOp_index Ev.evOp_extract Ev.evOp_call Ev.evOp_append Ev.evOp_len Ev.evOp_min Ev.evOp_max Ev.condR_b Ev.condR_t Ev.evOps_nil Ev.evOps_plain Ev.evOps_guard Ev.runG_eq Ev.skipG_eq Ev.condL_tt Ev.condL_ff Ev.condL_tf Ev.condL_ft Ev.condL_u Ev.condC_t Ev.condC_f Ev.evC_skip Ev.evC_ret Ev.evC_exit Ev.evC_label Ev.evC_region Ev.evC_draw Ev.evC_seq Ev.evC_cond Ev.evC_block Ev.evC_loop Ev.fin_d Ev.fin_nils Ev.fin_agg_ Ev.fin_rs Ev.finS_s Ev.mapO_fin Ev.upd_upd Ev.argv_d Ev.argv_nils Ev.argv_agg Ev.argv_rs Ev.argv_p Ev.appendTo_nils Ev.appendTo_rs Ev.consV_d Ev.consV_agg Ev.consV_p Ev.consV_rs Ev.consV_nils Ev.consV_fn Ev.consV_und Ev.consV_jk Ev.consV_grown Ev.topR_grown Ev.len_grown Ev.consV_mp Ev.sameK_i Ev.sameK_s Ev.mget_0 Ev.mget_hit Ev.mget_miss Ev.mput_0 Ev.mput_hit Ev.mput_miss Ev.apartAll Ev.apartL Ev.apartV Ev.freeAll Ev.sel Ev.keyOfV Ev.evLookup Ev.evPut Ev.hintOk Ev.keyOk Ev.consP Ev.lookV Ev.guardV Ev.dstAt Ev.evPure Ev.evStore Ev.evPureB Ev.evBin Ev.evBinO Ev.evNil Ev.isNilC Ev.evUn Ev.evConv Ev.evSlice Ev.optI Ev.lenV Ev.elemT Ev.foldI Ev.capsOk Ev.noTup Ev.nth Ev.setN Ev.pad Ev.V.get Ev.V.put Ev.putD Ev.hasT Ev.newBlk Ev.upd Ev.keq Ev.empty Ev.evCall Ev.V.args Ev.argP Ev.callOf Ev.evNilP Ev.isNilP Ev.look Ev.V.view.views Ev.V.view Ev.V.toD Ev.V.toD.V.toDs Ev.V.pure.pures Ev.V.pure Ev.D.flat.flats Ev.D.flat Ev.mkAgg Ev.allD Ev.aggParts Ev.setParts Ev.setElems Ev.getPath Ev.setPath Ev.subL Ev.eqD Ev.eqD.eqDs Ev.and2 Ev.strCut Ev.evalT Ev.constT Ev.evArgs Ev.mask Ev.maskOf Ev.tableOf Ev.compT Ev.resV Ev.retV Ev.mapO Ev.elemsOf Int.cast_ofNat_Int IntWalk.i64_in IntWalk.u64_in IntWalk.u8_in beq_self_eq_true Bool.true_beq Bool.false_beq Bool.and_true Bool.true_and Bool.false_and Bool.and_false Bool.and_self Bool.not_true Bool.not_false Bool.not_eq_true cond_true cond_false if_true if_false and_true true_and and_self decide_true decide_false Bool.or_true Bool.true_or Bool.or_false Bool.false_or List.isEmpty List.isEmpty_nil List.size_toArray List.map List.length_map List.length_cons List.length_nil Option.map Option.bind Option.getD Option.isSome List.replicate Bool.false_eq_true implies_true forall_const Array.toList Array.isEmpty List.append List.nil_append List.cons_append List.drop_zero List.take_length List.take_succ_cons List.take_zero List.take_nil List.getElem?_map List.getElem?_cons_zero List.getElem?_cons_succ List.getElem?_nil List.append_nil
attribute [local go_sem] FxSens.tk2 FxSens.ik2 FxSens.zv2 FxSens.tk3 FxSens.ik3 FxSens.zv3 FxSens.by3 FxSens.so3 FxSens.tk4 FxSens.ub4 FxSens.zv4 FxSens.tk22 FxSens.ik22 FxSens.zv22 FxSens.tk27 FxSens.ik27 FxSens.zv27 FxSens.by27 FxSens.so27 FxSens.tk32 FxSens.zv32 FxSens.tk36 FxSens.ik36 FxSens.zv36 FxSens.tk47 FxSens.ik47 FxSens.zv47 FxSens.by47 FxSens.so47 FxSens.tk54 FxSens.zv54 FxSens.tk56 FxSens.ct56 FxSens.zv56 FxSens.tk73 FxSens.zv73 FxSens.tk96 FxSens.ik96 FxSens.zv96 FxSens.tk97 FxSens.ct97 FxSens.zv97 FxSens.by97 FxSens.so97 FxSens.tk98 FxSens.zv98 FxSens.tk107 FxSens.zv107 FxSens.tk120 FxSens.zv120 FxSens.tk124 FxSens.zv124 FxSens.tk152 FxSens.zv152 FxSens.tk155 FxSens.zv155 FxSens.mk10_1000000 FxSens.mk15_1000000 FxSens.dw17_6 FxSens.nc17_6 FxSens.mk17_0 FxSens.mk17_1000001 FxSens.mk17_1000002 FxSens.mk17_1000000 FxSens.mk18_1000000 FxSens.mk19_1000000 FxSens.dw39_6 FxSens.nc39_6 FxSens.mk39_0 FxSens.mk39_1000001 FxSens.mk39_1000002 FxSens.mk39_1000000 FxSens.mk42_1000000 FxSens.mk43_1000001 FxSens.mk43_1000000 FxSens.mk44_0 FxSens.mk44_2 FxSens.mk44_1000001 FxSens.mk44_1000002 FxSens.mk44_1000003 FxSens.mk44_1000004 FxSens.mk44_1000000 FxSens.mk45_0 FxSens.mk45_2 FxSens.mk45_4 FxSens.mk45_1000001 FxSens.mk45_1000002 FxSens.mk45_1000003 FxSens.mk45_1000004 FxSens.mk45_1000005 FxSens.mk45_1000006 FxSens.mk45_1000000 FxSens.dw46_28 FxSens.nc46_28 FxSens.mk46_0 FxSens.mk46_2 FxSens.mk46_4 FxSens.mk46_1000001 FxSens.mk46_1000002 FxSens.mk46_1000003 FxSens.mk46_1000004 FxSens.mk46_1000005 FxSens.mk46_1000006 FxSens.mk46_1000000 FxSens.dw47_6 FxSens.nc47_6 FxSens.mk47_0 FxSens.mk47_1000001 FxSens.mk47_1000002 FxSens.mk47_1000000 FxSens.dw48_10 FxSens.nc48_10 FxSens.dw48_11 FxSens.nc48_11 FxSens.mk48_0 FxSens.mk48_1000001 FxSens.mk48_1000002 FxSens.mk48_1000000 FxSens.mk61_1000000 FxSens.mk83_1000000 FxSens.mk84_1000000 FxSens.mk85_1000000 FxSens.mk86_1000000 FxSens.mk87_1000000 FxSens.dw88_1 FxSens.nc88_1 FxSens.mk88_1000000 FxSens.dw89_5 FxSens.nc89_5 FxSens.mk89_0 FxSens.mk89_1000001 FxSens.mk89_1000002 FxSens.mk89_1000000 FxSens.mk90_1000000 FxSens.dw91_3 FxSens.nc91_3 FxSens.mk91_0 FxSens.mk91_1000001 FxSens.mk91_1000002 FxSens.mk91_1000000 FxSens.mk92_1000000 FxSens.mk93_1000000 FxSens.mk94_0 FxSens.mk94_1000001 FxSens.mk94_1000002 FxSens.mk94_1000000 FxSens.dw95_3 FxSens.nc95_3 FxSens.dw95_6 FxSens.nc95_6 FxSens.mk95_0 FxSens.mk95_1000001 FxSens.mk95_1000002 FxSens.mk95_1000000 FxSens.mk114_1000000 FxSens.mk115_1000000 FxSens.mk116_1000000 FxSens.mk117_1000000 FxSens.mk118_1000000 FxSens.mk119_1000000 FxSens.mk128_0 FxSens.mk128_1000001 FxSens.mk128_1000002 FxSens.mk128_1000000 FxSens.mk129_0 FxSens.mk129_1000001 FxSens.mk129_1000002 FxSens.mk129_1000000 FxSens.mk130_0 FxSens.mk130_1000001 FxSens.mk130_1000002 FxSens.mk130_1000000
noncomputable def G : Specs := [(43, s43), (44, s43)]
noncomputable def T : Table := tableOf [(86, en86), (93, en93)]
theorem G_ok : ∀ g s, Ev.look G g = some s → SpecOk Try.prog g s := specs_cons s43_ok (specs_cons s44_ok specs_nil)
theorem T_ok : TableOk Try.prog (G.map (·.1)) T := (table_cons Try.func86 (by kernel_rfl) (by kernel_rfl) (table_cons Try.func93 (by kernel_rfl) (by kernel_rfl) table_nil))
def missized (s : Sen) (n : Int) : Int := if wrong s = 0 then (if n = IntKind.i64.wrap (s.w * s.h) then 0 else 3) else wrong s
theorem wrong_zero {s : Sen} (h : wrong s = 0) : 1 ≤ s.w ∧ s.w ≤ 32 ∧ 1 ≤ s.h ∧ s.h ≤ 32 ∧ (s.b.length : Int) = s.w * s.h ∧ (s.d.length : Int) = s.w * s.h ∧ (s.f.length : Int) = s.w * s.h ∧ 1 ≤ s.full ∧ s.full ≤ 1048576 ∧ 1 ≤ s.gain ∧ s.gain ≤ 64 ∧ 0 ≤ s.noise ∧ s.noise ≤ 64 ∧
    Out84Sens.outside s.b 4096 = false ∧ Out84Sens.outside s.d 17592186044416 = false ∧ Out84Sens.outside s.f 4096 = false := by
  unfold wrong at h
  split at h
  · omega
  split at h
  · omega
  split at h
  · omega
  rename_i h1 h2 h3
  split at h
  · omega
  simp only [not_or, Bool.not_eq_true] at h3
  refine ⟨by omega, by omega, by omega, by omega, by omega, by omega, by omega, by omega, by omega, by omega, by omega, by omega, by omega, h3.1, h3.2.1, h3.2.2⟩
theorem sized_zero {s : Sen} {n : Int} (h : missized s n = 0) : wrong s = 0 ∧ n = s.w * s.h ∧ 1 ≤ n ∧ n ≤ 1024 := by
  unfold missized at h
  split at h
  · rename_i h1
    obtain ⟨a1, a2, a3, a4, _⟩ := wrong_zero h1
    obtain ⟨g1, g2⟩ := area a1 a2 a3 a4
    rw [IntWalk.i64_in _ (by omega)] at h
    split at h
    · exact ⟨h1, by omega, by omega, by omega⟩
    · omega
  · omega
theorem toDs_map {α : Type} (g : α → D) : ∀ (l : List α), V.toD.V.toDs (l.map fun x => V.d (g x)) = some (l.map g)
  | [] => rfl
  | x :: r => by simp only [List.map_cons, V.toD.V.toDs, V.toD, toDs_map g r]
theorem ea (s : Sen) (n : Int) : ∃ L c, evTop Try.prog G T L c 86 [s.D, .int .i64 n] = some [.int .i64 (missized s n)] := by
  obtain ⟨w, h, b, d, f, full, gain, noise⟩ := s
  refine ⟨0, 1, ?_⟩
  unfold evTop Sen.D sen
  simp only [List.map]
  rw [evF_s (fn := Try.f86) (msk := en86.ms) (hT := by rfl) (hb := by rfl)]
  rw [missized]
  by_cases h1 : wrong ⟨w, h, b, d, f, full, gain, noise⟩ = 0
  · rw [if_pos h1]
    by_cases h2 : n = IntKind.i64.wrap (w * h)
    · rw [if_pos h2]
      simp only [Try.f86, G, go_sem, Nat.reduceAdd, Nat.reduceSub, Nat.reduceMul, Nat.reduceEqDiff, Nat.reduceBEq, Nat.reduceLT, Nat.reduceLeDiff, Nat.reducePow, Int.reduceToNat, Int.reduceLT, Int.reduceLE, Int.reduceGT, Int.reduceGE, Int.reduceEq, Int.reduceNeg, Int.reduceAdd, Int.reduceSub, ↓reduceIte, reduceCtorEq, s43_run, h1, h2]
    · rw [if_neg h2]
      simp only [Try.f86, G, go_sem, Nat.reduceAdd, Nat.reduceSub, Nat.reduceMul, Nat.reduceEqDiff, Nat.reduceBEq, Nat.reduceLT, Nat.reduceLeDiff, Nat.reducePow, Int.reduceToNat, Int.reduceLT, Int.reduceLE, Int.reduceGT, Int.reduceGE, Int.reduceEq, Int.reduceNeg, Int.reduceAdd, Int.reduceSub, ↓reduceIte, reduceCtorEq, s43_run, h1, h2]
  · rw [if_neg h1]
    simp only [Try.f86, G, go_sem, Nat.reduceAdd, Nat.reduceSub, Nat.reduceMul, Nat.reduceEqDiff, Nat.reduceBEq, Nat.reduceLT, Nat.reduceLeDiff, Nat.reducePow, Int.reduceToNat, Int.reduceLT, Int.reduceLE, Int.reduceGT, Int.reduceGE, Int.reduceEq, Int.reduceNeg, Int.reduceAdd, Int.reduceSub, ↓reduceIte, reduceCtorEq, s43_run, h1]
theorem eb (s : Sen) (n : Int) : ∃ L c, evTop Try.prog G T L c 93 [s.D, .int .i64 n] = some [.int .i64 (missized s n)] := by
  obtain ⟨w, h, b, d, f, full, gain, noise⟩ := s
  refine ⟨0, 1, ?_⟩
  unfold evTop Sen.D sen
  simp only [List.map]
  rw [evF_s (fn := Try.f93) (msk := en93.ms) (hT := by rfl) (hb := by rfl)]
  rw [missized]
  by_cases h1 : wrong ⟨w, h, b, d, f, full, gain, noise⟩ = 0
  · rw [if_pos h1]
    by_cases h2 : n = IntKind.i64.wrap (w * h)
    · rw [if_pos h2]
      simp only [Try.f93, G, go_sem, Nat.reduceAdd, Nat.reduceSub, Nat.reduceMul, Nat.reduceEqDiff, Nat.reduceBEq, Nat.reduceLT, Nat.reduceLeDiff, Nat.reducePow, Int.reduceToNat, Int.reduceLT, Int.reduceLE, Int.reduceGT, Int.reduceGE, Int.reduceEq, Int.reduceNeg, Int.reduceAdd, Int.reduceSub, ↓reduceIte, reduceCtorEq, s43_run, h1, h2]
    · rw [if_neg h2]
      simp only [Try.f93, G, go_sem, Nat.reduceAdd, Nat.reduceSub, Nat.reduceMul, Nat.reduceEqDiff, Nat.reduceBEq, Nat.reduceLT, Nat.reduceLeDiff, Nat.reducePow, Int.reduceToNat, Int.reduceLT, Int.reduceLE, Int.reduceGT, Int.reduceGE, Int.reduceEq, Int.reduceNeg, Int.reduceAdd, Int.reduceSub, ↓reduceIte, reduceCtorEq, s43_run, h1, h2]
  · rw [if_neg h1]
    simp only [Try.f93, G, go_sem, Nat.reduceAdd, Nat.reduceSub, Nat.reduceMul, Nat.reduceEqDiff, Nat.reduceBEq, Nat.reduceLT, Nat.reduceLeDiff, Nat.reducePow, Int.reduceToNat, Int.reduceLT, Int.reduceLE, Int.reduceGT, Int.reduceGE, Int.reduceEq, Int.reduceNeg, Int.reduceAdd, Int.reduceSub, ↓reduceIte, reduceCtorEq, s43_run, h1]
noncomputable def sz : Ev.Spec := mkSpec (fun x : Sen × Int => [x.1.D, .int .i64 x.2]) (fun _ => True) (fun x => [.int .i64 (missized x.1 x.2)])
theorem sz_run (w h : Int) (b d f : List Int) (full gain noise n : Int) : sz.run [.agg 56 [.int .i64 w, .int .i64 h, .sl 3 (b.map (.int .i64)), .sl 47 (d.map (.int .i64)), .sl 3 (f.map (.int .i64)), .int .i64 full, .int .i64 gain, .int .i64 noise], .int .i64 n] =
    some [.int .i64 (missized ⟨w, h, b, d, f, full, gain, noise⟩ n)] := by
  unfold sz
  exact mkSpec_run (enc := fun x : Sen × Int => [x.1.D, .int .i64 x.2]) (pre := fun _ => True) (fun x y h => by
    simp only [List.cons.injEq, D.int.injEq, and_true, true_and] at h
    exact Prod.ext (sen_inj _ _ (by rw [h.1])) h.2) (⟨w, h, b, d, f, full, gain, noise⟩, n) trivial
theorem sa_ok : SpecOk Try.prog 86 sz := spec_of mixed G_ok T_ok fun x _ => ea x.1 x.2
theorem sb_ok : SpecOk Try.prog 93 sz := spec_of mixed G_ok T_ok fun x _ => eb x.1 x.2
#print axioms sb_ok
end Go.Proofs.Ytjplkbeolakbjaa.SizSens
end
