/- Parts of one proof, joined: Idx129Rate, SkyFRate, EvX, FxIds, Eq42Ids. -/
import Derived.Test.YtmhjmjodchbhlaaRMSkyChecks11
import Derived.Sort.Row
import Derived.Sort.Grow
import Derived.Test.YtmhjmjodchbhlaaRProg
section
set_option linter.unusedVariables false
set_option linter.unusedSimpArgs false
set_option maxRecDepth 100000
namespace Go.Proofs.YtmhjmjodchbhlaaR.Idx129Rate
open Go.Ev Go.Proofs.YtmhjmjodchbhlaaR.FxRate
attribute [local go_sem] Ev.putR_s Ev.putR_0 Ev.thenO_s Ev.thenO_0 Ev.seqR_n Ev.seqR_e Ev.seqR_r Ev.seqR_0 Ev.blkR_e Ev.blkR_n Ev.blkR_r Ev.blkR_0 Ev.normR_s Ev.normR_0 Ev.outR_r Ev.outR_n Ev.outR_0 Ev.retS_s Ev.retS_0 Ev.pureO_s Ev.pureO_0 Ev.topR_0 Ev.topR_t Ev.topR_t0 Ev.oneL_0 Ev.oneL_s Ev.topR_d Ev.topR_nils Ev.topR_agg Ev.topR_rs Ev.evOp_move Ev.evOp_assign Ev.evOp_pick Ev.evOp_alloc Ev.evOp_box Ev.evOp_build Ev.evOp_buildSlice Ev.evOp_load Ev.evOp_store Ev.evOp_makeMap Ev.evOp_lookup Ev.evOp_mapUpdate Ev.evOp_insert Ev.evOp_nilCheck Ev.evOp_binOp Ev.evOp_unOp Ev.evOp_convert Ev.evOp_makeFunc Ev.evOp_makeSlice Ev.evOp_slice Ev.evOp_fieldAddr Ev.evOp_field Ev.evOp_indexAddr Ev.evOp_index Ev.evOp_extract Ev.evOp_call Ev.evOp_append Ev.evOp_len Ev.evOp_min Ev.evOp_max Ev.condR_b Ev.condR_t Ev.evOps_nil Ev.evOps_plain Ev.evOps_guard Ev.runG_eq Ev.skipG_eq Ev.condL_tt Ev.condL_ff Ev.condL_tf Ev.condL_ft Ev.condL_u Ev.condC_t Ev.condC_f Ev.evC_skip Ev.evC_ret Ev.evC_exit Ev.evC_label Ev.evC_region Ev.evC_draw Ev.evC_seq Ev.evC_cond Ev.evC_block Ev.evC_loop Ev.fin_d Ev.fin_nils Ev.fin_agg_ Ev.fin_rs Ev.finS_s Ev.mapO_fin Ev.upd_upd Ev.argv_d Ev.argv_nils Ev.argv_agg Ev.argv_rs Ev.argv_p Ev.appendTo_nils Ev.appendTo_rs Ev.consV_d Ev.consV_agg Ev.consV_p Ev.consV_rs Ev.consV_nils Ev.consV_fn Ev.consV_und Ev.consV_jk Ev.consV_grown Ev.topR_grown Ev.len_grown Ev.consV_mp Ev.sameK_i Ev.sameK_s Ev.mget_0 Ev.mget_hit Ev.mget_miss Ev.mput_0 Ev.mput_hit Ev.mput_miss Ev.apartAll Ev.apartL Ev.apartV Ev.freeAll Ev.sel Ev.keyOfV Ev.evLookup Ev.evPut Ev.hintOk Ev.keyOk Ev.consP Ev.lookV Ev.guardV Ev.dstAt Ev.evPure Ev.evStore Ev.evPureB Ev.evBin Ev.evBinO Ev.evNil Ev.isNilC Ev.evUn Ev.evConv Ev.evSlice Ev.optI Ev.lenV Ev.elemT Ev.foldI Ev.capsOk Ev.noTup Ev.nth Ev.setN Ev.pad Ev.V.get Ev.V.put Ev.putD Ev.hasT Ev.newBlk Ev.upd Ev.keq Ev.empty Ev.evCall Ev.V.args Ev.argP Ev.callOf Ev.evNilP Ev.isNilP Ev.look Ev.V.view.views Ev.V.view Ev.V.toD Ev.V.toD.V.toDs Ev.V.pure.pures Ev.V.pure Ev.D.flat.flats Ev.D.flat Ev.mkAgg Ev.allD Ev.aggParts Ev.setParts Ev.setElems Ev.getPath Ev.setPath Ev.subL Ev.eqD Ev.eqD.eqDs Ev.and2 Ev.strCut Ev.evalT Ev.constT Ev.evArgs Ev.mask Ev.maskOf Ev.tableOf Ev.compT Ev.resV Ev.retV Ev.mapO Ev.elemsOf Int.cast_ofNat_Int IntWalk.i64_in IntWalk.u64_in IntWalk.u8_in beq_self_eq_true Bool.true_beq Bool.false_beq Bool.and_true Bool.true_and Bool.false_and Bool.and_false Bool.and_self Bool.not_true Bool.not_false Bool.not_eq_true cond_true cond_false if_true if_false and_true true_and and_self decide_true decide_false Bool.or_true Bool.true_or Bool.or_false Bool.false_or List.isEmpty List.isEmpty_nil List.size_toArray List.map List.length_map List.length_cons List.length_nil Option.map Option.bind Option.getD Option.isSome List.replicate Bool.false_eq_true implies_true forall_const Array.toList Array.isEmpty List.append List.nil_append List.cons_append List.drop_zero List.take_length List.take_succ_cons List.take_zero List.take_nil List.getElem?_map List.getElem?_cons_zero List.getElem?_cons_succ List.getElem?_nil List.append_nil
attribute [local go_sem] FxRate.tk2 FxRate.ik2 FxRate.ek2 FxRate.zv2 FxRate.tk3 FxRate.ik3 FxRate.ek3 FxRate.zv3 FxRate.by3 FxRate.so3 FxRate.tk4 FxRate.ub4 FxRate.zv4 FxRate.tk23 FxRate.ct23 FxRate.ek23 FxRate.zv23 FxRate.tk27 FxRate.ik27 FxRate.zv27 FxRate.tk37 FxRate.ik37 FxRate.zv37 FxRate.by37 FxRate.so37 FxRate.tk39 FxRate.ct39 FxRate.zv39 FxRate.by39 FxRate.so39 FxRate.tk43 FxRate.zv43 FxRate.tk44 FxRate.zv44 FxRate.tk45 FxRate.zv45 FxRate.tk47 FxRate.ct47 FxRate.zv47 FxRate.tk48 FxRate.ik48 FxRate.zv48 FxRate.by48 FxRate.so48 FxRate.tk74 FxRate.zv74 FxRate.tk76 FxRate.ct76 FxRate.zv76 FxRate.by76 FxRate.so76 FxRate.tk77 FxRate.zv77 FxRate.tk79 FxRate.ct79 FxRate.zv79 FxRate.by79 FxRate.so79 FxRate.tk108 FxRate.zv108 FxRate.tk110 FxRate.ek110 FxRate.zv110 FxRate.tk111 FxRate.ek111 FxRate.zv111 FxRate.tk112 FxRate.zv112 FxRate.tk114 FxRate.ct114 FxRate.zv114 FxRate.by114 FxRate.so114 FxRate.tk136 FxRate.mt136 FxRate.sm136 FxRate.zw4 FxRate.zv136 FxRate.tk141 FxRate.zv141 FxRate.tk145 FxRate.zv145 FxRate.tk161 FxRate.ct161 FxRate.zv161 FxRate.tk182 FxRate.zv182 FxRate.mk7_1000000 FxRate.mk24_0 FxRate.mk24_2 FxRate.mk24_4 FxRate.mk24_1000001 FxRate.mk24_1000002 FxRate.mk24_1000003 FxRate.mk24_1000004 FxRate.mk24_1000005 FxRate.mk24_1000006 FxRate.mk24_1000000 FxRate.dw25_19 FxRate.nc25_19 FxRate.mk25_0 FxRate.mk25_2 FxRate.mk25_1000001 FxRate.mk25_1000002 FxRate.mk25_1000003 FxRate.mk25_1000004 FxRate.mk25_1000000 FxRate.mk40_0 FxRate.mk40_2 FxRate.mk40_4 FxRate.mk40_1000001 FxRate.mk40_1000002 FxRate.mk40_1000003 FxRate.mk40_1000004 FxRate.mk40_1000005 FxRate.mk40_1000006 FxRate.mk40_1000007 FxRate.mk40_1000000 FxRate.mk41_0 FxRate.mk41_1000001 FxRate.mk41_1000002 FxRate.mk41_1000003 FxRate.mk41_1000004 FxRate.mk41_1000000 FxRate.mk66_1000000 FxRate.dw67_9 FxRate.nc67_9 FxRate.mk67_1000000 FxRate.dw68_5 FxRate.nc68_5 FxRate.dw68_10 FxRate.nc68_10 FxRate.dw68_15 FxRate.nc68_15 FxRate.mk68_0 FxRate.mk68_2 FxRate.mk68_4 FxRate.mk68_1000001 FxRate.mk68_1000002 FxRate.mk68_1000003 FxRate.mk68_1000004 FxRate.mk68_1000005 FxRate.mk68_1000006 FxRate.mk68_1000000 FxRate.mk87_1000001 FxRate.mk87_1000000 FxRate.mk88_1000001 FxRate.mk88_1000000 FxRate.mk89_0 FxRate.mk89_1000001 FxRate.mk89_1000002 FxRate.mk89_1000000 FxRate.mk90_1000000 FxRate.mk91_1000000 FxRate.dw92_10 FxRate.nc92_10 FxRate.mk92_0 FxRate.mk92_2 FxRate.mk92_1000001 FxRate.mk92_1000002 FxRate.mk92_1000003 FxRate.mk92_1000004 FxRate.mk92_1000000 FxRate.mk93_1000001 FxRate.mk93_1000000 FxRate.mk94_1000000 FxRate.mk95_1000000 FxRate.mk128_1000000 FxRate.mk129_0 FxRate.mk129_1000001 FxRate.mk129_1000002 FxRate.mk129_1000000 FxRate.mk130_1000000 FxRate.mk131_0 FxRate.mk131_1000001 FxRate.mk131_1000002 FxRate.mk131_1000000 FxRate.mk150_0 FxRate.mk150_1000001 FxRate.mk150_1000002 FxRate.mk150_1000000
/-- The place of the first that p takes, from i on. -/
def idx {α : Type} (p : α → Bool) : List α → Int → Int
  | [], _ => -1
  | x :: r, i => if p x = true then i else idx p r (i + 1)
theorem idx_none {α : Type} (p : α → Bool) : ∀ (l : List α) (i : Int), l.any p = false → idx p l i = -1
  | [], _, _ => rfl
  | x :: r, i, h => by
    simp only [List.any_cons, Bool.or_eq_false_iff] at h
    rw [idx, if_neg (by simp [h.1])]
    exact idx_none p r (i + 1) h.2
theorem idx_any {α : Type} (p : α → Bool) : ∀ (l : List α) (i : Int), 0 ≤ i → decide (idx p l i ≥ 0) = l.any p
  | [], i, _ => rfl
  | x :: r, i, h => by
    simp only [idx, List.any_cons]
    by_cases hp : p x = true
    · simp [hp, h]
    · simp only [hp, Bool.false_eq_true, if_false, Bool.false_or]; exact idx_any p r (i + 1) (by omega)
/-- What the closure answers at x, if its captured variable says q. -/
def Takes {α : Type} (s : Ev.Spec) (en : α → D) (q : D) (p : α → Bool) (l : List α) : Prop := ∀ x ∈ l, s.run [en x, .ptr q] = some [.bool (p x)]
def hd {α : Type} (en : α → D) (k : Key) (ver : Nat) (l : List α) (i : Nat) : List V := hd129_0 (.d (.sl 114 (l.map en))) (.fn 91 [.p k ver 0 []]) (.d (.int .i64 l.length)) (.d (.int .i64 i))
def R {α : Type} (p : α → Bool) (l : List α) (st : Store) (i : Nat) : Out := if (l.drop i).any p = true then some (.ret, hr129 (.d (.int .i64 (idx p (l.drop i) i))), st) else some (.exit 0, hx129_0, st)
theorem loop {α : Type} (en : α → D) (G : Specs) (s : Ev.Spec) (hG : Ev.look G 91 = some s) (L lv : Nat) (call : Caller) (p : α → Bool) (q : D) (k : Key) (ver : Nat) (l : List α) (st : Store) (hs : Takes s en q p l) (hty : ∀ x, hasT Try.prog 114 (.d (en x)) = true) (h1 : (st k).ver = ver) (h2 : (st k).live = true) (h3 : (st k).vs = [.d q]) (hl : l.length ≤ 4611686018427387904) :
    ∀ (n i : Nat) (env : List V), i ≤ l.length → l.length - i < n → mask (maskOf en129.ms 0) env = hd en k ver l i →
      iter (evC Try.prog G call L en129.ms lv 0 lb129_0) (maskOf en129.ms 0) n env st = R p l st i := by
  refine iter_wf _ _ (fun i => i ≤ l.length) (hd en k ver l) (fun _ => st) (R p l st) (fun i => l.length - i) ?_
  intro i hi kk hk
  by_cases hil : i < l.length
  case neg =>
    obtain rfl : i = l.length := by omega
    have hlt : ¬ (l.length : Int) < l.length := by omega
    simp only [lb129_0, loopN, loops, hd, hd129_0, R, hr129, hx129_0, Try.f129, go_sem, Nat.reduceAdd, Nat.reduceSub, Nat.reduceMul, Nat.reduceEqDiff, Nat.reduceBEq, Nat.reduceLT, Nat.reduceLeDiff, Nat.reducePow, Int.reduceToNat, Int.reduceLT, Int.reduceLE, Int.reduceGT, Int.reduceGE, Int.reduceEq, Int.reduceNeg, Int.reduceAdd, Int.reduceSub, ↓reduceIte, reduceCtorEq, hlt, List.drop_length, List.any_nil]
  have hlt : (i : Int) < l.length := by omega
  have hx : l[i]? = some l[i] := by simp [hil]
  have hdr : l.drop i = l[i] :: l.drop (i + 1) := List.drop_eq_getElem_cons hil
  have hw : IntKind.i64.wrap ((i : Int) + 1) = ((i + 1 : Nat) : Int) := by rw [IntWalk.i64_in _ (by omega)]; rfl
  have h0 : (0 : Int) ≤ (i : Int) := by omega
  have ht : ((i : Int)).toNat = i := by omega
  have hr := hs l[i] (List.getElem_mem _)
  by_cases hp : p l[i] = true
  · have hR : R p l st i = some (.ret, hr129 (.d (.int .i64 i)), st) := by
      rw [R, hdr, List.any_cons, hp, Bool.true_or, if_pos rfl, idx, if_pos hp]
    rw [hR]
    simp only [lb129_0, loopN, loops, hd, hd129_0, hr129, Try.f129, go_sem, Nat.reduceAdd, Nat.reduceSub, Nat.reduceMul, Nat.reduceEqDiff, Nat.reduceBEq, Nat.reduceLT, Nat.reduceLeDiff, Nat.reducePow, Int.reduceToNat, Int.reduceLT, Int.reduceLE, Int.reduceGT, Int.reduceGE, Int.reduceEq, Int.reduceNeg, Int.reduceAdd, Int.reduceSub, ↓reduceIte, reduceCtorEq, hlt, hx, h0, ht, hG, h1, h2, h3, hr, hp, ↓hty]
  · have hp' : p l[i] = false := by simpa using hp
    have hR : R p l st i = R p l st (i + 1) := by
      rw [R, hdr, List.any_cons, hp', Bool.false_or, idx, if_neg hp]; rfl
    rw [hR]
    simp only [lb129_0, loopN, loops, hd, hd129_0, Try.f129, go_sem, Nat.reduceAdd, Nat.reduceSub, Nat.reduceMul, Nat.reduceEqDiff, Nat.reduceBEq, Nat.reduceLT, Nat.reduceLeDiff, Nat.reducePow, Int.reduceToNat, Int.reduceLT, Int.reduceLE, Int.reduceGT, Int.reduceGE, Int.reduceEq, Int.reduceNeg, Int.reduceAdd, Int.reduceSub, ↓reduceIte, reduceCtorEq, hlt, hx, h0, ht, hG, h1, h2, h3, hr, hp', hw, ↓hty]
    exact hk (i + 1) _ (by omega) (by omega) (by simp only [hd, hd129_0, go_sem, Nat.reduceAdd, Nat.reduceSub, Nat.reduceMul, Nat.reduceEqDiff, Nat.reduceBEq, Nat.reduceLT, Nat.reduceLeDiff, Nat.reducePow, Int.reduceToNat, Int.reduceLT, Int.reduceLE, Int.reduceGT, Int.reduceGE, Int.reduceEq, Int.reduceNeg, Int.reduceAdd, Int.reduceSub, ↓reduceIte, reduceCtorEq, hw])
theorem ev {α : Type} (en : α → D) (G : Specs) (T : Table) (hT : T 129 = some en129) (s : Ev.Spec) (hG : Ev.look G 91 = some s) (c lv : Nat) (p : α → Bool) (q : D) (k : Key) (ver : Nat) (l : List α) (st : Store) (hs : Takes s en q p l) (hty : ∀ x, hasT Try.prog 114 (.d (en x)) = true) (h1 : (st k).ver = ver) (h2 : (st k).live = true) (h3 : (st k).vs = [.d q]) (hl : l.length ≤ 4611686018427387904) (L : Nat) (hL : l.length < L) :
    evF Try.prog G T L (c + 1) 129 [.d (.sl 114 (l.map en)), .fn 91 [.p k ver 0 []]] lv st = some (.d (.int .i64 (idx p l 0)), st) := by
  rw [evF_s (hT := hT) (hb := rfl)]
  simp only [Try.f129, go_sem, Nat.reduceAdd, Nat.reduceSub, Nat.reduceMul, Nat.reduceEqDiff, Nat.reduceBEq, Nat.reduceLT, Nat.reduceLeDiff, Nat.reducePow, Int.reduceToNat, Int.reduceLT, Int.reduceLE, Int.reduceGT, Int.reduceGE, Int.reduceEq, Int.reduceNeg, Int.reduceAdd, Int.reduceSub, ↓reduceIte, reduceCtorEq]
  conv in iter _ _ _ _ _ => change iter (evC _ _ _ _ en129.ms _ _ lb129_0) (maskOf en129.ms 0) _ _ _
  rw [loop en G s hG L _ _ p q k ver l st hs hty h1 h2 h3 hl L 0 _ (by omega) (by omega) (by simp only [hd, hd129_0, go_sem, Nat.reduceAdd, Nat.reduceSub, Nat.reduceMul, Nat.reduceEqDiff, Nat.reduceBEq, Nat.reduceLT, Nat.reduceLeDiff, Nat.reducePow, Int.reduceToNat, Int.reduceLT, Int.reduceLE, Int.reduceGT, Int.reduceGE, Int.reduceEq, Int.reduceNeg, Int.reduceAdd, Int.reduceSub, ↓reduceIte, reduceCtorEq])]
  rw [R, List.drop_zero]
  by_cases ha : l.any p = true
  · rw [if_pos ha]
    simp only [hr129, go_sem, Nat.reduceAdd, Nat.reduceSub, Nat.reduceMul, Nat.reduceEqDiff, Nat.reduceBEq, Nat.reduceLT, Nat.reduceLeDiff, Nat.reducePow, Int.reduceToNat, Int.reduceLT, Int.reduceLE, Int.reduceGT, Int.reduceGE, Int.reduceEq, Int.reduceNeg, Int.reduceAdd, Int.reduceSub, ↓reduceIte, reduceCtorEq]
  · rw [if_neg ha]
    have hi : idx p l 0 = -1 := idx_none _ _ _ (by simpa using ha)
    simp only [hx129_0, go_sem, Nat.reduceAdd, Nat.reduceSub, Nat.reduceMul, Nat.reduceEqDiff, Nat.reduceBEq, Nat.reduceLT, Nat.reduceLeDiff, Nat.reducePow, Int.reduceToNat, Int.reduceLT, Int.reduceLE, Int.reduceGT, Int.reduceGE, Int.reduceEq, Int.reduceNeg, Int.reduceAdd, Int.reduceSub, ↓reduceIte, reduceCtorEq, hi]
theorem cf {α : Type} (en : α → D) (G : Specs) (T : Table) (hT : T 129 = some en129) (hU : T 90 = some en90) (s : Ev.Spec) (hN : Ev.look G 129 = none) (hG : Ev.look G 91 = some s) (c lv : Nat) (p : α → Bool) (q : D) (k : Key) (ver : Nat) (l : List α) (st : Store) (hs : Takes s en q p l) (hty : ∀ x, hasT Try.prog 114 (.d (en x)) = true) (h1 : (st k).ver = ver) (h2 : (st k).live = true) (h3 : (st k).vs = [.d q]) (hl : l.length ≤ 4611686018427387904) (L : Nat) (hL : l.length < L) :
    evF Try.prog G T L (c + 2) 90 [.d (.sl 114 (l.map en)), .fn 91 [.p k ver 0 []]] lv st = some (.d (.bool (l.any p)), st) := by
  rw [evF_s (hT := hU) (hb := rfl)]
  have hi := idx_any p l 0 (by omega)
  simp only [Try.f90, go_sem, Nat.reduceAdd, Nat.reduceSub, Nat.reduceMul, Nat.reduceEqDiff, Nat.reduceBEq, Nat.reduceLT, Nat.reduceLeDiff, Nat.reducePow, Int.reduceToNat, Int.reduceLT, Int.reduceLE, Int.reduceGT, Int.reduceGE, Int.reduceEq, Int.reduceNeg, Int.reduceAdd, Int.reduceSub, ↓reduceIte, reduceCtorEq, hN, ev en G T hT s hG c _ p q k ver l st hs hty h1 h2 h3 hl L hL, hi]
end Go.Proofs.YtmhjmjodchbhlaaR.Idx129Rate
end
section
set_option linter.unusedVariables false
set_option linter.unusedSimpArgs false
set_option maxRecDepth 100000
namespace Go.Proofs.YtmhjmjodchbhlaaR.SkyFRate
open Go.Ev Go.Ari Go.Proofs.YtmhjmjodchbhlaaR.FxRate Go.Proofs.YtmhjmjodchbhlaaR.PullPull Go.Proofs.YtmhjmjodchbhlaaR.TypesRate Go.Proofs.YtmhjmjodchbhlaaR.FaultRate Go.Proofs.YtmhjmjodchbhlaaR.OwnRate
open Go.Proofs.YtmhjmjodchbhlaaR.PathPath (Bod bD cBod)
open Go.Proofs.YtmhjmjodchbhlaaR.ThingsRate (thD small sThings things_ok loop_then)
open Go.Proofs.YtmhjmjodchbhlaaR.StarRate (sStar sStar_run okStar fault_ok)
open Go.Proofs.YtmhjmjodchbhlaaR.Idx129Rate (cf)
attribute [local go_sem] Ev.putR_s Ev.putR_0 Ev.thenO_s Ev.thenO_0 Ev.seqR_n Ev.seqR_e Ev.seqR_r Ev.seqR_0 Ev.blkR_e Ev.blkR_n Ev.blkR_r Ev.blkR_0 Ev.normR_s Ev.normR_0 Ev.outR_r Ev.outR_n Ev.outR_0 Ev.retS_s Ev.retS_0 Ev.pureO_s Ev.pureO_0 Ev.topR_0 Ev.topR_t Ev.topR_t0 Ev.oneL_0 Ev.oneL_s Ev.topR_d Ev.topR_nils Ev.topR_agg Ev.topR_rs Ev.evOp_move Ev.evOp_assign Ev.evOp_pick Ev.evOp_alloc Ev.evOp_box Ev.evOp_build Ev.evOp_buildSlice Ev.evOp_load Ev.evOp_store Ev.evOp_makeMap Ev.evOp_lookup Ev.evOp_mapUpdate Ev.evOp_insert Ev.evOp_nilCheck Ev.evOp_binOp Ev.evOp_unOp Ev.evOp_convert Ev.evOp_makeFunc Ev.evOp_makeSlice Ev.evOp_slice Ev.evOp_fieldAddr Ev.evOp_field Ev.evOp_indexAddr Ev.evOp_index Ev.evOp_extract Ev.evOp_call Ev.evOp_append Ev.evOp_len Ev.evOp_min Ev.evOp_max Ev.condR_b Ev.condR_t Ev.evOps_nil Ev.evOps_plain Ev.evOps_guard Ev.runG_eq Ev.skipG_eq Ev.condL_tt Ev.condL_ff Ev.condL_tf Ev.condL_ft Ev.condL_u Ev.condC_t Ev.condC_f Ev.evC_skip Ev.evC_ret Ev.evC_exit Ev.evC_label Ev.evC_region Ev.evC_draw Ev.evC_seq Ev.evC_cond Ev.evC_block Ev.evC_loop Ev.fin_d Ev.fin_nils Ev.fin_agg_ Ev.fin_rs Ev.finS_s Ev.mapO_fin Ev.upd_upd Ev.argv_d Ev.argv_nils Ev.argv_agg Ev.argv_rs Ev.argv_p Ev.appendTo_nils Ev.appendTo_rs Ev.consV_d Ev.consV_agg Ev.consV_p Ev.consV_rs Ev.consV_nils Ev.consV_fn Ev.consV_und Ev.consV_jk Ev.consV_grown Ev.topR_grown Ev.len_grown Ev.consV_mp Ev.sameK_i Ev.sameK_s Ev.mget_0 Ev.mget_hit Ev.mget_miss Ev.mput_0 Ev.mput_hit Ev.mput_miss Ev.apartAll Ev.apartL Ev.apartV Ev.freeAll Ev.sel Ev.keyOfV Ev.evLookup Ev.evPut Ev.hintOk Ev.keyOk Ev.consP Ev.lookV Ev.guardV Ev.dstAt Ev.evPure Ev.evStore Ev.evPureB Ev.evBin Ev.evBinO Ev.evNil Ev.isNilC Ev.evUn Ev.evConv Ev.evSlice Ev.optI Ev.lenV Ev.elemT Ev.foldI Ev.capsOk Ev.noTup Ev.nth Ev.setN Ev.pad Ev.V.get Ev.V.put Ev.putD Ev.hasT Ev.newBlk Ev.upd Ev.keq Ev.empty Ev.evCall Ev.V.args Ev.argP Ev.callOf Ev.evNilP Ev.isNilP Ev.look Ev.V.view.views Ev.V.view Ev.V.toD Ev.V.toD.V.toDs Ev.V.pure.pures Ev.V.pure Ev.D.flat.flats Ev.D.flat Ev.mkAgg Ev.allD Ev.aggParts Ev.setParts Ev.setElems Ev.getPath Ev.setPath Ev.subL Ev.eqD Ev.eqD.eqDs Ev.and2 Ev.strCut Ev.evalT Ev.constT Ev.evArgs Ev.mask Ev.maskOf Ev.tableOf Ev.compT Ev.resV Ev.retV Ev.mapO Ev.elemsOf Int.cast_ofNat_Int IntWalk.i64_in IntWalk.u64_in IntWalk.u8_in beq_self_eq_true Bool.true_beq Bool.false_beq Bool.and_true Bool.true_and Bool.false_and Bool.and_false Bool.and_self Bool.not_true Bool.not_false Bool.not_eq_true cond_true cond_false if_true if_false and_true true_and and_self decide_true decide_false Bool.or_true Bool.true_or Bool.or_false Bool.false_or List.isEmpty List.isEmpty_nil List.size_toArray List.map List.length_map List.length_cons List.length_nil Option.map Option.bind Option.getD Option.isSome List.replicate Bool.false_eq_true implies_true forall_const Array.toList Array.isEmpty List.append List.nil_append List.cons_append List.drop_zero List.take_length List.take_succ_cons List.take_zero List.take_nil List.getElem?_map List.getElem?_cons_zero List.getElem?_cons_succ List.getElem?_nil List.append_nil
attribute [local go_sem] FxRate.tk2 FxRate.ik2 FxRate.ek2 FxRate.zv2 FxRate.tk3 FxRate.ik3 FxRate.ek3 FxRate.zv3 FxRate.by3 FxRate.so3 FxRate.tk4 FxRate.ub4 FxRate.zv4 FxRate.tk23 FxRate.ct23 FxRate.ek23 FxRate.zv23 FxRate.tk27 FxRate.ik27 FxRate.zv27 FxRate.tk37 FxRate.ik37 FxRate.zv37 FxRate.by37 FxRate.so37 FxRate.tk39 FxRate.ct39 FxRate.zv39 FxRate.by39 FxRate.so39 FxRate.tk43 FxRate.zv43 FxRate.tk44 FxRate.zv44 FxRate.tk45 FxRate.zv45 FxRate.tk47 FxRate.ct47 FxRate.zv47 FxRate.tk48 FxRate.ik48 FxRate.zv48 FxRate.by48 FxRate.so48 FxRate.tk74 FxRate.zv74 FxRate.tk76 FxRate.ct76 FxRate.zv76 FxRate.by76 FxRate.so76 FxRate.tk77 FxRate.zv77 FxRate.tk79 FxRate.ct79 FxRate.zv79 FxRate.by79 FxRate.so79 FxRate.tk108 FxRate.zv108 FxRate.tk110 FxRate.ek110 FxRate.zv110 FxRate.tk111 FxRate.ek111 FxRate.zv111 FxRate.tk112 FxRate.zv112 FxRate.tk114 FxRate.ct114 FxRate.zv114 FxRate.by114 FxRate.so114 FxRate.tk136 FxRate.mt136 FxRate.sm136 FxRate.zw4 FxRate.zv136 FxRate.tk141 FxRate.zv141 FxRate.tk145 FxRate.zv145 FxRate.tk161 FxRate.ct161 FxRate.zv161 FxRate.tk182 FxRate.zv182 FxRate.mk7_1000000 FxRate.mk24_0 FxRate.mk24_2 FxRate.mk24_4 FxRate.mk24_1000001 FxRate.mk24_1000002 FxRate.mk24_1000003 FxRate.mk24_1000004 FxRate.mk24_1000005 FxRate.mk24_1000006 FxRate.mk24_1000000 FxRate.dw25_19 FxRate.nc25_19 FxRate.mk25_0 FxRate.mk25_2 FxRate.mk25_1000001 FxRate.mk25_1000002 FxRate.mk25_1000003 FxRate.mk25_1000004 FxRate.mk25_1000000 FxRate.mk40_0 FxRate.mk40_2 FxRate.mk40_4 FxRate.mk40_1000001 FxRate.mk40_1000002 FxRate.mk40_1000003 FxRate.mk40_1000004 FxRate.mk40_1000005 FxRate.mk40_1000006 FxRate.mk40_1000007 FxRate.mk40_1000000 FxRate.mk41_0 FxRate.mk41_1000001 FxRate.mk41_1000002 FxRate.mk41_1000003 FxRate.mk41_1000004 FxRate.mk41_1000000 FxRate.mk66_1000000 FxRate.dw67_9 FxRate.nc67_9 FxRate.mk67_1000000 FxRate.dw68_5 FxRate.nc68_5 FxRate.dw68_10 FxRate.nc68_10 FxRate.dw68_15 FxRate.nc68_15 FxRate.mk68_0 FxRate.mk68_2 FxRate.mk68_4 FxRate.mk68_1000001 FxRate.mk68_1000002 FxRate.mk68_1000003 FxRate.mk68_1000004 FxRate.mk68_1000005 FxRate.mk68_1000006 FxRate.mk68_1000000 FxRate.mk87_1000001 FxRate.mk87_1000000 FxRate.mk88_1000001 FxRate.mk88_1000000 FxRate.mk89_0 FxRate.mk89_1000001 FxRate.mk89_1000002 FxRate.mk89_1000000 FxRate.mk90_1000000 FxRate.mk91_1000000 FxRate.dw92_10 FxRate.nc92_10 FxRate.mk92_0 FxRate.mk92_2 FxRate.mk92_1000001 FxRate.mk92_1000002 FxRate.mk92_1000003 FxRate.mk92_1000004 FxRate.mk92_1000000 FxRate.mk93_1000001 FxRate.mk93_1000000 FxRate.mk94_1000000 FxRate.mk95_1000000 FxRate.mk128_1000000 FxRate.mk129_0 FxRate.mk129_1000001 FxRate.mk129_1000002 FxRate.mk129_1000000 FxRate.mk130_1000000 FxRate.mk131_0 FxRate.mk131_1000001 FxRate.mk131_1000002 FxRate.mk131_1000000 FxRate.mk150_0 FxRate.mk150_1000001 FxRate.mk150_1000002 FxRate.mk150_1000000
theorem thD_ex (x : Thing) : ∃ a b c, thD x = .agg 114 [.int .i64 x.id, .int .i64 x.rate, a, b, c] := by
  cases x <;> exact ⟨_, _, _, rfl⟩
theorem thD_inj (x y : Thing) (h : thD x = thD y) : x = y := by
  cases x <;> cases y <;> simp only [thD, D.agg.injEq, List.cons.injEq, true_and, and_true, D.ptr.injEq, reduceCtorEq, false_and, and_false] at h
  · rw [cStar.inj _ _ h.2.2]
  · rw [cGal.inj _ _ h.2.2]
  · rw [cBod.inj _ _ h.2.2]
def cTh : Cod Thing := ⟨thD, thD_inj⟩
def cPT : Cod Thing := ⟨fun x => .ptr (thD x), fun x y h => thD_inj x y (D.ptr.inj h)⟩
/-! ### the closure -/
def same (x y : Thing) : Bool := decide (y.id = x.id)
noncomputable def sSame : Ev.Spec := specC (cCons cTh (cOne cPT)) (fun _ => True) fun x => [.bool (same x.2 x.1)]
theorem sSame_run (y x : Thing) : sSame.run [thD y, .ptr (thD x)] = some [.bool (same x y)] := specC_run (cCons cTh (cOne cPT)) _ _ (y, x) trivial
noncomputable def T1 : Table := tableOf [(91, en91)]
theorem T1_ok : TableOk Try.prog (([] : Specs).map (·.1)) T1 := (table_cons Try.func91 (by kernel_rfl) (by kernel_rfl) table_nil)
theorem eSame (y x : Thing) : evTop Try.prog [] T1 0 1 91 [thD y, .ptr (thD x)] = some [.bool (same x y)] := by
  obtain ⟨a, b, c, h1⟩ := thD_ex y
  obtain ⟨a', b', c', h2⟩ := thD_ex x
  rw [h1, h2]
  unfold evTop
  simp only [List.map]
  rw [evF_s (fn := Try.f91) (msk := en91.ms) (hT := by rfl) (hb := by rfl)]
  simp only [Try.f91, go_sem, Nat.reduceAdd, Nat.reduceSub, Nat.reduceMul, Nat.reduceEqDiff, Nat.reduceBEq, Nat.reduceLT, Nat.reduceLeDiff, Nat.reducePow, Int.reduceToNat, Int.reduceLT, Int.reduceLE, Int.reduceGT, Int.reduceGE, Int.reduceEq, Int.reduceNeg, Int.reduceAdd, Int.reduceSub, ↓reduceIte, reduceCtorEq, same]
theorem same_ok : SpecOk Try.prog 91 sSame := specC_ok mixed specs_nil T1_ok fun x _ => ⟨0, 1, eSame x.1 x.2⟩
/-! ### SkyFault -/
def okSky (s : Sky) : Prop := small s ∧ ∀ x ∈ s.stars, x.wave.length ≤ 1048576
noncomputable def sFault : Ev.Spec := specC (cOne cSky) okSky fun s => [.int .i64 (fault s)]
noncomputable def G : Specs := [(68, sThings), (91, sSame), (92, sStar), (93, sChk), (94, sHalf), (50, sIn)]
noncomputable def T : Table := tableOf [(41, en41), (90, en90), (129, en129)]
theorem G_ok : ∀ g s, Ev.look G g = some s → SpecOk Try.prog g s := specs_cons things_ok (specs_cons same_ok (specs_cons fault_ok (specs_cons chk_ok (specs_cons half_ok (specs_cons inside_ok specs_nil)))))
theorem T_ok : TableOk Try.prog (G.map (·.1)) T := (table_cons Try.func41 (by kernel_rfl) (by kernel_rfl) (table_cons Try.func90 (by kernel_rfl) (by kernel_rfl) (table_cons Try.func129 (by kernel_rfl) (by kernel_rfl) table_nil)))
def box (s : Sky) : Blk := ⟨1, 47, [.d s.D], true⟩
def p1 : V := .p (0, 1) 1 0 []
def hd (l : List Thing) (i : Nat) : List V := hd41_0 p1 (.d (.sl 114 (l.map thD))) (.d (.sl 114 (l.map thD))) (.d (.int .i64 l.length)) (.d (.int .i64 i))
def J (s : Sky) (l : List Thing) (x : Nat × Store) : Prop := x.1 ≤ l.length ∧ x.2 (0, 1) = box s ∧ faults [] (l.take x.1) = 0
def Q (s : Sky) (l : List Thing) (x : Nat × Store) (o : Out) : Prop := ∃ st', if faults [] l = 0 then o = some (.exit 0, hx41_0 p1, st') ∧ st' (0, 1) = box s else o = some (.ret, hr41 (.d (.int .i64 (faults [] l))), st')
theorem any_same (l : List Thing) (x : Thing) : l.any (same x) = decide (x.id ∈ l.map Thing.id) := by
  induction l with
  | nil => simp
  | cons y r ih =>
    simp only [List.any_cons, ih, same, List.map_cons, List.mem_cons]
    by_cases h : y.id = x.id
    · simp [h]
    · have h' : ¬ x.id = y.id := fun q => h q.symm
      simp [h, h']
theorem headF_1 {seen : List Int} {id rate : Int} (h : id < 1 ∨ id > 1073741824) : headF seen id rate = 4 := if_pos h
theorem headF_2 {seen : List Int} {id rate : Int} (h : ¬ (id < 1 ∨ id > 1073741824)) (h2 : id ∈ seen) : headF seen id rate = 7 := by unfold headF; rw [if_neg h, if_pos h2]
theorem headF_3 {seen : List Int} {id rate : Int} (h : ¬ (id < 1 ∨ id > 1073741824)) (h2 : ¬ id ∈ seen) (h3 : rate < 0 ∨ rate > 1048576) : headF seen id rate = 4 := by unfold headF; rw [if_neg h, if_neg h2, if_pos h3]
theorem headF_0 {seen : List Int} {id rate : Int} (h : ¬ (id < 1 ∨ id > 1073741824)) (h2 : ¬ id ∈ seen) (h3 : ¬ (rate < 0 ∨ rate > 1048576)) : headF seen id rate = 0 := by unfold headF; rw [if_neg h, if_neg h2, if_neg h3]
theorem one_h {seen : List Int} {x : Thing} {e : Int} (h : headF seen x.id x.rate = e) (he : ¬ e = 0) : one seen x = e := by unfold one; rw [if_neg (by rw [h]; exact he), h]
theorem one_o {seen : List Int} {x : Thing} (h : headF seen x.id x.rate = 0) : one seen x = own x := by unfold one; rw [if_pos h]
theorem loop (L : Nat) (s : Sky) (l : List Thing) (hl : l.length ≤ 40) (hL : 40 < L) (hw : ∀ x, .st x ∈ l → x.wave.length ≤ 1048576) :
    ∀ (m : Nat) (x : Nat × Store) (env : List V), J s l x → l.length - x.1 < m → mask (maskOf en41.ms 0) env = hd l x.1 →
      Q s l x (iter (evC Try.prog G (evF Try.prog G T L 2) L en41.ms 0 0 lb41_0) (maskOf en41.ms 0) m env x.2) := by
  refine iter_rel _ _ (J s l) (fun x => hd l x.1) (fun x => x.2) (Q s l) (fun x => l.length - x.1) ?_
  rintro ⟨i, st⟩ ⟨hi, q1, qf⟩ k hk
  simp only at hi q1 qf
  by_cases hin : i < l.length
  case neg =>
    obtain rfl : i = l.length := by omega
    have hlt : ¬ (l.length : Int) < l.length := by omega
    rw [List.take_length] at qf
    refine ⟨st, ?_⟩
    rw [if_pos qf]
    refine ⟨?_, q1⟩
    simp only [lb41_0, loopN, loops, hd, p1, hd41_0, hx41_0, Try.f41, go_sem, Nat.reduceAdd, Nat.reduceSub, Nat.reduceMul, Nat.reduceEqDiff, Nat.reduceBEq, Nat.reduceLT, Nat.reduceLeDiff, Nat.reducePow, Int.reduceToNat, Int.reduceLT, Int.reduceLE, Int.reduceGT, Int.reduceGE, Int.reduceEq, Int.reduceNeg, Int.reduceAdd, Int.reduceSub, ↓reduceIte, reduceCtorEq, hlt]
  have hlt : (i : Int) < l.length := by omega
  have hx : l[i]? = some l[i] := by simp [hin]
  have hmem : l[i] ∈ l := List.getElem_mem _
  have g0 : (0 : Int) ≤ (i : Int) := by omega
  have ht : ((i : Int)).toNat = i := by omega
  have hle : (i : Int) ≤ l.length := by omega
  have hle' : i ≤ l.length := by omega
  have hw1 : IntKind.i64.wrap ((i : Int) + 1) = ((i + 1 : Nat) : Int) := by rw [IntWalk.i64_in _ (by omega)]; rfl
  obtain ⟨ht0, ht1⟩ := faults_take hin qf
  have hseen := any_same (l.take i) l[i]
  have hcf : ∀ (lv ver : Nat) (st : Store), (st (0, 5)).ver = ver → (st (0, 5)).live = true → (st (0, 5)).vs = [.d (thD l[i])] →
      evF Try.prog G T L 2 90 [.d (.sl 114 ((l.map thD).take i)), .fn 91 [.p (0, 5) ver 0 []]] lv st = some (.d (.bool ((l.take i).any (same l[i]))), st) := fun lv ver st a1 a2 a3 => by
    rw [← List.map_take]
    exact cf thD G T rfl rfl sSame rfl rfl 0 lv (same l[i]) (thD l[i]) (0, 5) ver (l.take i) st (fun y _ => sSame_run y l[i]) (fun y => by obtain ⟨a, b, c, h⟩ := thD_ex y; rw [h]; simp only [go_sem, Nat.reduceAdd, Nat.reduceSub, Nat.reduceMul, Nat.reduceEqDiff, Nat.reduceBEq, Nat.reduceLT, Nat.reduceLeDiff, Nat.reducePow, Int.reduceToNat, Int.reduceLT, Int.reduceLE, Int.reduceGT, Int.reduceGE, Int.reduceEq, Int.reduceNeg, Int.reduceAdd, Int.reduceSub, ↓reduceIte, reduceCtorEq]) a1 a2 a3 (by rw [List.length_take]; omega) L (by rw [List.length_take]; omega)
  generalize hxi : l[i] = x at *
  have hret : ∀ e : Int, one ((l.take i).map Thing.id) x = e → ¬ e = 0 → ∀ st1, Q s l (i, st) (some (.ret, hr41 (.d (.int .i64 e)), st1)) := fun e h1 h2 st1 => by
    have h3 := ht1 (by rw [h1]; exact h2)
    rw [h1] at h3
    exact ⟨st1, by rw [if_neg (by rw [h3]; exact h2), h3]⟩
  have hgo : one ((l.take i).map Thing.id) x = 0 → ∀ st1 env, st1 (0, 1) = box s → mask (maskOf en41.ms 0) env = hd l (i + 1) → Q s l (i, st) (k env st1) := fun h1 st1 env h2 h3 =>
    (hk (i + 1, st1) env ⟨by simp only; omega, h2, ht0 h1⟩ (by simp only; omega) h3 : Q s l (i + 1, st1) _)
  obtain ⟨a, b, c, hth⟩ := thD_ex x
  have hcg := hcf
  simp only [hth, G] at hcg
  have hseen' := hseen
  by_cases c1 : x.id < 1
  · have hq := hret 4 (one_h (headF_1 (.inl c1)) (by decide)) (by decide)
    simp only [lb41_0, loopN, loops, hd, p1, hd41_0, Try.f41, G, go_sem, Nat.reduceAdd, Nat.reduceSub, Nat.reduceMul, Nat.reduceEqDiff, Nat.reduceBEq, Nat.reduceLT, Nat.reduceLeDiff, Nat.reducePow, Int.reduceToNat, Int.reduceLT, Int.reduceLE, Int.reduceGT, Int.reduceGE, Int.reduceEq, Int.reduceNeg, Int.reduceAdd, Int.reduceSub, ↓reduceIte, reduceCtorEq, hlt, hx, hxi, hth, g0, ht, c1]
    exact hq _
  by_cases c2 : x.id > 1073741824
  · have hq := hret 4 (one_h (headF_1 (.inr c2)) (by decide)) (by decide)
    simp only [lb41_0, loopN, loops, hd, p1, hd41_0, Try.f41, G, go_sem, Nat.reduceAdd, Nat.reduceSub, Nat.reduceMul, Nat.reduceEqDiff, Nat.reduceBEq, Nat.reduceLT, Nat.reduceLeDiff, Nat.reducePow, Int.reduceToNat, Int.reduceLT, Int.reduceLE, Int.reduceGT, Int.reduceGE, Int.reduceEq, Int.reduceNeg, Int.reduceAdd, Int.reduceSub, ↓reduceIte, reduceCtorEq, hlt, hx, hxi, hth, g0, ht, c1, c2]
    exact hq _
  by_cases c3 : x.id ∈ (l.take i).map Thing.id
  · have hq := hret 7 (one_h (headF_2 (by omega) c3) (by decide)) (by decide)
    rw [decide_eq_true c3] at hseen
    simp only [lb41_0, loopN, loops, hd, p1, hd41_0, Try.f41, G, go_sem, Nat.reduceAdd, Nat.reduceSub, Nat.reduceMul, Nat.reduceEqDiff, Nat.reduceBEq, Nat.reduceLT, Nat.reduceLeDiff, Nat.reducePow, Int.reduceToNat, Int.reduceLT, Int.reduceLE, Int.reduceGT, Int.reduceGE, Int.reduceEq, Int.reduceNeg, Int.reduceAdd, Int.reduceSub, ↓reduceIte, reduceCtorEq, hlt, hx, hxi, hth, g0, ht, hle, hle', c1, c2, hcg, hseen]
    exact hq _
  rw [decide_eq_false c3] at hseen
  by_cases c4 : x.rate < 0
  · have hq := hret 4 (one_h (headF_3 (by omega) c3 (.inl c4)) (by decide)) (by decide)
    simp only [lb41_0, loopN, loops, hd, p1, hd41_0, Try.f41, G, go_sem, Nat.reduceAdd, Nat.reduceSub, Nat.reduceMul, Nat.reduceEqDiff, Nat.reduceBEq, Nat.reduceLT, Nat.reduceLeDiff, Nat.reducePow, Int.reduceToNat, Int.reduceLT, Int.reduceLE, Int.reduceGT, Int.reduceGE, Int.reduceEq, Int.reduceNeg, Int.reduceAdd, Int.reduceSub, ↓reduceIte, reduceCtorEq, hlt, hx, hxi, hth, g0, ht, hle, hle', c1, c2, hcg, hseen, c4]
    exact hq _
  by_cases c5 : x.rate > 1048576
  · have hq := hret 4 (one_h (headF_3 (by omega) c3 (.inr c5)) (by decide)) (by decide)
    simp only [lb41_0, loopN, loops, hd, p1, hd41_0, Try.f41, G, go_sem, Nat.reduceAdd, Nat.reduceSub, Nat.reduceMul, Nat.reduceEqDiff, Nat.reduceBEq, Nat.reduceLT, Nat.reduceLeDiff, Nat.reducePow, Int.reduceToNat, Int.reduceLT, Int.reduceLE, Int.reduceGT, Int.reduceGE, Int.reduceEq, Int.reduceNeg, Int.reduceAdd, Int.reduceSub, ↓reduceIte, reduceCtorEq, hlt, hx, hxi, hth, g0, ht, hle, hle', c1, c2, hcg, hseen, c4, c5]
    exact hq _
  have ho : one ((l.take i).map Thing.id) x = own x := one_o (headF_0 (by omega) c3 (by omega))
  rw [ho] at hgo hret
  clear ht0 ht1 hth hcg
  cases x with
  | st y =>
    obtain ⟨id, ⟨u, v, w⟩, r, wv, p, f, t⟩ := y
    simp only [Thing.id, Thing.rate] at c1 c2 c4 c5
    have rs := sStar_run ⟨id, (u, v, w), r, wv, p, f, t⟩ ⟨⟨by simp only; omega, by simp only; omega⟩, by have := hw _ hmem; simp only at this ⊢; omega⟩
    simp only [own] at hgo hret
    generalize starF ⟨id, (u, v, w), r, wv, p, f, t⟩ = F at *
    simp only [Star.D, vD] at rs
    simp only [thD, Star.D, vD, G] at hcf
    by_cases c6 : F = 0
    · have hq := hgo c6
      simp only [lb41_0, loopN, loops, hd, p1, hd41_0, Try.f41, G, go_sem, Nat.reduceAdd, Nat.reduceSub, Nat.reduceMul, Nat.reduceEqDiff, Nat.reduceBEq, Nat.reduceLT, Nat.reduceLeDiff, Nat.reducePow, Int.reduceToNat, Int.reduceLT, Int.reduceLE, Int.reduceGT, Int.reduceGE, Int.reduceEq, Int.reduceNeg, Int.reduceAdd, Int.reduceSub, ↓reduceIte, reduceCtorEq, hlt, hx, hxi, thD, Star.D, vD, g0, ht, hle, hle', c1, c2, hcf, hseen, c4, c5, rs, c6, hw1]
      exact hq _ _ (by simp only [go_sem, Nat.reduceAdd, Nat.reduceSub, Nat.reduceMul, Nat.reduceEqDiff, Nat.reduceBEq, Nat.reduceLT, Nat.reduceLeDiff, Nat.reducePow, Int.reduceToNat, Int.reduceLT, Int.reduceLE, Int.reduceGT, Int.reduceGE, Int.reduceEq, Int.reduceNeg, Int.reduceAdd, Int.reduceSub, ↓reduceIte, reduceCtorEq, q1]) (by simp only [hd, p1, hd41_0, go_sem, Nat.reduceAdd, Nat.reduceSub, Nat.reduceMul, Nat.reduceEqDiff, Nat.reduceBEq, Nat.reduceLT, Nat.reduceLeDiff, Nat.reducePow, Int.reduceToNat, Int.reduceLT, Int.reduceLE, Int.reduceGT, Int.reduceGE, Int.reduceEq, Int.reduceNeg, Int.reduceAdd, Int.reduceSub, ↓reduceIte, reduceCtorEq, hw1])
    · have hq := hret F rfl c6
      simp only [lb41_0, loopN, loops, hd, p1, hd41_0, Try.f41, G, go_sem, Nat.reduceAdd, Nat.reduceSub, Nat.reduceMul, Nat.reduceEqDiff, Nat.reduceBEq, Nat.reduceLT, Nat.reduceLeDiff, Nat.reducePow, Int.reduceToNat, Int.reduceLT, Int.reduceLE, Int.reduceGT, Int.reduceGE, Int.reduceEq, Int.reduceNeg, Int.reduceAdd, Int.reduceSub, ↓reduceIte, reduceCtorEq, hlt, hx, hxi, thD, Star.D, vD, g0, ht, hle, hle', c1, c2, hcf, hseen, c4, c5, rs, c6, hw1]
      exact hq _
  | ga y =>
    obtain ⟨id, ⟨u, v, w⟩, r, wide, high⟩ := y
    simp only [Thing.id, Thing.rate] at c1 c2 c4 c5
    have rc := sChk_run u v w
    have r1 := sHalf_run wide
    have r2 := sHalf_run high
    simp only [own, galF] at hgo hret
    simp only [thD, Gal.D, vD, G] at hcf
    by_cases c6 : chkV (u, v, w) = 0
    case neg =>
      rw [if_neg c6] at hret
      have hq := hret _ rfl c6
      simp only [lb41_0, loopN, loops, hd, p1, hd41_0, Try.f41, G, go_sem, Nat.reduceAdd, Nat.reduceSub, Nat.reduceMul, Nat.reduceEqDiff, Nat.reduceBEq, Nat.reduceLT, Nat.reduceLeDiff, Nat.reducePow, Int.reduceToNat, Int.reduceLT, Int.reduceLE, Int.reduceGT, Int.reduceGE, Int.reduceEq, Int.reduceNeg, Int.reduceAdd, Int.reduceSub, ↓reduceIte, reduceCtorEq, hlt, hx, hxi, thD, Gal.D, vD, g0, ht, hle, hle', c1, c2, hcf, hseen, c4, c5, rc, c6, hw1]
      exact hq _
    rw [if_pos c6] at hgo hret
    by_cases c7 : sizeOk wide = true
    case neg =>
      rw [if_neg (by simp [c7])] at hret
      have hq := hret _ rfl (by decide)
      have c7' : sizeOk wide = false := by simpa using c7
      simp only [lb41_0, loopN, loops, hd, p1, hd41_0, Try.f41, G, go_sem, Nat.reduceAdd, Nat.reduceSub, Nat.reduceMul, Nat.reduceEqDiff, Nat.reduceBEq, Nat.reduceLT, Nat.reduceLeDiff, Nat.reducePow, Int.reduceToNat, Int.reduceLT, Int.reduceLE, Int.reduceGT, Int.reduceGE, Int.reduceEq, Int.reduceNeg, Int.reduceAdd, Int.reduceSub, ↓reduceIte, reduceCtorEq, hlt, hx, hxi, thD, Gal.D, vD, g0, ht, hle, hle', c1, c2, hcf, hseen, c4, c5, rc, c6, r1, c7', hw1]
      exact hq _
    by_cases c8 : sizeOk high = true
    case neg =>
      rw [if_neg (by simp [c8])] at hret
      have hq := hret _ rfl (by decide)
      have c8' : sizeOk high = false := by simpa using c8
      simp only [lb41_0, loopN, loops, hd, p1, hd41_0, Try.f41, G, go_sem, Nat.reduceAdd, Nat.reduceSub, Nat.reduceMul, Nat.reduceEqDiff, Nat.reduceBEq, Nat.reduceLT, Nat.reduceLeDiff, Nat.reducePow, Int.reduceToNat, Int.reduceLT, Int.reduceLE, Int.reduceGT, Int.reduceGE, Int.reduceEq, Int.reduceNeg, Int.reduceAdd, Int.reduceSub, ↓reduceIte, reduceCtorEq, hlt, hx, hxi, thD, Gal.D, vD, g0, ht, hle, hle', c1, c2, hcf, hseen, c4, c5, rc, c6, r1, c7, r2, c8', hw1]
      exact hq _
    rw [if_pos ⟨c7, c8⟩] at hgo
    have hq := hgo rfl
    simp only [lb41_0, loopN, loops, hd, p1, hd41_0, Try.f41, G, go_sem, Nat.reduceAdd, Nat.reduceSub, Nat.reduceMul, Nat.reduceEqDiff, Nat.reduceBEq, Nat.reduceLT, Nat.reduceLeDiff, Nat.reducePow, Int.reduceToNat, Int.reduceLT, Int.reduceLE, Int.reduceGT, Int.reduceGE, Int.reduceEq, Int.reduceNeg, Int.reduceAdd, Int.reduceSub, ↓reduceIte, reduceCtorEq, hlt, hx, hxi, thD, Gal.D, vD, g0, ht, hle, hle', c1, c2, hcf, hseen, c4, c5, rc, c6, r1, c7, r2, c8, hw1]
    exact hq _ _ (by simp only [go_sem, Nat.reduceAdd, Nat.reduceSub, Nat.reduceMul, Nat.reduceEqDiff, Nat.reduceBEq, Nat.reduceLT, Nat.reduceLeDiff, Nat.reducePow, Int.reduceToNat, Int.reduceLT, Int.reduceLE, Int.reduceGT, Int.reduceGE, Int.reduceEq, Int.reduceNeg, Int.reduceAdd, Int.reduceSub, ↓reduceIte, reduceCtorEq, q1]) (by simp only [hd, p1, hd41_0, go_sem, Nat.reduceAdd, Nat.reduceSub, Nat.reduceMul, Nat.reduceEqDiff, Nat.reduceBEq, Nat.reduceLT, Nat.reduceLeDiff, Nat.reducePow, Int.reduceToNat, Int.reduceLT, Int.reduceLE, Int.reduceGT, Int.reduceGE, Int.reduceEq, Int.reduceNeg, Int.reduceAdd, Int.reduceSub, ↓reduceIte, reduceCtorEq, hw1])
  | bo y =>
    obtain ⟨id, ⟨u, v, w⟩, ⟨u', v', w'⟩, r⟩ := y
    simp only [Thing.id, Thing.rate] at c1 c2 c4 c5
    have r1 := sIn_run u v w 4194304 (by decide) (by decide)
    have r2 := sIn_run u' v' w' 4194304 (by decide) (by decide)
    simp only [own, bodF] at hgo hret
    simp only [thD, bD, vD, G] at hcf
    by_cases c6 : okV 4194304 (u, v, w) = true
    case neg =>
      rw [if_neg (by simp [c6])] at hret
      have hq := hret _ rfl (by decide)
      have c6' : okV 4194304 (u, v, w) = false := by simpa using c6
      simp only [lb41_0, loopN, loops, hd, p1, hd41_0, Try.f41, G, go_sem, Nat.reduceAdd, Nat.reduceSub, Nat.reduceMul, Nat.reduceEqDiff, Nat.reduceBEq, Nat.reduceLT, Nat.reduceLeDiff, Nat.reducePow, Int.reduceToNat, Int.reduceLT, Int.reduceLE, Int.reduceGT, Int.reduceGE, Int.reduceEq, Int.reduceNeg, Int.reduceAdd, Int.reduceSub, ↓reduceIte, reduceCtorEq, hlt, hx, hxi, thD, bD, vD, g0, ht, hle, hle', c1, c2, hcf, hseen, c4, c5, r1, c6', hw1]
      exact hq _
    by_cases c7 : okV 4194304 (u', v', w') = true
    case neg =>
      rw [if_neg (by simp [c7])] at hret
      have hq := hret _ rfl (by decide)
      have c7' : okV 4194304 (u', v', w') = false := by simpa using c7
      simp only [lb41_0, loopN, loops, hd, p1, hd41_0, Try.f41, G, go_sem, Nat.reduceAdd, Nat.reduceSub, Nat.reduceMul, Nat.reduceEqDiff, Nat.reduceBEq, Nat.reduceLT, Nat.reduceLeDiff, Nat.reducePow, Int.reduceToNat, Int.reduceLT, Int.reduceLE, Int.reduceGT, Int.reduceGE, Int.reduceEq, Int.reduceNeg, Int.reduceAdd, Int.reduceSub, ↓reduceIte, reduceCtorEq, hlt, hx, hxi, thD, bD, vD, g0, ht, hle, hle', c1, c2, hcf, hseen, c4, c5, r1, c6, r2, c7', hw1]
      exact hq _
    rw [if_pos ⟨c6, c7⟩] at hgo
    have hq := hgo rfl
    simp only [lb41_0, loopN, loops, hd, p1, hd41_0, Try.f41, G, go_sem, Nat.reduceAdd, Nat.reduceSub, Nat.reduceMul, Nat.reduceEqDiff, Nat.reduceBEq, Nat.reduceLT, Nat.reduceLeDiff, Nat.reducePow, Int.reduceToNat, Int.reduceLT, Int.reduceLE, Int.reduceGT, Int.reduceGE, Int.reduceEq, Int.reduceNeg, Int.reduceAdd, Int.reduceSub, ↓reduceIte, reduceCtorEq, hlt, hx, hxi, thD, bD, vD, g0, ht, hle, hle', c1, c2, hcf, hseen, c4, c5, r1, c6, r2, c7, hw1]
    exact hq _ _ (by simp only [go_sem, Nat.reduceAdd, Nat.reduceSub, Nat.reduceMul, Nat.reduceEqDiff, Nat.reduceBEq, Nat.reduceLT, Nat.reduceLeDiff, Nat.reducePow, Int.reduceToNat, Int.reduceLT, Int.reduceLE, Int.reduceGT, Int.reduceGE, Int.reduceEq, Int.reduceNeg, Int.reduceAdd, Int.reduceSub, ↓reduceIte, reduceCtorEq, q1]) (by simp only [hd, p1, hd41_0, go_sem, Nat.reduceAdd, Nat.reduceSub, Nat.reduceMul, Nat.reduceEqDiff, Nat.reduceBEq, Nat.reduceLT, Nat.reduceLeDiff, Nat.reducePow, Int.reduceToNat, Int.reduceLT, Int.reduceLE, Int.reduceGT, Int.reduceGE, Int.reduceEq, Int.reduceNeg, Int.reduceAdd, Int.reduceSub, ↓reduceIte, reduceCtorEq, hw1])
/-! ### as a whole -/
theorem th_mem {s : Sky} {x : Star} (h : Thing.st x ∈ things s) : x ∈ s.stars := by
  simp only [things, List.mem_append, List.mem_map, Thing.st.injEq, exists_eq_right, reduceCtorEq, and_false, exists_false, or_false] at h
  exact h
theorem sThings_run (s : Sky) (h : small s) : sThings.run [s.D] = some [.sl 114 ((things s).map thD)] := specC_run (cOne cSky) _ _ s h
theorem eFault (s : Sky) (hs : okSky s) : evTop Try.prog G T 41 3 41 [s.D] = some [.int .i64 (fault s)] := by
  have hlen := things_len s
  have hw : ∀ x, .st x ∈ things s → x.wave.length ≤ 1048576 := fun x hx => hs.2 x (th_mem hx)
  have hth := sThings_run s hs.1
  have hloop := fun h => loop 41 s (things s) h (by omega) hw
  unfold fault
  rw [← hlen]
  generalize things s = l at *
  obtain ⟨bk, stars, gals, bods, ⟨hid, ⟨a, b, c⟩, ⟨u, v, w⟩, hr⟩⟩ := s
  have hS : Sky.D ⟨bk, stars, gals, bods, ⟨hid, ⟨a, b, c⟩, ⟨u, v, w⟩, hr⟩⟩ = .agg 47 [.int .i64 bk, .sl 79 (stars.map Star.D), .sl 76 (gals.map Gal.D), .sl 39 (bods.map bD), .agg 39 [.int .i64 hid, .agg 23 [.int .i64 a, .int .i64 b, .int .i64 c], .agg 23 [.int .i64 u, .int .i64 v, .int .i64 w], .int .i64 hr]] := rfl
  have hB : box ⟨bk, stars, gals, bods, ⟨hid, ⟨a, b, c⟩, ⟨u, v, w⟩, hr⟩⟩ = ⟨1, 47, [.d (Sky.D ⟨bk, stars, gals, bods, ⟨hid, ⟨a, b, c⟩, ⟨u, v, w⟩, hr⟩⟩)], true⟩ := rfl
  rw [hS] at hth hB ⊢
  have r1 := sIn_run a b c 4194304 (by decide) (by decide)
  have r2 := sIn_run u v w 4194304 (by decide) (by decide)
  unfold evTop
  simp only [List.map]
  rw [evF_s (fn := Try.f41) (msk := en41.ms) (hT := by rfl) (hb := by rfl)]
  by_cases c1 : l.length > 40
  · have c1' : (l.length : Int) > 40 := by omega
    rw [if_pos c1]
    simp only [Try.f41, G, go_sem, Nat.reduceAdd, Nat.reduceSub, Nat.reduceMul, Nat.reduceEqDiff, Nat.reduceBEq, Nat.reduceLT, Nat.reduceLeDiff, Nat.reducePow, Int.reduceToNat, Int.reduceLT, Int.reduceLE, Int.reduceGT, Int.reduceGE, Int.reduceEq, Int.reduceNeg, Int.reduceAdd, Int.reduceSub, ↓reduceIte, reduceCtorEq, hth, c1']
  have c1' : ¬ (l.length : Int) > 40 := by omega
  rw [if_neg c1]
  by_cases c2 : bk < 0
  · rw [if_pos (.inl c2)]
    simp only [Try.f41, G, go_sem, Nat.reduceAdd, Nat.reduceSub, Nat.reduceMul, Nat.reduceEqDiff, Nat.reduceBEq, Nat.reduceLT, Nat.reduceLeDiff, Nat.reducePow, Int.reduceToNat, Int.reduceLT, Int.reduceLE, Int.reduceGT, Int.reduceGE, Int.reduceEq, Int.reduceNeg, Int.reduceAdd, Int.reduceSub, ↓reduceIte, reduceCtorEq, hth, c1', c2]
  by_cases c3 : bk > 1048576
  · rw [if_pos (.inr c3)]
    simp only [Try.f41, G, go_sem, Nat.reduceAdd, Nat.reduceSub, Nat.reduceMul, Nat.reduceEqDiff, Nat.reduceBEq, Nat.reduceLT, Nat.reduceLeDiff, Nat.reducePow, Int.reduceToNat, Int.reduceLT, Int.reduceLE, Int.reduceGT, Int.reduceGE, Int.reduceEq, Int.reduceNeg, Int.reduceAdd, Int.reduceSub, ↓reduceIte, reduceCtorEq, hth, c1', c2, c3]
  rw [if_neg (by omega)]
  simp only [Try.f41, G, go_sem, Nat.reduceAdd, Nat.reduceSub, Nat.reduceMul, Nat.reduceEqDiff, Nat.reduceBEq, Nat.reduceLT, Nat.reduceLeDiff, Nat.reducePow, Int.reduceToNat, Int.reduceLT, Int.reduceLE, Int.reduceGT, Int.reduceGE, Int.reduceEq, Int.reduceNeg, Int.reduceAdd, Int.reduceSub, ↓reduceIte, reduceCtorEq, hth, c1', c2, c3]
  refine loop_then (R := Q ⟨bk, stars, gals, bods, ⟨hid, ⟨a, b, c⟩, ⟨u, v, w⟩, hr⟩⟩ l (0, _)) (hloop (by omega) _ (0, _) _ ⟨by simp only; omega, by simp only [go_sem, Nat.reduceAdd, Nat.reduceSub, Nat.reduceMul, Nat.reduceEqDiff, Nat.reduceBEq, Nat.reduceLT, Nat.reduceLeDiff, Nat.reducePow, Int.reduceToNat, Int.reduceLT, Int.reduceLE, Int.reduceGT, Int.reduceGE, Int.reduceEq, Int.reduceNeg, Int.reduceAdd, Int.reduceSub, ↓reduceIte, reduceCtorEq, hB], rfl⟩ (by simp only; omega) (by simp only [hd, p1, hd41_0, go_sem, Nat.reduceAdd, Nat.reduceSub, Nat.reduceMul, Nat.reduceEqDiff, Nat.reduceBEq, Nat.reduceLT, Nat.reduceLeDiff, Nat.reducePow, Int.reduceToNat, Int.reduceLT, Int.reduceLE, Int.reduceGT, Int.reduceGE, Int.reduceEq, Int.reduceNeg, Int.reduceAdd, Int.reduceSub, ↓reduceIte, reduceCtorEq])) ?_
  rintro o ⟨st', ho⟩
  by_cases c4 : faults [] l = 0
  case neg =>
    rw [if_neg c4] at ho
    rw [ho, if_neg c4]
    simp only [hr41, go_sem, Nat.reduceAdd, Nat.reduceSub, Nat.reduceMul, Nat.reduceEqDiff, Nat.reduceBEq, Nat.reduceLT, Nat.reduceLeDiff, Nat.reducePow, Int.reduceToNat, Int.reduceLT, Int.reduceLE, Int.reduceGT, Int.reduceGE, Int.reduceEq, Int.reduceNeg, Int.reduceAdd, Int.reduceSub, ↓reduceIte, reduceCtorEq]
  rw [if_pos c4] at ho
  obtain ⟨ho, q1⟩ := ho
  rw [ho, if_pos c4]
  rw [hB] at q1
  unfold bodF
  simp only
  by_cases c5 : hid = 0
  case neg =>
    rw [if_pos (.inl c5)]
    simp only [hx41_0, p1, Try.f41, G, go_sem, Nat.reduceAdd, Nat.reduceSub, Nat.reduceMul, Nat.reduceEqDiff, Nat.reduceBEq, Nat.reduceLT, Nat.reduceLeDiff, Nat.reducePow, Int.reduceToNat, Int.reduceLT, Int.reduceLE, Int.reduceGT, Int.reduceGE, Int.reduceEq, Int.reduceNeg, Int.reduceAdd, Int.reduceSub, ↓reduceIte, reduceCtorEq, q1, decide_eq_false c5]
  by_cases c6 : hr = 0
  case neg =>
    rw [if_pos (.inr c6)]
    simp only [hx41_0, p1, Try.f41, G, go_sem, Nat.reduceAdd, Nat.reduceSub, Nat.reduceMul, Nat.reduceEqDiff, Nat.reduceBEq, Nat.reduceLT, Nat.reduceLeDiff, Nat.reducePow, Int.reduceToNat, Int.reduceLT, Int.reduceLE, Int.reduceGT, Int.reduceGE, Int.reduceEq, Int.reduceNeg, Int.reduceAdd, Int.reduceSub, ↓reduceIte, reduceCtorEq, q1, decide_eq_true c5, decide_eq_false c6]
  rw [if_neg (by simp [c5, c6])]
  by_cases c7 : okV 4194304 (a, b, c) = true
  case neg =>
    rw [if_neg (by simp [c7])]
    have c7' : okV 4194304 (a, b, c) = false := by simpa using c7
    simp only [hx41_0, p1, Try.f41, G, go_sem, Nat.reduceAdd, Nat.reduceSub, Nat.reduceMul, Nat.reduceEqDiff, Nat.reduceBEq, Nat.reduceLT, Nat.reduceLeDiff, Nat.reducePow, Int.reduceToNat, Int.reduceLT, Int.reduceLE, Int.reduceGT, Int.reduceGE, Int.reduceEq, Int.reduceNeg, Int.reduceAdd, Int.reduceSub, ↓reduceIte, reduceCtorEq, q1, decide_eq_true c5, decide_eq_true c6, r1, c7']
  by_cases c8 : okV 4194304 (u, v, w) = true
  case neg =>
    rw [if_neg (by simp [c8])]
    have c8' : okV 4194304 (u, v, w) = false := by simpa using c8
    simp only [hx41_0, p1, Try.f41, G, go_sem, Nat.reduceAdd, Nat.reduceSub, Nat.reduceMul, Nat.reduceEqDiff, Nat.reduceBEq, Nat.reduceLT, Nat.reduceLeDiff, Nat.reducePow, Int.reduceToNat, Int.reduceLT, Int.reduceLE, Int.reduceGT, Int.reduceGE, Int.reduceEq, Int.reduceNeg, Int.reduceAdd, Int.reduceSub, ↓reduceIte, reduceCtorEq, q1, decide_eq_true c5, decide_eq_true c6, r1, c7, r2, c8']
  rw [if_pos ⟨c7, c8⟩]
  simp only [hx41_0, p1, Try.f41, G, go_sem, Nat.reduceAdd, Nat.reduceSub, Nat.reduceMul, Nat.reduceEqDiff, Nat.reduceBEq, Nat.reduceLT, Nat.reduceLeDiff, Nat.reducePow, Int.reduceToNat, Int.reduceLT, Int.reduceLE, Int.reduceGT, Int.reduceGE, Int.reduceEq, Int.reduceNeg, Int.reduceAdd, Int.reduceSub, ↓reduceIte, reduceCtorEq, q1, decide_eq_true c5, decide_eq_true c6, r1, c7, r2, c8]
theorem skyFault_ok : SpecOk Try.prog 41 sFault := specC_ok mixed G_ok T_ok fun s h => ⟨_, 3, eFault s h⟩
#print axioms skyFault_ok
end Go.Proofs.YtmhjmjodchbhlaaR.SkyFRate
end
section
set_option linter.unusedVariables false
set_option linter.unusedSimpArgs false
namespace Go.Ev
open Go.RowKit
section
variable {P : Program} {Γ : Specs} {L : Nat}
/-- A function of the table, whose calls go to the caller given. -/
def evB (P : Program) (Γ : Specs) (T : Table) (L : Nat) (base : Caller) : Caller := fun f xs lv st => match T f with
  | some en => match en.fn.body with
    | some code => outR P en.fn.results.toList (evC P Γ base L en.ms lv 0 code (pad xs en.fn.ntmps) st)
    | none => none
  | none => none
theorem evB_s {T : Table} {base : Caller} (f : FuncId) (xs : List V) (lv : Nat) (st : Store) (fn : Func) (msk : Masks) (code : Code) (hT : T f = some ⟨fn, msk⟩) (hb : fn.body = some code) :
    evB P Γ T L base f xs lv st = outR P fn.results.toList (evC P Γ base L msk lv 0 code (pad xs fn.ntmps) st) := by simp [evB, hT, hb]
theorem evB_sound {T : Table} {base : Caller} (hm : P.follows .mixedOrders = true) (hΓ : ∀ g s, look Γ g = some s → SpecOk P g s) (hT : TableOk P (Γ.map (·.1)) T) (hbase : CallerOk P base) : CallerOk P (evB P Γ T L base) := by
  intro f xs lv st v st' h B0 S σ w vals hI hx
  simp only [evB] at h
  split at h
  · rename_i en hen
    split at h
    · rename_i code hcode
      obtain ⟨t1, t2, t3⟩ := hT f en hen
      refine .inl ⟨en.fn, t1, t2, by rw [hcode]; rfl, ?_⟩
      refine calls_of_wp t1 hcode ?_
      cases hr : evC P Γ base L en.ms lv 0 code (pad xs en.fn.ntmps) st with
      | none => rw [hr] at h; cases h
      | some q =>
        obtain ⟨x, env', s⟩ := q
        rw [hr] at h
        have hout : x ≠ .normal → x = .ret ∨ ∃ i, x = .exit i := by cases x <;> simp
        have hres : (x = .ret ∨ x = .normal) ∧ ∃ vs, resV P s env' en.fn.results.toList = some vs ∧ v = retV vs ∧ st' = s := by
          cases x with
          | exit i => cases h
          | normal =>
            simp only [outR] at h
            cases hq : resV P s env' en.fn.results.toList with
            | none => rw [hq] at h; cases h
            | some vs => rw [hq] at h; cases h; exact ⟨.inr rfl, vs, rfl, rfl, rfl⟩
          | ret =>
            simp only [outR] at h
            cases hq : resV P s env' en.fn.results.toList with
            | none => rw [hq] at h; cases h
            | some vs => rw [hq] at h; cases h; exact ⟨.inl rfl, vs, rfl, rfl, rfl⟩
        obtain ⟨hx', vs, hvs, rfl, rfl⟩ := hres
        refine code_sound hm hΓ hbase code 0 (t3 code hcode) _ st x env' st' hr S σ w _ _ hI ?_ rfl ?_
        · have hlen := relNs_length hx
          refine ⟨by rw [pad_length]; simp [hlen] <;> omega, fun i => ?_⟩
          rw [pad_get]
          have := relNs_get i hx
          by_cases hi : i < vals.length
          · have e : (vals.toArray ++ Array.replicate (en.fn.ntmps - vals.toArray.size) undef).getD i undef = (vals[i]?).getD undef := by
              simp [Array.getD_eq_getD_getElem?, Array.getElem?_append, hi]
            rw [e]; exact this
          · have : V.get xs i = .und := by rw [get_eq]; simp [List.getD, List.getElem?_eq_none (show xs.length ≤ i by omega)]
            rw [this]; exact und_rel _
        · intro S' σ' w' a' q1 q2 q3 q4 q5
          obtain ⟨val, r1, r2⟩ := results_sound q1 q4 hvs
          rcases hx' with rfl | rfl <;> exact ⟨q5, val, r1, val, rfl, S', σ', q1, q2, q3, r2⟩
    · cases h
  · cases h
/-- The contract of a function, off any caller that keeps what it says. -/
theorem call_of_caller {call : Caller} {f : FuncId} (hc : CallerOk P call) {xs rs : List D} (htop : topR (call f (xs.map V.d) 0 empty) = some rs)
    {S : Nat → Prop} {w : World} {vals : List Value} (hS : ∀ b, S b → b < w.heap.size) (hargs : ArgsOk P S w xs vals) : CallIn P f vals.toArray w fun val w' => Below w.heap.size w w' ∧ ResOk P (Plus S w w') w' rs val := by
  cases hq : call f (xs.map V.d) 0 empty with
  | none => rw [hq] at htop; cases htop
  | some q =>
    obtain ⟨v, st'⟩ := q
    rw [hq] at htop
    refine (hc f (xs.map V.d) 0 empty v st' hq w.heap.size S (fun _ => none) w vals (inv_empty hS) (hargs _ _)).mono ?_
    rintro val w' ⟨S', σ', h1, h2, h3, h4⟩
    refine ⟨h3, fun σ0 st0 => ?_⟩
    have hS1 : ∀ b, S' b → Plus S w w' b := fun b hb => (h2.less b hb).imp id (fun q => ⟨q, h1.safe b hb⟩)
    have hN1 : ∀ b, w.heap.size ≤ b → b < w'.heap.size → Plus S w w' b := fun b q1 q2 => .inr ⟨q1, q2⟩
    by_cases hv : ∃ vs, v = .tup vs
    · obtain ⟨vs, rfl⟩ := hv
      obtain ⟨vals', g1, g2⟩ := h4
      have hm1 : mapO (V.fin st' 9) vs = some rs ∧ vs.length ≠ 1 := by
        cases vs with
        | nil => exact ⟨htop, by simp⟩
        | cons x r => cases r with
          | nil => cases htop
          | cons y r => exact ⟨htop, by simp⟩
      have g3 := fin_relNs (σ' := σ0) (st' := st0) h1 hS1 hN1 hm1.1 g2
      have hl1 := relNs_length g3
      have hl2 := relNs_length g2
      have hr : retV (rs.map V.d) = .tup (rs.map V.d) := by
        cases hq : rs.map V.d with
        | nil => rfl
        | cons x r => cases r with
          | nil => rw [hq] at hl1; simp at hl1; omega
          | cons y r => rfl
      rw [hr]
      exact ⟨vals', g1, g3⟩
    · have hn : ∀ vs, v ≠ .tup vs := fun vs e => hv ⟨vs, e⟩
      have htop' : oneL (V.fin st' 9 v) = some rs := by
        cases v <;> first | exact htop | exact absurd rfl (hn _)
      cases hq2 : V.fin st' 9 v with
      | none => rw [hq2] at htop'; cases htop'
      | some x =>
        rw [hq2] at htop'
        cases htop'
        exact RelN.to_v (fin_relN h1 hS1 hN1 hq2 (h4.n hn))
theorem spec_of_caller {f : FuncId} {α : Type} {c : CodL α} {pre : α → Prop} {out : α → List D} (h : ∀ x, pre x → ∃ call : Caller, CallerOk P call ∧ topR (call f ((c.e x).map V.d) 0 empty) = some (out x)) : SpecOk P f (specC c pre out) := by
  intro xs rs S w vals hrun hS hargs
  obtain ⟨x, rfl, hp, rfl⟩ := mkSpec_inv hrun
  obtain ⟨call, hc, ht⟩ := h x hp
  exact call_of_caller hc ht hS hargs
/-! ### a row sorted in place -/
def ints : List V → Option (List Int)
  | [] => some []
  | .d (.int .i64 n) :: r => match ints r with
    | some ns => some (n :: ns)
    | none => none
  | _ :: _ => none
def sortI (ns : List Int) : List Int := ns.mergeSort fun x y => decide (x ≤ y)
def iV (ns : List Int) : List V := ns.map fun n => .d (.int .i64 n)
theorem ints_iV : ∀ ns : List Int, ints (iV ns) = some ns
  | [] => rfl
  | n :: ns => by
    have := ints_iV ns
    simp only [iV, List.map_cons, ints] at this ⊢
    rw [this]
theorem ints_inv : ∀ {vs : List V} {ns : List Int}, ints vs = some ns → vs = iV ns
  | [], ns, h => by cases h; rfl
  | v :: r, ns, h => by
    unfold ints at h
    split at h
    · rename_i h1; cases h1
    · rename_i n r' h1
      cases h1
      split at h
      · rename_i ns' h2
        cases h
        rw [ints_inv h2]; rfl
      · cases h
    · cases h
theorem rels_iV {S : Nat → Prop} {σ : Sig} {st : Store} {w : World} : ∀ (ns : List Int), RelC.rels P S σ st w (iV ns) (ns.map fun n => [.int .i64 n])
  | [] => rfl
  | n :: ns => ⟨_, _, rfl, rfl, rels_iV ns⟩
theorem rels_iV_inv {S : Nat → Prop} {σ : Sig} {st : Store} {w : World} : ∀ {ns : List Int} {css : List (List Value)}, RelC.rels P S σ st w (iV ns) css → css = ns.map fun n => [.int .i64 n]
  | [], css, h => h
  | n :: ns, css, h => by
    obtain ⟨c, r, rfl, h1, h2⟩ := h
    rw [rels_iV_inv h2, List.map_cons]
    congr 1
theorem flat_iV (ns : List Int) : (ns.map fun n => [Value.int .i64 n]).flatten = ns.map (Value.int .i64) := by
  induction ns with
  | nil => rfl
  | cons n ns ih => simp [ih]
def SortOk (P : Program) (g : FuncId) : Prop := (∃ fn, P.funcs[g]? = some fn ∧ (fn.name == "runtime.NumGoroutine") = false ∧ fn.body.isNone = false) ∧
  (∀ (blk off cap : Nat) (zs : List Int) (w : World), Go.Sort.Holds (Value.int .i64) w blk off zs.toArray → blk < w.heap.size → zs.length < 4611686018427387904 →
    Calls P g #[.slice (some ⟨blk, off, none⟩) zs.length cap] w fun e w' => e = .returned (.tuple #[]) ∧ ∃ n os, w' = Go.Sort.grow (Go.Sort.putRow (Value.int .i64) (Go.Sort.ahead w n) blk off (zs.mergeSort fun x y => decide (x ≤ y)).toArray) os) ∧
  ∀ (p : Option Addr) (cap : Nat) (w : World), Calls P g #[.slice p 0 cap] w fun e w' => e = .returned (.tuple #[]) ∧ w' = w
def sortC (P : Program) (g : FuncId) : Caller := fun f xs lv st => match xs with
  | [.nils _] => if f = g then some (.tup [], st) else none
  | [.rs e k ver off len full] => if f = g ∧ (st k).ver = ver ∧ (st k).live = true ∧ off = 0 ∧ len = (st k).vs.length ∧ 0 < len ∧ len < 4611686018427387904 ∧ szOf P (st k).e = 1 then match ints (st k).vs with
      | some ns => some (.tup [], upd st k ⟨ver, (st k).e, iV (sortI ns), true⟩)
      | none => none
    else none
  | _ => none
def ahd (w : World) (k : Nat) : World := { w with drawn := k }
theorem put_eq_set (w : World) (b n : Nat) (cur : Array Value) (e : TypeId) (d : Array Int) (hb : w.heap[b]? = some (.cells cur e (0, 0))) :
    Go.Sort.putRow (Value.int .i64) (Go.Sort.ahead w n) b 0 d = ahd (w.setRow b (Go.Sort.putCells (Value.int .i64) 0 d cur)) (w.drawn + n) := by
  unfold Go.Sort.putRow Go.Sort.mapBlock Go.Sort.ahead World.setRow ahd
  simp only
  congr 1
  apply Array.ext_getElem?
  intro k
  simp only [Array.getElem?_modify]
  by_cases hk : b = k
  · subst hk
    simp [hb, Go.Sort.onCells]
  · simp [hk]
theorem sortC_ok {g : FuncId} (h : SortOk P g) : CallerOk P (sortC P g) := by
  obtain ⟨⟨fn, f1, f2, f3⟩, hs, hn⟩ := h
  intro f xs lv st v st' h B0 S σ w vals hI hx
  unfold sortC at h
  split at h
  · rename_i e
    split at h
    · rename_i hfg
      subst hfg
      cases h
      obtain ⟨x, r, rfl, hx1, hr⟩ := hx
      obtain rfl : r = [] := hr
      have hx2 : RelC P S σ st w (.nils e) [x] := by
        rcases hx1 with h | ⟨h, _⟩ | ⟨_, h⟩
        · cases h
        · cases h
        · exact h
      obtain ⟨A, hA⟩ := hx2
      cases hA
      refine .inl ⟨fn, f1, f2, f3, (hn A 0 w).mono ?_⟩
      rintro e' w' ⟨rfl, rfl⟩
      exact ⟨_, rfl, S, σ, hI, Evo.refl _ _ _ _, Below.refl _ _, [], rfl, rfl⟩
    · cases h
  · rename_i e k ver off len full
    split at h
    · rename_i hc
      obtain ⟨rfl, hver, hlive, hoff, hlen, hpos, hlt, hsz⟩ := hc
      split at h
      · rename_i ns hns
        cases h
        have hvs := ints_inv hns
        obtain ⟨x, r, rfl, hx1, hr⟩ := hx
        obtain rfl : r = [] := hr
        have hx2 : RelC P S σ st w (.rs e k ver off len full) [x] := by
          rcases hx1 with h | ⟨h, _⟩ | ⟨_, h⟩
          · cases h
          · cases h
          · exact h
        obtain ⟨A, c, hA, hlc, _, _, hrest⟩ := hx2
        cases hA
        obtain ⟨_, _, _, hplace⟩ := hrest hver.symm hlive
        have hnl : ns.length = len := by rw [hlen, hvs]; simp [iV]
        obtain ⟨hnone, hsome⟩ := (hI.own k hlive).row (by omega)
        cases hσ : σ k with
        | none =>
          have := hnone hσ
          rw [hlen, this] at hpos
          simp at hpos
        | some bc =>
          obtain ⟨b, cap⟩ := bc
          obtain ⟨p1, p2, p3⟩ := hplace b cap hσ
          obtain ⟨g1, g2, g3, cur, css, g4, g5, g6, g7, g8, g9, g10⟩ := hsome b cap hσ
          have hA : A = some ⟨b, 0, none⟩ := by
            rcases p1 with h0 | h0
            · omega
            · rw [h0, hoff]; simp
          subst hA
          rw [hvs] at g10
          have hcss := rels_iV_inv g10
          rw [hcss, flat_iV, hsz, Nat.mul_one, ← hlen] at g8
          rw [hsz, Nat.mul_one] at g5
          have hcell : ∀ j, j < ns.length → cur[j]? = some (.int .i64 ns[j]!) := by
            intro j hj
            have h1 := cell_of_take (cur := cur) (N := len) g8 (j := j) (by simpa using hj)
            rw [h1]
            simp [List.getElem?_map, List.getElem?_eq_getElem hj, getElem!_pos ns j hj]
          have hH : Go.Sort.Holds (Value.int .i64) w b 0 ns.toArray := by
            intro j hj
            have hj' : j < ns.length := by simpa using hj
            refine ⟨?_, frozen_of_row w b (0 + j) cur _ g4⟩
            rw [cell_of_row w b (0 + j) cur _ _ g4, Nat.zero_add, hcell j hj']
            simp [getElem!_pos, hj']
          refine .inl ⟨fn, f1, f2, f3, ?_⟩
          have hcall := hs b 0 c ns w hH g2 (by omega)
          rw [hnl] at hcall
          refine hcall.mono ?_
          rintro e' w' ⟨rfl, n, os, rfl⟩
          have hsl : (sortI ns).length = ns.length := by simp [sortI]
          rw [put_eq_set w b n cur _ _ g4, show ns.mergeSort (fun x y => decide (x ≤ y)) = sortI ns from rfl]
          have hrow := setRow_ok (k := k) (vs' := iV (sortI ns)) (css' := (sortI ns).map fun n => [.int .i64 n]) (cur' := Go.Sort.putCells (Value.int .i64) 0 (sortI ns).toArray cur) (b := b) (cap := cap) (v' := ver) hI (by omega) hlive hσ (by omega)
            (rels_iV _) (fun c hc => by obtain ⟨m, _, rfl⟩ := List.mem_map.1 hc; simp [hsz]) (by simp [Go.Sort.putCells, hsz, g5]) (by rw [hvs] at g6; simp [iV] at g6 ⊢; omega) (by
              rw [flat_iV, hsz, Nat.mul_one]
              apply List.ext_getElem?
              intro j
              simp only [iV, List.length_map, hsl]
              by_cases hj : j < ns.length
              · have hcj := hcell j hj
                rw [List.getElem?_take_of_lt hj, Array.getElem?_toList, Go.Sort.putCells, Array.getElem?_mapIdx, hcj]
                simp [hsl, hj, getElem!_pos]
              · rw [List.getElem?_eq_none (by simp; omega), List.getElem?_eq_none (by simp [hsl]; omega)])
          obtain ⟨i1, i2, i3⟩ := hrow
          generalize hw1 : w.setRow b (Go.Sort.putCells (Value.int .i64) 0 (sortI ns).toArray cur) = w1 at *
          have hb : Below w1.heap.size w1 (Go.Sort.grow (ahd w1 (w.drawn + n)) os) :=
            ⟨rfl, rfl, rfl, by simp [Go.Sort.grow, ahd], fun j hj => by simp [Go.Sort.grow, ahd, Array.getElem?_append, hj]⟩
          obtain ⟨j1, j2, j3⟩ := after_spec i1 hb
          exact ⟨_, rfl, _, _, j1, i2.trans j2, i3.trans j3, [], rfl, rfl⟩
      · cases h
    · cases h
  · cases h
end
end Go.Ev
end
section
set_option maxRecDepth 100000
namespace Go.Proofs.YtmhjmjodchbhlaaR.FxIds
open Go.Ev
theorem tk2 : tk Try.prog 2 = .one := by kernel_rfl
theorem ik2 : intK Try.prog 2 = some .i64 := by kernel_rfl
theorem zv2 : zeroV Try.prog 2 = some (.d (.int .i64 0)) := by kernel_rfl
theorem tk3 : tk Try.prog 3 = .one := by kernel_rfl
theorem ik3 : intK Try.prog 3 = some .i64 := by kernel_rfl
theorem zv3 : zeroV Try.prog 3 = some (.d (.int .i64 0)) := by kernel_rfl
theorem by3 : Try.prog.bytesOf 3 = 8 := by kernel_rfl
theorem so3 : szOf Try.prog 3 = 1 := by kernel_rfl
theorem tk4 : tk Try.prog 4 = .one := by kernel_rfl
theorem ub4 : Try.prog.underlying 4 = some .bool := by kernel_rfl
theorem zv4 : zeroV Try.prog 4 = some (.d (.bool false)) := by kernel_rfl
theorem tk23 : tk Try.prog 23 = .agg 3 false := by kernel_rfl
theorem ct23 : compTs Try.prog 23 = [2, 2, 2] := by kernel_rfl
theorem zv23 : zeroV Try.prog 23 = some (.d (.agg 23 [.int .i64 0, .int .i64 0, .int .i64 0])) := by kernel_rfl
theorem tk27 : tk Try.prog 27 = .one := by kernel_rfl
theorem ik27 : intK Try.prog 27 = some .i64 := by kernel_rfl
theorem zv27 : zeroV Try.prog 27 = some (.d (.int .i64 0)) := by kernel_rfl
theorem tk37 : tk Try.prog 37 = .one := by kernel_rfl
theorem ik37 : intK Try.prog 37 = some .i64 := by kernel_rfl
theorem zv37 : zeroV Try.prog 37 = some (.d (.int .i64 0)) := by kernel_rfl
theorem by37 : Try.prog.bytesOf 37 = 8 := by kernel_rfl
theorem so37 : szOf Try.prog 37 = 1 := by kernel_rfl
theorem tk39 : tk Try.prog 39 = .agg 4 false := by kernel_rfl
theorem ct39 : compTs Try.prog 39 = [3, 23, 23, 37] := by kernel_rfl
theorem zv39 : zeroV Try.prog 39 = some (.d (.agg 39 [.int .i64 0, .agg 23 [.int .i64 0, .int .i64 0, .int .i64 0], .agg 23 [.int .i64 0, .int .i64 0, .int .i64 0], .int .i64 0])) := by kernel_rfl
theorem by39 : Try.prog.bytesOf 39 = 64 := by kernel_rfl
theorem so39 : szOf Try.prog 39 = 8 := by kernel_rfl
theorem tk43 : tk Try.prog 43 = .sl 79 := by kernel_rfl
theorem zv43 : zeroV Try.prog 43 = some (.nils 79) := by kernel_rfl
theorem tk44 : tk Try.prog 44 = .sl 76 := by kernel_rfl
theorem zv44 : zeroV Try.prog 44 = some (.nils 76) := by kernel_rfl
theorem tk45 : tk Try.prog 45 = .sl 39 := by kernel_rfl
theorem zv45 : zeroV Try.prog 45 = some (.nils 39) := by kernel_rfl
theorem tk47 : tk Try.prog 47 = .agg 5 false := by kernel_rfl
theorem ct47 : compTs Try.prog 47 = [37, 43, 44, 45, 39] := by kernel_rfl
theorem zv47 : zeroV Try.prog 47 = some (.agg 47 [.d (.int .i64 0), .nils 79, .nils 76, .nils 39, .d (.agg 39 [.int .i64 0, .agg 23 [.int .i64 0, .int .i64 0, .int .i64 0], .agg 23 [.int .i64 0, .int .i64 0, .int .i64 0], .int .i64 0])]) := by kernel_rfl
theorem tk48 : tk Try.prog 48 = .one := by kernel_rfl
theorem ik48 : intK Try.prog 48 = some .i64 := by kernel_rfl
theorem zv48 : zeroV Try.prog 48 = some (.d (.int .i64 0)) := by kernel_rfl
theorem tk74 : tk Try.prog 74 = .sl 3 := by kernel_rfl
theorem zv74 : zeroV Try.prog 74 = some (.nils 3) := by kernel_rfl
theorem tk76 : tk Try.prog 76 = .agg 5 false := by kernel_rfl
theorem ct76 : compTs Try.prog 76 = [3, 23, 37, 3, 3] := by kernel_rfl
theorem zv76 : zeroV Try.prog 76 = some (.d (.agg 76 [.int .i64 0, .agg 23 [.int .i64 0, .int .i64 0, .int .i64 0], .int .i64 0, .int .i64 0, .int .i64 0])) := by kernel_rfl
theorem by76 : Try.prog.bytesOf 76 = 56 := by kernel_rfl
theorem so76 : szOf Try.prog 76 = 7 := by kernel_rfl
theorem tk77 : tk Try.prog 77 = .sl 37 := by kernel_rfl
theorem zv77 : zeroV Try.prog 77 = some (.nils 37) := by kernel_rfl
theorem tk79 : tk Try.prog 79 = .agg 7 false := by kernel_rfl
theorem ct79 : compTs Try.prog 79 = [3, 23, 37, 77, 48, 48, 48] := by kernel_rfl
theorem zv79 : zeroV Try.prog 79 = some (.agg 79 [.d (.int .i64 0), .d (.agg 23 [.int .i64 0, .int .i64 0, .int .i64 0]), .d (.int .i64 0), .nils 37, .d (.int .i64 0), .d (.int .i64 0), .d (.int .i64 0)]) := by kernel_rfl
theorem by79 : Try.prog.bytesOf 79 = 88 := by kernel_rfl
theorem so79 : szOf Try.prog 79 = 9 := by kernel_rfl
noncomputable def en12 : Entry := ⟨Try.f12, [(0, [false, true, false, true, false, false, false, false, false, false, false, true, true, true, false, false, false, false, false, false, false, false, false, false, false, false, false, false, false, false, false, false, false, false, false, false, false, false, false, false, false, false, false, false, false, false, false, false, false, false, false, false, false, false, false, false, false, false, false, false, false, false, false, false, false]), (2, [false, true, false, true, false, false, false, false, false, false, false, false, false, false, false, false, false, false, false, false, false, false, false, false, true, true, true, false, false, false, false, false, false, false, false, false, false, false, false, false, false, false, false, false, false, false, false, false, false, false, false, false, false, false, false, false, false, false, false, false, false, false, false, false, false]), (4, [false, true, false, true, false, false, false, false, false, false, false, false, false, false, false, false, false, false, false, false, false, false, false, false, false, false, false, false, false, false, false, false, false, false, false, false, false, true, true, true, false, false, false, false, false, false, false, false, false, false, false, false, false, false, false, false, false, false, false, false, false, false, false, false, false]), (1000001, [false, true, false, true, false, false, false, false, false, false, false, false, false, false, false, false, false, false, false, false, false, false, false, false, false, false, false, false, false, false, false, false, false, false, false, false, false, false, false, false, false, false, false, false, false, false, false, false, false, false, false, false, false, false, false, false, false, false, false, false, false, false, false, false, false]), (1000002, [false, true, false, true, false, false, false, false, false, false, false, true, true, true, false, false, false, false, false, false, false, false, false, false, false, false, false, false, false, false, false, false, false, false, false, false, false, false, false, false, false, false, false, false, false, false, false, false, false, false, false, false, false, false, false, false, false, false, false, false, false, false, false, false, false]), (1000003, [false, true, false, true, false, false, false, false, false, false, false, false, false, false, false, false, false, false, false, false, false, false, false, false, false, false, false, false, false, false, false, false, false, false, false, false, false, false, false, false, false, false, false, false, false, false, false, false, false, false, false, false, false, false, false, false, false, false, false, false, false, false, false, false, false]), (1000004, [false, true, false, true, false, false, false, false, false, false, false, false, false, false, false, false, false, false, false, false, false, false, false, false, true, true, true, false, false, false, false, false, false, false, false, false, false, false, false, false, false, false, false, false, false, false, false, false, false, false, false, false, false, false, false, false, false, false, false, false, false, false, false, false, false]), (1000005, [false, true, false, true, false, false, false, false, false, false, false, false, false, false, false, false, false, false, false, false, false, false, false, false, false, false, false, false, false, false, false, false, false, false, false, false, false, false, false, false, false, false, false, false, false, false, false, false, false, false, false, false, false, false, false, false, false, false, false, false, false, false, false, false, false]), (1000006, [false, true, false, true, false, false, false, false, false, false, false, false, false, false, false, false, false, false, false, false, false, false, false, false, false, false, false, false, false, false, false, false, false, false, false, false, false, true, true, true, false, false, false, false, false, false, false, false, false, false, false, false, false, false, false, false, false, false, false, false, false, false, false, false, false]), (1000000, [false, false, true, false, false, false, false, false, false, false, false, false, false, false, false, false, false, false, false, false, false, false, false, false, false, false, false, false, false, false, false, false, false, false, false, false, false, false, false, false, false, false, false, false, false, false, false, false, false, false, false, false, false, false, false, false, false, false, false, false, false, false, false, false, false])]⟩
theorem dw12_18 (env : List V) (o : Option (List V × Store)) : drawR en12.ms 18 env o = o := nr rfl
theorem nc12_18 : ncOf en12.ms 18 = false := nr rfl
theorem mk12_0 (vs : List V) : mask (maskOf en12.ms 0) vs = mask [false, true, false, true, false, false, false, false, false, false, false, true, true, true, false, false, false, false, false, false, false, false, false, false, false, false, false, false, false, false, false, false, false, false, false, false, false, false, false, false, false, false, false, false, false, false, false, false, false, false, false, false, false, false, false, false, false, false, false, false, false, false, false, false, false] vs := nr rfl
theorem mk12_2 (vs : List V) : mask (maskOf en12.ms 2) vs = mask [false, true, false, true, false, false, false, false, false, false, false, false, false, false, false, false, false, false, false, false, false, false, false, false, true, true, true, false, false, false, false, false, false, false, false, false, false, false, false, false, false, false, false, false, false, false, false, false, false, false, false, false, false, false, false, false, false, false, false, false, false, false, false, false, false] vs := nr rfl
theorem mk12_4 (vs : List V) : mask (maskOf en12.ms 4) vs = mask [false, true, false, true, false, false, false, false, false, false, false, false, false, false, false, false, false, false, false, false, false, false, false, false, false, false, false, false, false, false, false, false, false, false, false, false, false, true, true, true, false, false, false, false, false, false, false, false, false, false, false, false, false, false, false, false, false, false, false, false, false, false, false, false, false] vs := nr rfl
theorem mk12_1000001 (vs : List V) : mask (maskOf en12.ms 1000001) vs = mask [false, true, false, true, false, false, false, false, false, false, false, false, false, false, false, false, false, false, false, false, false, false, false, false, false, false, false, false, false, false, false, false, false, false, false, false, false, false, false, false, false, false, false, false, false, false, false, false, false, false, false, false, false, false, false, false, false, false, false, false, false, false, false, false, false] vs := nr rfl
theorem mk12_1000002 (vs : List V) : mask (maskOf en12.ms 1000002) vs = mask [false, true, false, true, false, false, false, false, false, false, false, true, true, true, false, false, false, false, false, false, false, false, false, false, false, false, false, false, false, false, false, false, false, false, false, false, false, false, false, false, false, false, false, false, false, false, false, false, false, false, false, false, false, false, false, false, false, false, false, false, false, false, false, false, false] vs := nr rfl
theorem mk12_1000003 (vs : List V) : mask (maskOf en12.ms 1000003) vs = mask [false, true, false, true, false, false, false, false, false, false, false, false, false, false, false, false, false, false, false, false, false, false, false, false, false, false, false, false, false, false, false, false, false, false, false, false, false, false, false, false, false, false, false, false, false, false, false, false, false, false, false, false, false, false, false, false, false, false, false, false, false, false, false, false, false] vs := nr rfl
theorem mk12_1000004 (vs : List V) : mask (maskOf en12.ms 1000004) vs = mask [false, true, false, true, false, false, false, false, false, false, false, false, false, false, false, false, false, false, false, false, false, false, false, false, true, true, true, false, false, false, false, false, false, false, false, false, false, false, false, false, false, false, false, false, false, false, false, false, false, false, false, false, false, false, false, false, false, false, false, false, false, false, false, false, false] vs := nr rfl
theorem mk12_1000005 (vs : List V) : mask (maskOf en12.ms 1000005) vs = mask [false, true, false, true, false, false, false, false, false, false, false, false, false, false, false, false, false, false, false, false, false, false, false, false, false, false, false, false, false, false, false, false, false, false, false, false, false, false, false, false, false, false, false, false, false, false, false, false, false, false, false, false, false, false, false, false, false, false, false, false, false, false, false, false, false] vs := nr rfl
theorem mk12_1000006 (vs : List V) : mask (maskOf en12.ms 1000006) vs = mask [false, true, false, true, false, false, false, false, false, false, false, false, false, false, false, false, false, false, false, false, false, false, false, false, false, false, false, false, false, false, false, false, false, false, false, false, false, true, true, true, false, false, false, false, false, false, false, false, false, false, false, false, false, false, false, false, false, false, false, false, false, false, false, false, false] vs := nr rfl
theorem mk12_1000000 (vs : List V) : mask (maskOf en12.ms 1000000) vs = mask [false, false, true, false, false, false, false, false, false, false, false, false, false, false, false, false, false, false, false, false, false, false, false, false, false, false, false, false, false, false, false, false, false, false, false, false, false, false, false, false, false, false, false, false, false, false, false, false, false, false, false, false, false, false, false, false, false, false, false, false, false, false, false, false, false] vs := nr rfl
noncomputable def lb12_0 : Code := loopN Try.f12 0
def hd12_0 (t1 t3 t11 t12 t13 : V) : List V := [.und, t1, .und, t3, .und, .und, .und, .und, .und, .und, .und, t11, t12, t13, .und, .und, .und, .und, .und, .und, .und, .und, .und, .und, .und, .und, .und, .und, .und, .und, .und, .und, .und, .und, .und, .und, .und, .und, .und, .und, .und, .und, .und, .und, .und, .und, .und, .und, .und, .und, .und, .und, .und, .und, .und, .und, .und, .und, .und, .und, .und, .und, .und, .und, .und]
noncomputable def lb12_2 : Code := loopN Try.f12 1
def hd12_2 (t1 t3 t24 t25 t26 : V) : List V := [.und, t1, .und, t3, .und, .und, .und, .und, .und, .und, .und, .und, .und, .und, .und, .und, .und, .und, .und, .und, .und, .und, .und, .und, t24, t25, t26, .und, .und, .und, .und, .und, .und, .und, .und, .und, .und, .und, .und, .und, .und, .und, .und, .und, .und, .und, .und, .und, .und, .und, .und, .und, .und, .und, .und, .und, .und, .und, .und, .und, .und, .und, .und, .und, .und]
noncomputable def lb12_4 : Code := loopN Try.f12 2
def hd12_4 (t1 t3 t37 t38 t39 : V) : List V := [.und, t1, .und, t3, .und, .und, .und, .und, .und, .und, .und, .und, .und, .und, .und, .und, .und, .und, .und, .und, .und, .und, .und, .und, .und, .und, .und, .und, .und, .und, .und, .und, .und, .und, .und, .und, .und, t37, t38, t39, .und, .und, .und, .und, .und, .und, .und, .und, .und, .und, .und, .und, .und, .und, .und, .und, .und, .und, .und, .und, .und, .und, .und, .und, .und]
def hx12_0 (t1 t3 : V) : List V := [.und, t1, .und, t3, .und, .und, .und, .und, .und, .und, .und, .und, .und, .und, .und, .und, .und, .und, .und, .und, .und, .und, .und, .und, .und, .und, .und, .und, .und, .und, .und, .und, .und, .und, .und, .und, .und, .und, .und, .und, .und, .und, .und, .und, .und, .und, .und, .und, .und, .und, .und, .und, .und, .und, .und, .und, .und, .und, .und, .und, .und, .und, .und, .und, .und]
def hx12_1 (t1 t3 t11 t12 t13 : V) : List V := [.und, t1, .und, t3, .und, .und, .und, .und, .und, .und, .und, t11, t12, t13, .und, .und, .und, .und, .und, .und, .und, .und, .und, .und, .und, .und, .und, .und, .und, .und, .und, .und, .und, .und, .und, .und, .und, .und, .und, .und, .und, .und, .und, .und, .und, .und, .und, .und, .und, .und, .und, .und, .und, .und, .und, .und, .und, .und, .und, .und, .und, .und, .und, .und, .und]
def hx12_2 (t1 t3 : V) : List V := [.und, t1, .und, t3, .und, .und, .und, .und, .und, .und, .und, .und, .und, .und, .und, .und, .und, .und, .und, .und, .und, .und, .und, .und, .und, .und, .und, .und, .und, .und, .und, .und, .und, .und, .und, .und, .und, .und, .und, .und, .und, .und, .und, .und, .und, .und, .und, .und, .und, .und, .und, .und, .und, .und, .und, .und, .und, .und, .und, .und, .und, .und, .und, .und, .und]
def hx12_3 (t1 t3 t24 t25 t26 : V) : List V := [.und, t1, .und, t3, .und, .und, .und, .und, .und, .und, .und, .und, .und, .und, .und, .und, .und, .und, .und, .und, .und, .und, .und, .und, t24, t25, t26, .und, .und, .und, .und, .und, .und, .und, .und, .und, .und, .und, .und, .und, .und, .und, .und, .und, .und, .und, .und, .und, .und, .und, .und, .und, .und, .und, .und, .und, .und, .und, .und, .und, .und, .und, .und, .und, .und]
def hx12_4 (t1 t3 : V) : List V := [.und, t1, .und, t3, .und, .und, .und, .und, .und, .und, .und, .und, .und, .und, .und, .und, .und, .und, .und, .und, .und, .und, .und, .und, .und, .und, .und, .und, .und, .und, .und, .und, .und, .und, .und, .und, .und, .und, .und, .und, .und, .und, .und, .und, .und, .und, .und, .und, .und, .und, .und, .und, .und, .und, .und, .und, .und, .und, .und, .und, .und, .und, .und, .und, .und]
def hx12_5 (t1 t3 t37 t38 t39 : V) : List V := [.und, t1, .und, t3, .und, .und, .und, .und, .und, .und, .und, .und, .und, .und, .und, .und, .und, .und, .und, .und, .und, .und, .und, .und, .und, .und, .und, .und, .und, .und, .und, .und, .und, .und, .und, .und, .und, t37, t38, t39, .und, .und, .und, .und, .und, .und, .und, .und, .und, .und, .und, .und, .und, .und, .und, .und, .und, .und, .und, .und, .und, .und, .und, .und, .und]
def hr12 (t2 : V) : List V := [.und, .und, t2, .und, .und, .und, .und, .und, .und, .und, .und, .und, .und, .und, .und, .und, .und, .und, .und, .und, .und, .und, .und, .und, .und, .und, .und, .und, .und, .und, .und, .und, .und, .und, .und, .und, .und, .und, .und, .und, .und, .und, .und, .und, .und, .und, .und, .und, .und, .und, .und, .und, .und, .und, .und, .und, .und, .und, .und, .und, .und, .und, .und, .und, .und]
noncomputable def en42 : Entry := ⟨Try.f42, [(0, [true, true, false, false, false, false, false, false, false, false, false, false, true, true, false, false, false, false, false, false, false, false, false, false, false, false]), (1000001, [false, false, false, false, false, false, false, false, false, false, false, false, false, false, false, false, false, false, false, false, false, false, false, false, false, false]), (1000002, [true, true, false, false, false, false, false, false, false, false, false, false, true, true, false, false, false, false, false, false, false, false, false, false, false, false]), (1000000, [false, false, false, false, true, false, false, false, false, false, false, false, false, false, false, false, false, false, false, false, false, false, false, false, false, false])]⟩
theorem dw42_6 (env : List V) (o : Option (List V × Store)) : drawR en42.ms 6 env o = o := nr rfl
theorem nc42_6 : ncOf en42.ms 6 = false := nr rfl
theorem mk42_0 (vs : List V) : mask (maskOf en42.ms 0) vs = mask [true, true, false, false, false, false, false, false, false, false, false, false, true, true, false, false, false, false, false, false, false, false, false, false, false, false] vs := nr rfl
theorem mk42_1000001 (vs : List V) : mask (maskOf en42.ms 1000001) vs = mask [false, false, false, false, false, false, false, false, false, false, false, false, false, false, false, false, false, false, false, false, false, false, false, false, false, false] vs := nr rfl
theorem mk42_1000002 (vs : List V) : mask (maskOf en42.ms 1000002) vs = mask [true, true, false, false, false, false, false, false, false, false, false, false, true, true, false, false, false, false, false, false, false, false, false, false, false, false] vs := nr rfl
theorem mk42_1000000 (vs : List V) : mask (maskOf en42.ms 1000000) vs = mask [false, false, false, false, true, false, false, false, false, false, false, false, false, false, false, false, false, false, false, false, false, false, false, false, false, false] vs := nr rfl
noncomputable def lb42_0 : Code := loopN Try.f42 0
def hd42_0 (t0 t1 t12 t13 : V) : List V := [t0, t1, .und, .und, .und, .und, .und, .und, .und, .und, .und, .und, t12, t13, .und, .und, .und, .und, .und, .und, .und, .und, .und, .und, .und, .und]
def hx42_0 : List V := [.und, .und, .und, .und, .und, .und, .und, .und, .und, .und, .und, .und, .und, .und, .und, .und, .und, .und, .und, .und, .und, .und, .und, .und, .und, .und]
def hx42_1 (t0 t1 t12 t13 : V) : List V := [t0, t1, .und, .und, .und, .und, .und, .und, .und, .und, .und, .und, t12, t13, .und, .und, .und, .und, .und, .und, .und, .und, .und, .und, .und, .und]
def hr42 (t4 : V) : List V := [.und, .und, .und, .und, t4, .und, .und, .und, .und, .und, .und, .und, .und, .und, .und, .und, .und, .und, .und, .und, .und, .und, .und, .und, .und, .und]
noncomputable def en43 : Entry := ⟨Try.f43, [(0, [false, true, false, true, false, false, false, false, false, false, false, true, true, true, false, false, false, false, false, false, false, false, false, false, false, false, false, false, false, false, false, false, false, false, false, false, false, false, false, false, false, false, false, false, false, false, false, false, false, false, false, false]), (2, [false, true, false, true, false, false, false, false, false, false, false, false, false, false, false, false, false, false, false, false, false, false, false, false, true, true, true, false, false, false, false, false, false, false, false, false, false, false, false, false, false, false, false, false, false, false, false, false, false, false, false, false]), (4, [false, false, false, true, false, false, false, false, false, false, false, false, false, false, false, false, false, false, false, false, false, false, false, false, false, false, false, false, false, false, false, false, false, false, false, false, false, true, true, true, false, false, false, false, false, false, false, false, false, false, false, false]), (1000001, [false, true, false, true, false, false, false, false, false, false, false, false, false, false, false, false, false, false, false, false, false, false, false, false, false, false, false, false, false, false, false, false, false, false, false, false, false, false, false, false, false, false, false, false, false, false, false, false, false, false, false, false]), (1000002, [false, true, false, true, false, false, false, false, false, false, false, true, true, true, false, false, false, false, false, false, false, false, false, false, false, false, false, false, false, false, false, false, false, false, false, false, false, false, false, false, false, false, false, false, false, false, false, false, false, false, false, false]), (1000003, [false, true, false, true, false, false, false, false, false, false, false, false, false, false, false, false, false, false, false, false, false, false, false, false, false, false, false, false, false, false, false, false, false, false, false, false, false, false, false, false, false, false, false, false, false, false, false, false, false, false, false, false]), (1000004, [false, true, false, true, false, false, false, false, false, false, false, false, false, false, false, false, false, false, false, false, false, false, false, false, true, true, true, false, false, false, false, false, false, false, false, false, false, false, false, false, false, false, false, false, false, false, false, false, false, false, false, false]), (1000005, [false, false, false, true, false, false, false, false, false, false, false, false, false, false, false, false, false, false, false, false, false, false, false, false, false, false, false, false, false, false, false, false, false, false, false, false, false, false, false, false, false, false, false, false, false, false, false, false, false, false, false, false]), (1000006, [false, false, false, true, false, false, false, false, false, false, false, false, false, false, false, false, false, false, false, false, false, false, false, false, false, false, false, false, false, false, false, false, false, false, false, false, false, true, true, true, false, false, false, false, false, false, false, false, false, false, false, false]), (1000000, [false, false, true, false, false, false, false, false, false, false, false, false, false, false, false, false, false, false, false, false, false, false, false, false, false, false, false, false, false, false, false, false, false, false, false, false, false, false, false, false, false, false, false, false, false, false, false, false, false, false, false, false])]⟩
theorem mk43_0 (vs : List V) : mask (maskOf en43.ms 0) vs = mask [false, true, false, true, false, false, false, false, false, false, false, true, true, true, false, false, false, false, false, false, false, false, false, false, false, false, false, false, false, false, false, false, false, false, false, false, false, false, false, false, false, false, false, false, false, false, false, false, false, false, false, false] vs := nr rfl
theorem mk43_2 (vs : List V) : mask (maskOf en43.ms 2) vs = mask [false, true, false, true, false, false, false, false, false, false, false, false, false, false, false, false, false, false, false, false, false, false, false, false, true, true, true, false, false, false, false, false, false, false, false, false, false, false, false, false, false, false, false, false, false, false, false, false, false, false, false, false] vs := nr rfl
theorem mk43_4 (vs : List V) : mask (maskOf en43.ms 4) vs = mask [false, false, false, true, false, false, false, false, false, false, false, false, false, false, false, false, false, false, false, false, false, false, false, false, false, false, false, false, false, false, false, false, false, false, false, false, false, true, true, true, false, false, false, false, false, false, false, false, false, false, false, false] vs := nr rfl
theorem mk43_1000001 (vs : List V) : mask (maskOf en43.ms 1000001) vs = mask [false, true, false, true, false, false, false, false, false, false, false, false, false, false, false, false, false, false, false, false, false, false, false, false, false, false, false, false, false, false, false, false, false, false, false, false, false, false, false, false, false, false, false, false, false, false, false, false, false, false, false, false] vs := nr rfl
theorem mk43_1000002 (vs : List V) : mask (maskOf en43.ms 1000002) vs = mask [false, true, false, true, false, false, false, false, false, false, false, true, true, true, false, false, false, false, false, false, false, false, false, false, false, false, false, false, false, false, false, false, false, false, false, false, false, false, false, false, false, false, false, false, false, false, false, false, false, false, false, false] vs := nr rfl
theorem mk43_1000003 (vs : List V) : mask (maskOf en43.ms 1000003) vs = mask [false, true, false, true, false, false, false, false, false, false, false, false, false, false, false, false, false, false, false, false, false, false, false, false, false, false, false, false, false, false, false, false, false, false, false, false, false, false, false, false, false, false, false, false, false, false, false, false, false, false, false, false] vs := nr rfl
theorem mk43_1000004 (vs : List V) : mask (maskOf en43.ms 1000004) vs = mask [false, true, false, true, false, false, false, false, false, false, false, false, false, false, false, false, false, false, false, false, false, false, false, false, true, true, true, false, false, false, false, false, false, false, false, false, false, false, false, false, false, false, false, false, false, false, false, false, false, false, false, false] vs := nr rfl
theorem mk43_1000005 (vs : List V) : mask (maskOf en43.ms 1000005) vs = mask [false, false, false, true, false, false, false, false, false, false, false, false, false, false, false, false, false, false, false, false, false, false, false, false, false, false, false, false, false, false, false, false, false, false, false, false, false, false, false, false, false, false, false, false, false, false, false, false, false, false, false, false] vs := nr rfl
theorem mk43_1000006 (vs : List V) : mask (maskOf en43.ms 1000006) vs = mask [false, false, false, true, false, false, false, false, false, false, false, false, false, false, false, false, false, false, false, false, false, false, false, false, false, false, false, false, false, false, false, false, false, false, false, false, false, true, true, true, false, false, false, false, false, false, false, false, false, false, false, false] vs := nr rfl
theorem mk43_1000000 (vs : List V) : mask (maskOf en43.ms 1000000) vs = mask [false, false, true, false, false, false, false, false, false, false, false, false, false, false, false, false, false, false, false, false, false, false, false, false, false, false, false, false, false, false, false, false, false, false, false, false, false, false, false, false, false, false, false, false, false, false, false, false, false, false, false, false] vs := nr rfl
noncomputable def lb43_0 : Code := loopN Try.f43 0
def hd43_0 (t1 t3 t11 t12 t13 : V) : List V := [.und, t1, .und, t3, .und, .und, .und, .und, .und, .und, .und, t11, t12, t13, .und, .und, .und, .und, .und, .und, .und, .und, .und, .und, .und, .und, .und, .und, .und, .und, .und, .und, .und, .und, .und, .und, .und, .und, .und, .und, .und, .und, .und, .und, .und, .und, .und, .und, .und, .und, .und, .und]
noncomputable def lb43_2 : Code := loopN Try.f43 1
def hd43_2 (t1 t3 t24 t25 t26 : V) : List V := [.und, t1, .und, t3, .und, .und, .und, .und, .und, .und, .und, .und, .und, .und, .und, .und, .und, .und, .und, .und, .und, .und, .und, .und, t24, t25, t26, .und, .und, .und, .und, .und, .und, .und, .und, .und, .und, .und, .und, .und, .und, .und, .und, .und, .und, .und, .und, .und, .und, .und, .und, .und]
noncomputable def lb43_4 : Code := loopN Try.f43 2
def hd43_4 (t3 t37 t38 t39 : V) : List V := [.und, .und, .und, t3, .und, .und, .und, .und, .und, .und, .und, .und, .und, .und, .und, .und, .und, .und, .und, .und, .und, .und, .und, .und, .und, .und, .und, .und, .und, .und, .und, .und, .und, .und, .und, .und, .und, t37, t38, t39, .und, .und, .und, .und, .und, .und, .und, .und, .und, .und, .und, .und]
def hx43_0 (t1 t3 : V) : List V := [.und, t1, .und, t3, .und, .und, .und, .und, .und, .und, .und, .und, .und, .und, .und, .und, .und, .und, .und, .und, .und, .und, .und, .und, .und, .und, .und, .und, .und, .und, .und, .und, .und, .und, .und, .und, .und, .und, .und, .und, .und, .und, .und, .und, .und, .und, .und, .und, .und, .und, .und, .und]
def hx43_1 (t1 t3 t11 t12 t13 : V) : List V := [.und, t1, .und, t3, .und, .und, .und, .und, .und, .und, .und, t11, t12, t13, .und, .und, .und, .und, .und, .und, .und, .und, .und, .und, .und, .und, .und, .und, .und, .und, .und, .und, .und, .und, .und, .und, .und, .und, .und, .und, .und, .und, .und, .und, .und, .und, .und, .und, .und, .und, .und, .und]
def hx43_2 (t1 t3 : V) : List V := [.und, t1, .und, t3, .und, .und, .und, .und, .und, .und, .und, .und, .und, .und, .und, .und, .und, .und, .und, .und, .und, .und, .und, .und, .und, .und, .und, .und, .und, .und, .und, .und, .und, .und, .und, .und, .und, .und, .und, .und, .und, .und, .und, .und, .und, .und, .und, .und, .und, .und, .und, .und]
def hx43_3 (t1 t3 t24 t25 t26 : V) : List V := [.und, t1, .und, t3, .und, .und, .und, .und, .und, .und, .und, .und, .und, .und, .und, .und, .und, .und, .und, .und, .und, .und, .und, .und, t24, t25, t26, .und, .und, .und, .und, .und, .und, .und, .und, .und, .und, .und, .und, .und, .und, .und, .und, .und, .und, .und, .und, .und, .und, .und, .und, .und]
def hx43_4 (t3 : V) : List V := [.und, .und, .und, t3, .und, .und, .und, .und, .und, .und, .und, .und, .und, .und, .und, .und, .und, .und, .und, .und, .und, .und, .und, .und, .und, .und, .und, .und, .und, .und, .und, .und, .und, .und, .und, .und, .und, .und, .und, .und, .und, .und, .und, .und, .und, .und, .und, .und, .und, .und, .und, .und]
def hx43_5 (t3 t37 t38 t39 : V) : List V := [.und, .und, .und, t3, .und, .und, .und, .und, .und, .und, .und, .und, .und, .und, .und, .und, .und, .und, .und, .und, .und, .und, .und, .und, .und, .und, .und, .und, .und, .und, .und, .und, .und, .und, .und, .und, .und, t37, t38, t39, .und, .und, .und, .und, .und, .und, .und, .und, .und, .und, .und, .und]
def hr43 (t2 : V) : List V := [.und, .und, t2, .und, .und, .und, .und, .und, .und, .und, .und, .und, .und, .und, .und, .und, .und, .und, .und, .und, .und, .und, .und, .und, .und, .und, .und, .und, .und, .und, .und, .und, .und, .und, .und, .und, .und, .und, .und, .und, .und, .und, .und, .und, .und, .und, .und, .und, .und, .und, .und, .und]
theorem mixed : Try.prog.follows .mixedOrders = true := by kernel_rfl
end Go.Proofs.YtmhjmjodchbhlaaR.FxIds
end
section
set_option linter.unusedVariables false
set_option linter.unusedSimpArgs false
set_option maxRecDepth 100000
namespace Go.Proofs.YtmhjmjodchbhlaaR.Eq42Ids
open Go.Ev Go.Proofs.YtmhjmjodchbhlaaR.FxIds
attribute [local go_sem] Ev.putR_s Ev.putR_0 Ev.thenO_s Ev.thenO_0 Ev.seqR_n Ev.seqR_e Ev.seqR_r Ev.seqR_0 Ev.blkR_e Ev.blkR_n Ev.blkR_r Ev.blkR_0 Ev.normR_s Ev.normR_0 Ev.outR_r Ev.outR_n Ev.outR_0 Ev.retS_s Ev.retS_0 Ev.pureO_s Ev.pureO_0 Ev.topR_0 Ev.topR_t Ev.topR_t0 Ev.oneL_0 Ev.oneL_s Ev.topR_d Ev.topR_nils Ev.topR_agg Ev.topR_rs Ev.evOp_move Ev.evOp_assign Ev.evOp_pick Ev.evOp_alloc Ev.evOp_box Ev.evOp_build Ev.evOp_buildSlice Ev.evOp_load Ev.evOp_store Ev.evOp_makeMap Ev.evOp_lookup Ev.evOp_mapUpdate Ev.evOp_insert Ev.evOp_nilCheck Ev.evOp_binOp Ev.evOp_unOp Ev.evOp_convert Ev.evOp_makeFunc Ev.evOp_makeSlice Ev.evOp_slice Ev.evOp_fieldAddr Ev.evOp_field Ev.evOp_indexAddr Ev.evOp_index Ev.evOp_extract Ev.evOp_call Ev.evOp_append Ev.evOp_len Ev.evOp_min Ev.evOp_max Ev.condR_b Ev.condR_t Ev.evOps_nil Ev.evOps_plain Ev.evOps_guard Ev.runG_eq Ev.skipG_eq Ev.condL_tt Ev.condL_ff Ev.condL_tf Ev.condL_ft Ev.condL_u Ev.condC_t Ev.condC_f Ev.evC_skip Ev.evC_ret Ev.evC_exit Ev.evC_label Ev.evC_region Ev.evC_draw Ev.evC_seq Ev.evC_cond Ev.evC_block Ev.evC_loop Ev.fin_d Ev.fin_nils Ev.fin_agg_ Ev.fin_rs Ev.finS_s Ev.mapO_fin Ev.upd_upd Ev.argv_d Ev.argv_nils Ev.argv_agg Ev.argv_rs Ev.argv_p Ev.appendTo_nils Ev.appendTo_rs Ev.consV_d Ev.consV_agg Ev.consV_p Ev.consV_rs Ev.consV_nils Ev.consV_fn Ev.consV_und Ev.consV_jk Ev.consV_grown Ev.topR_grown Ev.len_grown Ev.consV_mp Ev.sameK_i Ev.sameK_s Ev.mget_0 Ev.mget_hit Ev.mget_miss Ev.mput_0 Ev.mput_hit Ev.mput_miss Ev.apartAll Ev.apartL Ev.apartV Ev.freeAll Ev.sel Ev.keyOfV Ev.evLookup Ev.evPut Ev.hintOk Ev.keyOk Ev.consP Ev.lookV Ev.guardV Ev.dstAt Ev.evPure Ev.evStore Ev.evPureB Ev.evBin Ev.evBinO Ev.evNil Ev.isNilC Ev.evUn Ev.evConv Ev.evSlice Ev.optI Ev.lenV Ev.elemT Ev.foldI Ev.capsOk Ev.noTup Ev.nth Ev.setN Ev.pad Ev.V.get Ev.V.put Ev.putD Ev.hasT Ev.newBlk Ev.upd Ev.keq Ev.empty Ev.evCall Ev.V.args Ev.argP Ev.callOf Ev.evNilP Ev.isNilP Ev.look Ev.V.view.views Ev.V.view Ev.V.toD Ev.V.toD.V.toDs Ev.V.pure.pures Ev.V.pure Ev.D.flat.flats Ev.D.flat Ev.mkAgg Ev.allD Ev.aggParts Ev.setParts Ev.setElems Ev.getPath Ev.setPath Ev.subL Ev.eqD Ev.eqD.eqDs Ev.and2 Ev.strCut Ev.evalT Ev.constT Ev.evArgs Ev.mask Ev.maskOf Ev.tableOf Ev.compT Ev.resV Ev.retV Ev.mapO Ev.elemsOf Int.cast_ofNat_Int IntWalk.i64_in IntWalk.u64_in IntWalk.u8_in beq_self_eq_true Bool.true_beq Bool.false_beq Bool.and_true Bool.true_and Bool.false_and Bool.and_false Bool.and_self Bool.not_true Bool.not_false Bool.not_eq_true cond_true cond_false if_true if_false and_true true_and and_self decide_true decide_false Bool.or_true Bool.true_or Bool.or_false Bool.false_or List.isEmpty List.isEmpty_nil List.size_toArray List.map List.length_map List.length_cons List.length_nil Option.map Option.bind Option.getD Option.isSome List.replicate Bool.false_eq_true implies_true forall_const Array.toList Array.isEmpty List.append List.nil_append List.cons_append List.drop_zero List.take_length List.take_succ_cons List.take_zero List.take_nil List.getElem?_map List.getElem?_cons_zero List.getElem?_cons_succ List.getElem?_nil List.append_nil
attribute [local go_sem] FxIds.tk2 FxIds.ik2 FxIds.zv2 FxIds.tk3 FxIds.ik3 FxIds.zv3 FxIds.by3 FxIds.so3 FxIds.tk4 FxIds.ub4 FxIds.zv4 FxIds.tk23 FxIds.ct23 FxIds.zv23 FxIds.tk27 FxIds.ik27 FxIds.zv27 FxIds.tk37 FxIds.ik37 FxIds.zv37 FxIds.by37 FxIds.so37 FxIds.tk39 FxIds.ct39 FxIds.zv39 FxIds.by39 FxIds.so39 FxIds.tk43 FxIds.zv43 FxIds.tk44 FxIds.zv44 FxIds.tk45 FxIds.zv45 FxIds.tk47 FxIds.ct47 FxIds.zv47 FxIds.tk48 FxIds.ik48 FxIds.zv48 FxIds.tk74 FxIds.zv74 FxIds.tk76 FxIds.ct76 FxIds.zv76 FxIds.by76 FxIds.so76 FxIds.tk77 FxIds.zv77 FxIds.tk79 FxIds.ct79 FxIds.zv79 FxIds.by79 FxIds.so79 FxIds.dw12_18 FxIds.nc12_18 FxIds.mk12_0 FxIds.mk12_2 FxIds.mk12_4 FxIds.mk12_1000001 FxIds.mk12_1000002 FxIds.mk12_1000003 FxIds.mk12_1000004 FxIds.mk12_1000005 FxIds.mk12_1000006 FxIds.mk12_1000000 FxIds.dw42_6 FxIds.nc42_6 FxIds.mk42_0 FxIds.mk42_1000001 FxIds.mk42_1000002 FxIds.mk42_1000000 FxIds.mk43_0 FxIds.mk43_2 FxIds.mk43_4 FxIds.mk43_1000001 FxIds.mk43_1000002 FxIds.mk43_1000003 FxIds.mk43_1000004 FxIds.mk43_1000005 FxIds.mk43_1000006 FxIds.mk43_1000000
noncomputable def T : Table := tableOf [(42, en42)]
def en (l : List Int) : D := .sl 3 (l.map (.int .i64))
def hd (a b : List Int) (i : Nat) : List V := hd42_0 (.d (en a)) (.d (en b)) (.d (.int .i64 a.length)) (.d (.int .i64 i))
def R (a b : List Int) (st : Store) (i : Nat) : Out := if a.drop i = b.drop i then some (.exit 0, hx42_0, st) else some (.ret, hr42 (.d (.bool false)), st)
theorem loop (L : Nat) (call : Caller) (lv : Nat) (a b : List Int) (st : Store) (hl : a.length ≤ 4611686018427387904) (hab : b.length = a.length) :
    ∀ (m i : Nat) (env : List V), i ≤ a.length → a.length - i < m → mask (maskOf en42.ms 0) env = hd a b i →
      iter (evC Try.prog [] call L en42.ms lv 0 lb42_0) (maskOf en42.ms 0) m env st = R a b st i := by
  refine iter_wf _ _ (fun i => i ≤ a.length) (hd a b) (fun _ => st) (R a b st) (fun i => a.length - i) ?_
  intro i hi k hk
  by_cases hin : i < a.length
  case neg =>
    obtain rfl : i = a.length := by omega
    have hlt : ¬ (a.length : Int) < a.length := by omega
    have hR : R a b st a.length = some (.exit 0, hx42_0, st) := by rw [R, List.drop_length, ← hab, List.drop_length, if_pos rfl]
    rw [hR]
    simp only [lb42_0, loopN, loops, hd, hd42_0, hx42_0, Try.f42, go_sem, Nat.reduceAdd, Nat.reduceSub, Nat.reduceMul, Nat.reduceEqDiff, Nat.reduceBEq, Nat.reduceLT, Nat.reduceLeDiff, Nat.reducePow, Int.reduceToNat, Int.reduceLT, Int.reduceLE, Int.reduceGT, Int.reduceGE, Int.reduceEq, Int.reduceNeg, Int.reduceAdd, Int.reduceSub, ↓reduceIte, reduceCtorEq, hlt]
  have hlt : (i : Int) < a.length := by omega
  have hlb : (i : Int) < b.length := by omega
  have hxa : (a.map (D.int .i64))[i]? = some (.int .i64 a[i]) := by simp [hin]
  have hxb : (b.map (D.int .i64))[i]? = some (.int .i64 b[i]) := by simp [hab, hin]
  have hw : IntKind.i64.wrap ((i : Int) + 1) = ((i + 1 : Nat) : Int) := by rw [IntWalk.i64_in _ (by omega)]; rfl
  have h0 : (0 : Int) ≤ (i : Int) := by omega
  have ht : ((i : Int)).toNat = i := by omega
  have hda : a.drop i = a[i] :: a.drop (i + 1) := List.drop_eq_getElem_cons hin
  have hdb : b.drop i = b[i] :: b.drop (i + 1) := List.drop_eq_getElem_cons (by omega)
  by_cases hp : a[i] = b[i]
  · have hR : R a b st i = R a b st (i + 1) := by simp only [R, hda, hdb, List.cons.injEq, hp, true_and]
    rw [hR]
    simp only [lb42_0, loopN, loops, hd, hd42_0, en, Try.f42, go_sem, Nat.reduceAdd, Nat.reduceSub, Nat.reduceMul, Nat.reduceEqDiff, Nat.reduceBEq, Nat.reduceLT, Nat.reduceLeDiff, Nat.reducePow, Int.reduceToNat, Int.reduceLT, Int.reduceLE, Int.reduceGT, Int.reduceGE, Int.reduceEq, Int.reduceNeg, Int.reduceAdd, Int.reduceSub, ↓reduceIte, reduceCtorEq, hlt, hlb, hxa, hxb, h0, ht, hp, hw]
    exact hk (i + 1) _ (by omega) (by omega) (by simp only [hd, hd42_0, en, go_sem, Nat.reduceAdd, Nat.reduceSub, Nat.reduceMul, Nat.reduceEqDiff, Nat.reduceBEq, Nat.reduceLT, Nat.reduceLeDiff, Nat.reducePow, Int.reduceToNat, Int.reduceLT, Int.reduceLE, Int.reduceGT, Int.reduceGE, Int.reduceEq, Int.reduceNeg, Int.reduceAdd, Int.reduceSub, ↓reduceIte, reduceCtorEq, hw])
  · have hR : R a b st i = some (.ret, hr42 (.d (.bool false)), st) := by
      rw [R, if_neg (by rw [hda, hdb]; intro h; exact hp (List.cons.inj h).1)]
    rw [hR]
    simp only [lb42_0, loopN, loops, hd, hd42_0, hr42, en, Try.f42, go_sem, Nat.reduceAdd, Nat.reduceSub, Nat.reduceMul, Nat.reduceEqDiff, Nat.reduceBEq, Nat.reduceLT, Nat.reduceLeDiff, Nat.reducePow, Int.reduceToNat, Int.reduceLT, Int.reduceLE, Int.reduceGT, Int.reduceGE, Int.reduceEq, Int.reduceNeg, Int.reduceAdd, Int.reduceSub, ↓reduceIte, reduceCtorEq, hlt, hlb, hxa, hxb, h0, ht, hp]
theorem e (a b : List Int) (hl : a.length ≤ 4611686018427387904) : ∃ L c, evTop Try.prog [] T L c 42 [en a, en b] = some [.bool (decide (a = b))] := by
  refine ⟨a.length + 1, 1, ?_⟩
  unfold evTop
  simp only [List.map]
  rw [evF_s (fn := Try.f42) (msk := en42.ms) (hT := by rfl) (hb := by rfl)]
  by_cases hab : a.length = b.length
  case neg =>
    have hne : ¬ (a.length : Int) = b.length := by omega
    have hd : decide (a = b) = false := decide_eq_false (fun h => hab (by rw [h]))
    rw [hd]
    simp only [en, Try.f42, go_sem, Nat.reduceAdd, Nat.reduceSub, Nat.reduceMul, Nat.reduceEqDiff, Nat.reduceBEq, Nat.reduceLT, Nat.reduceLeDiff, Nat.reducePow, Int.reduceToNat, Int.reduceLT, Int.reduceLE, Int.reduceGT, Int.reduceGE, Int.reduceEq, Int.reduceNeg, Int.reduceAdd, Int.reduceSub, ↓reduceIte, reduceCtorEq, hne]
  have heq : (b.length : Int) = a.length := by omega
  simp only [en, Try.f42, go_sem, Nat.reduceAdd, Nat.reduceSub, Nat.reduceMul, Nat.reduceEqDiff, Nat.reduceBEq, Nat.reduceLT, Nat.reduceLeDiff, Nat.reducePow, Int.reduceToNat, Int.reduceLT, Int.reduceLE, Int.reduceGT, Int.reduceGE, Int.reduceEq, Int.reduceNeg, Int.reduceAdd, Int.reduceSub, ↓reduceIte, reduceCtorEq, heq]
  conv in iter _ _ _ _ _ => change iter (evC _ _ _ _ en42.ms _ _ lb42_0) (maskOf en42.ms 0) _ _ _
  rw [loop _ _ _ a b _ hl hab.symm _ 0 _ (by omega) (by omega) (by simp only [hd, hd42_0, en, go_sem, Nat.reduceAdd, Nat.reduceSub, Nat.reduceMul, Nat.reduceEqDiff, Nat.reduceBEq, Nat.reduceLT, Nat.reduceLeDiff, Nat.reducePow, Int.reduceToNat, Int.reduceLT, Int.reduceLE, Int.reduceGT, Int.reduceGE, Int.reduceEq, Int.reduceNeg, Int.reduceAdd, Int.reduceSub, ↓reduceIte, reduceCtorEq])]
  rw [R, List.drop_zero, List.drop_zero]
  by_cases hp : a = b
  · rw [if_pos hp, decide_eq_true hp]
    simp only [hx42_0, go_sem, Nat.reduceAdd, Nat.reduceSub, Nat.reduceMul, Nat.reduceEqDiff, Nat.reduceBEq, Nat.reduceLT, Nat.reduceLeDiff, Nat.reducePow, Int.reduceToNat, Int.reduceLT, Int.reduceLE, Int.reduceGT, Int.reduceGE, Int.reduceEq, Int.reduceNeg, Int.reduceAdd, Int.reduceSub, ↓reduceIte, reduceCtorEq]
  · rw [if_neg hp, decide_eq_false hp]
    simp only [hr42, go_sem, Nat.reduceAdd, Nat.reduceSub, Nat.reduceMul, Nat.reduceEqDiff, Nat.reduceBEq, Nat.reduceLT, Nat.reduceLeDiff, Nat.reducePow, Int.reduceToNat, Int.reduceLT, Int.reduceLE, Int.reduceGT, Int.reduceGE, Int.reduceEq, Int.reduceNeg, Int.reduceAdd, Int.reduceSub, ↓reduceIte, reduceCtorEq]
theorem map_inj {k : IntKind} {l l' : List Int} (h : l.map (D.int k) = l'.map (D.int k)) : l = l' := by
  induction l generalizing l' with
  | nil => cases l' with
    | nil => rfl
    | cons _ _ => cases h
  | cons x r ih => cases l' with
    | nil => cases h
    | cons y q => simp only [List.map_cons, List.cons.injEq, D.int.injEq, true_and] at h; rw [h.1, ih h.2]
noncomputable def s42 : Ev.Spec := mkSpec (fun x : List Int × List Int => [en x.1, en x.2]) (fun x => x.1.length ≤ 4611686018427387904) (fun x => [.bool (decide (x.1 = x.2))])
theorem s42_run (a b : List Int) (hl : a.length ≤ 4611686018427387904) : s42.run [.sl 3 (a.map (.int .i64)), .sl 3 (b.map (.int .i64))] = some [.bool (decide (a = b))] := by
  unfold s42
  exact mkSpec_run (enc := fun x : List Int × List Int => [en x.1, en x.2]) (pre := fun x => x.1.length ≤ 4611686018427387904) (fun x y h => by
    simp only [en, List.cons.injEq, D.sl.injEq, and_true, true_and] at h
    exact Prod.ext (map_inj h.1) (map_inj h.2)) (a, b) hl
theorem s42_ok : SpecOk Try.prog 42 s42 := spec_of mixed specs_nil (table_cons Try.func42 (by kernel_rfl) (by kernel_rfl) table_nil) fun x hp => e x.1 x.2 hp
#print axioms s42_ok
end Go.Proofs.YtmhjmjodchbhlaaR.Eq42Ids
end
