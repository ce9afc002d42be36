/- slices.IndexFunc over a closure that is known by contract: the place of the first element that it takes. -/
import Derived.Test.YtmhjmjodchbhlaaREvT
import Derived.Test.YtmhjmjodchbhlaaRFxRate
set_option linter.unusedVariables false
set_option linter.unusedSimpArgs false
set_option maxRecDepth 100000
namespace Go.Proofs.YtmhjmjodchbhlaaR.Idx131Rate
open Go.Ev Go.Proofs.YtmhjmjodchbhlaaR.FxRate
attribute [local go_sem] Ev.putR_s Ev.putR_0 Ev.thenO_s Ev.thenO_0 Ev.seqR_n Ev.seqR_e Ev.seqR_r Ev.seqR_0 Ev.blkR_e Ev.blkR_n Ev.blkR_r Ev.blkR_0 Ev.normR_s Ev.normR_0 Ev.outR_r Ev.outR_n Ev.outR_0 Ev.retS_s Ev.retS_0 Ev.pureO_s Ev.pureO_0 Ev.topR_0 Ev.topR_t Ev.topR_t0 Ev.oneL_0 Ev.oneL_s Ev.topR_d Ev.topR_nils Ev.topR_agg Ev.topR_rs Ev.evOp_move Ev.evOp_assign Ev.evOp_pick Ev.evOp_alloc Ev.evOp_box Ev.evOp_build Ev.evOp_buildSlice Ev.evOp_load Ev.evOp_store Ev.evOp_makeMap Ev.evOp_lookup Ev.evOp_mapUpdate Ev.evOp_insert Ev.evOp_nilCheck Ev.evOp_binOp Ev.evOp_unOp Ev.evOp_convert Ev.evOp_makeFunc Ev.evOp_makeSlice Ev.evOp_slice Ev.evOp_fieldAddr Ev.evOp_field Ev.evOp_indexAddr Ev.evOp_index Ev.evOp_extract Ev.evOp_call Ev.evOp_append Ev.evOp_len Ev.evOp_min Ev.evOp_max Ev.condR_b Ev.condR_t Ev.evOps_nil Ev.evOps_plain Ev.evOps_guard Ev.runG_eq Ev.skipG_eq Ev.condL_tt Ev.condL_ff Ev.condL_tf Ev.condL_ft Ev.condL_u Ev.condC_t Ev.condC_f Ev.evC_skip Ev.evC_ret Ev.evC_exit Ev.evC_label Ev.evC_region Ev.evC_draw Ev.evC_seq Ev.evC_cond Ev.evC_block Ev.evC_loop Ev.fin_d Ev.fin_nils Ev.fin_agg_ Ev.fin_rs Ev.finS_s Ev.mapO_fin Ev.upd_upd Ev.argv_d Ev.argv_nils Ev.argv_agg Ev.argv_rs Ev.argv_p Ev.appendTo_nils Ev.appendTo_rs Ev.consV_d Ev.consV_agg Ev.consV_p Ev.consV_rs Ev.consV_nils Ev.consV_fn Ev.consV_und Ev.consV_jk Ev.consV_grown Ev.topR_grown Ev.len_grown Ev.consV_mp Ev.sameK_i Ev.sameK_s Ev.mget_0 Ev.mget_hit Ev.mget_miss Ev.mput_0 Ev.mput_hit Ev.mput_miss Ev.apartAll Ev.apartL Ev.apartV Ev.freeAll Ev.sel Ev.keyOfV Ev.evLookup Ev.evPut Ev.hintOk Ev.keyOk Ev.consP Ev.lookV Ev.guardV Ev.dstAt Ev.evPure Ev.evStore Ev.evPureB Ev.evBin Ev.evBinO Ev.evNil Ev.isNilC Ev.evUn Ev.evConv Ev.evSlice Ev.optI Ev.lenV Ev.elemT Ev.foldI Ev.capsOk Ev.noTup Ev.nth Ev.setN Ev.pad Ev.V.get Ev.V.put Ev.putD Ev.hasT Ev.newBlk Ev.upd Ev.keq Ev.empty Ev.evCall Ev.V.args Ev.argP Ev.callOf Ev.evNilP Ev.isNilP Ev.look Ev.V.view.views Ev.V.view Ev.V.toD Ev.V.toD.V.toDs Ev.V.pure.pures Ev.V.pure Ev.D.flat.flats Ev.D.flat Ev.mkAgg Ev.allD Ev.aggParts Ev.setParts Ev.setElems Ev.getPath Ev.setPath Ev.subL Ev.eqD Ev.eqD.eqDs Ev.and2 Ev.strCut Ev.evalT Ev.constT Ev.evArgs Ev.mask Ev.maskOf Ev.tableOf Ev.compT Ev.resV Ev.retV Ev.mapO Ev.elemsOf Int.cast_ofNat_Int IntWalk.i64_in IntWalk.u64_in IntWalk.u8_in beq_self_eq_true Bool.true_beq Bool.false_beq Bool.and_true Bool.true_and Bool.false_and Bool.and_false Bool.and_self Bool.not_true Bool.not_false Bool.not_eq_true cond_true cond_false if_true if_false and_true true_and and_self decide_true decide_false Bool.or_true Bool.true_or Bool.or_false Bool.false_or List.isEmpty List.isEmpty_nil List.size_toArray List.map List.length_map List.length_cons List.length_nil Option.map Option.bind Option.getD Option.isSome List.replicate Bool.false_eq_true implies_true forall_const Array.toList Array.isEmpty List.append List.nil_append List.cons_append List.drop_zero List.take_length List.take_succ_cons List.take_zero List.take_nil List.getElem?_map List.getElem?_cons_zero List.getElem?_cons_succ List.getElem?_nil List.append_nil
attribute [local go_sem] FxRate.tk2 FxRate.ik2 FxRate.ek2 FxRate.zv2 FxRate.tk3 FxRate.ik3 FxRate.ek3 FxRate.zv3 FxRate.by3 FxRate.so3 FxRate.tk4 FxRate.ub4 FxRate.zv4 FxRate.tk23 FxRate.ct23 FxRate.ek23 FxRate.zv23 FxRate.tk27 FxRate.ik27 FxRate.zv27 FxRate.tk37 FxRate.ik37 FxRate.zv37 FxRate.by37 FxRate.so37 FxRate.tk39 FxRate.ct39 FxRate.zv39 FxRate.by39 FxRate.so39 FxRate.tk43 FxRate.zv43 FxRate.tk44 FxRate.zv44 FxRate.tk45 FxRate.zv45 FxRate.tk47 FxRate.ct47 FxRate.zv47 FxRate.tk48 FxRate.ik48 FxRate.zv48 FxRate.by48 FxRate.so48 FxRate.tk74 FxRate.zv74 FxRate.tk76 FxRate.ct76 FxRate.zv76 FxRate.by76 FxRate.so76 FxRate.tk77 FxRate.zv77 FxRate.tk79 FxRate.ct79 FxRate.zv79 FxRate.by79 FxRate.so79 FxRate.tk108 FxRate.zv108 FxRate.tk110 FxRate.ek110 FxRate.zv110 FxRate.tk111 FxRate.ek111 FxRate.zv111 FxRate.tk112 FxRate.zv112 FxRate.tk114 FxRate.ct114 FxRate.zv114 FxRate.by114 FxRate.so114 FxRate.tk136 FxRate.mt136 FxRate.sm136 FxRate.zw4 FxRate.zv136 FxRate.tk141 FxRate.zv141 FxRate.tk145 FxRate.zv145 FxRate.tk161 FxRate.ct161 FxRate.zv161 FxRate.tk182 FxRate.zv182 FxRate.mk7_1000000 FxRate.mk24_0 FxRate.mk24_2 FxRate.mk24_4 FxRate.mk24_1000001 FxRate.mk24_1000002 FxRate.mk24_1000003 FxRate.mk24_1000004 FxRate.mk24_1000005 FxRate.mk24_1000006 FxRate.mk24_1000000 FxRate.dw25_19 FxRate.nc25_19 FxRate.mk25_0 FxRate.mk25_2 FxRate.mk25_1000001 FxRate.mk25_1000002 FxRate.mk25_1000003 FxRate.mk25_1000004 FxRate.mk25_1000000 FxRate.mk40_0 FxRate.mk40_2 FxRate.mk40_4 FxRate.mk40_1000001 FxRate.mk40_1000002 FxRate.mk40_1000003 FxRate.mk40_1000004 FxRate.mk40_1000005 FxRate.mk40_1000006 FxRate.mk40_1000007 FxRate.mk40_1000000 FxRate.mk41_0 FxRate.mk41_1000001 FxRate.mk41_1000002 FxRate.mk41_1000003 FxRate.mk41_1000004 FxRate.mk41_1000000 FxRate.mk66_1000000 FxRate.dw67_9 FxRate.nc67_9 FxRate.mk67_1000000 FxRate.dw68_5 FxRate.nc68_5 FxRate.dw68_10 FxRate.nc68_10 FxRate.dw68_15 FxRate.nc68_15 FxRate.mk68_0 FxRate.mk68_2 FxRate.mk68_4 FxRate.mk68_1000001 FxRate.mk68_1000002 FxRate.mk68_1000003 FxRate.mk68_1000004 FxRate.mk68_1000005 FxRate.mk68_1000006 FxRate.mk68_1000000 FxRate.mk87_1000001 FxRate.mk87_1000000 FxRate.mk88_1000001 FxRate.mk88_1000000 FxRate.mk89_0 FxRate.mk89_1000001 FxRate.mk89_1000002 FxRate.mk89_1000000 FxRate.mk90_1000000 FxRate.mk91_1000000 FxRate.dw92_10 FxRate.nc92_10 FxRate.mk92_0 FxRate.mk92_2 FxRate.mk92_1000001 FxRate.mk92_1000002 FxRate.mk92_1000003 FxRate.mk92_1000004 FxRate.mk92_1000000 FxRate.mk93_1000001 FxRate.mk93_1000000 FxRate.mk94_1000000 FxRate.mk95_1000000 FxRate.mk128_1000000 FxRate.mk129_0 FxRate.mk129_1000001 FxRate.mk129_1000002 FxRate.mk129_1000000 FxRate.mk130_1000000 FxRate.mk131_0 FxRate.mk131_1000001 FxRate.mk131_1000002 FxRate.mk131_1000000 FxRate.mk150_0 FxRate.mk150_1000001 FxRate.mk150_1000002 FxRate.mk150_1000000
/-- The place of the first that p takes, from i on. -/
def idx {α : Type} (p : α → Bool) : List α → Int → Int
  | [], _ => -1
  | x :: r, i => if p x = true then i else idx p r (i + 1)
theorem idx_none {α : Type} (p : α → Bool) : ∀ (l : List α) (i : Int), l.any p = false → idx p l i = -1
  | [], _, _ => rfl
  | x :: r, i, h => by
    simp only [List.any_cons, Bool.or_eq_false_iff] at h
    rw [idx, if_neg (by simp [h.1])]
    exact idx_none p r (i + 1) h.2
theorem idx_any {α : Type} (p : α → Bool) : ∀ (l : List α) (i : Int), 0 ≤ i → decide (idx p l i ≥ 0) = l.any p
  | [], i, _ => rfl
  | x :: r, i, h => by
    simp only [idx, List.any_cons]
    by_cases hp : p x = true
    · simp [hp, h]
    · simp only [hp, Bool.false_eq_true, if_false, Bool.false_or]; exact idx_any p r (i + 1) (by omega)
/-- What the closure answers at x, if its captured variable says q. -/
def Takes {α : Type} (s : Ev.Spec) (en : α → D) (q : D) (p : α → Bool) (l : List α) : Prop := ∀ x ∈ l, s.run [en x, .ptr q] = some [.bool (p x)]
def hd {α : Type} (en : α → D) (k : Key) (ver : Nat) (l : List α) (i : Nat) : List V := hd131_0 (.d (.sl 37 (l.map en))) (.fn 128 [.p k ver 0 []]) (.d (.int .i64 l.length)) (.d (.int .i64 i))
def R {α : Type} (p : α → Bool) (l : List α) (st : Store) (i : Nat) : Out := if (l.drop i).any p = true then some (.ret, hr131 (.d (.int .i64 (idx p (l.drop i) i))), st) else some (.exit 0, hx131_0, st)
theorem loop {α : Type} (en : α → D) (G : Specs) (s : Ev.Spec) (hG : Ev.look G 128 = some s) (L lv : Nat) (call : Caller) (p : α → Bool) (q : D) (k : Key) (ver : Nat) (l : List α) (st : Store) (hs : Takes s en q p l) (hty : ∀ x, hasT Try.prog 37 (.d (en x)) = true) (h1 : (st k).ver = ver) (h2 : (st k).live = true) (h3 : (st k).vs = [.d q]) (hl : l.length ≤ 4611686018427387904) :
    ∀ (n i : Nat) (env : List V), i ≤ l.length → l.length - i < n → mask (maskOf en131.ms 0) env = hd en k ver l i →
      iter (evC Try.prog G call L en131.ms lv 0 lb131_0) (maskOf en131.ms 0) n env st = R p l st i := by
  refine iter_wf _ _ (fun i => i ≤ l.length) (hd en k ver l) (fun _ => st) (R p l st) (fun i => l.length - i) ?_
  intro i hi kk hk
  by_cases hil : i < l.length
  case neg =>
    obtain rfl : i = l.length := by omega
    have hlt : ¬ (l.length : Int) < l.length := by omega
    simp only [lb131_0, loopN, loops, hd, hd131_0, R, hr131, hx131_0, Try.f131, go_sem, Nat.reduceAdd, Nat.reduceSub, Nat.reduceMul, Nat.reduceEqDiff, Nat.reduceBEq, Nat.reduceLT, Nat.reduceLeDiff, Nat.reducePow, Int.reduceToNat, Int.reduceLT, Int.reduceLE, Int.reduceGT, Int.reduceGE, Int.reduceEq, Int.reduceNeg, Int.reduceAdd, Int.reduceSub, ↓reduceIte, reduceCtorEq, hlt, List.drop_length, List.any_nil]
  have hlt : (i : Int) < l.length := by omega
  have hx : l[i]? = some l[i] := by simp [hil]
  have hdr : l.drop i = l[i] :: l.drop (i + 1) := List.drop_eq_getElem_cons hil
  have hw : IntKind.i64.wrap ((i : Int) + 1) = ((i + 1 : Nat) : Int) := by rw [IntWalk.i64_in _ (by omega)]; rfl
  have h0 : (0 : Int) ≤ (i : Int) := by omega
  have ht : ((i : Int)).toNat = i := by omega
  have hr := hs l[i] (List.getElem_mem _)
  by_cases hp : p l[i] = true
  · have hR : R p l st i = some (.ret, hr131 (.d (.int .i64 i)), st) := by
      rw [R, hdr, List.any_cons, hp, Bool.true_or, if_pos rfl, idx, if_pos hp]
    rw [hR]
    simp only [lb131_0, loopN, loops, hd, hd131_0, hr131, Try.f131, go_sem, Nat.reduceAdd, Nat.reduceSub, Nat.reduceMul, Nat.reduceEqDiff, Nat.reduceBEq, Nat.reduceLT, Nat.reduceLeDiff, Nat.reducePow, Int.reduceToNat, Int.reduceLT, Int.reduceLE, Int.reduceGT, Int.reduceGE, Int.reduceEq, Int.reduceNeg, Int.reduceAdd, Int.reduceSub, ↓reduceIte, reduceCtorEq, hlt, hx, h0, ht, hG, h1, h2, h3, hr, hp, ↓hty]
  · have hp' : p l[i] = false := by simpa using hp
    have hR : R p l st i = R p l st (i + 1) := by
      rw [R, hdr, List.any_cons, hp', Bool.false_or, idx, if_neg hp]; rfl
    rw [hR]
    simp only [lb131_0, loopN, loops, hd, hd131_0, Try.f131, go_sem, Nat.reduceAdd, Nat.reduceSub, Nat.reduceMul, Nat.reduceEqDiff, Nat.reduceBEq, Nat.reduceLT, Nat.reduceLeDiff, Nat.reducePow, Int.reduceToNat, Int.reduceLT, Int.reduceLE, Int.reduceGT, Int.reduceGE, Int.reduceEq, Int.reduceNeg, Int.reduceAdd, Int.reduceSub, ↓reduceIte, reduceCtorEq, hlt, hx, h0, ht, hG, h1, h2, h3, hr, hp', hw, ↓hty]
    exact hk (i + 1) _ (by omega) (by omega) (by simp only [hd, hd131_0, go_sem, Nat.reduceAdd, Nat.reduceSub, Nat.reduceMul, Nat.reduceEqDiff, Nat.reduceBEq, Nat.reduceLT, Nat.reduceLeDiff, Nat.reducePow, Int.reduceToNat, Int.reduceLT, Int.reduceLE, Int.reduceGT, Int.reduceGE, Int.reduceEq, Int.reduceNeg, Int.reduceAdd, Int.reduceSub, ↓reduceIte, reduceCtorEq, hw])
theorem ev {α : Type} (en : α → D) (G : Specs) (T : Table) (hT : T 131 = some en131) (s : Ev.Spec) (hG : Ev.look G 128 = some s) (c lv : Nat) (p : α → Bool) (q : D) (k : Key) (ver : Nat) (l : List α) (st : Store) (hs : Takes s en q p l) (hty : ∀ x, hasT Try.prog 37 (.d (en x)) = true) (h1 : (st k).ver = ver) (h2 : (st k).live = true) (h3 : (st k).vs = [.d q]) (hl : l.length ≤ 4611686018427387904) (L : Nat) (hL : l.length < L) :
    evF Try.prog G T L (c + 1) 131 [.d (.sl 37 (l.map en)), .fn 128 [.p k ver 0 []]] lv st = some (.d (.int .i64 (idx p l 0)), st) := by
  rw [evF_s (hT := hT) (hb := rfl)]
  simp only [Try.f131, go_sem, Nat.reduceAdd, Nat.reduceSub, Nat.reduceMul, Nat.reduceEqDiff, Nat.reduceBEq, Nat.reduceLT, Nat.reduceLeDiff, Nat.reducePow, Int.reduceToNat, Int.reduceLT, Int.reduceLE, Int.reduceGT, Int.reduceGE, Int.reduceEq, Int.reduceNeg, Int.reduceAdd, Int.reduceSub, ↓reduceIte, reduceCtorEq]
  conv in iter _ _ _ _ _ => change iter (evC _ _ _ _ en131.ms _ _ lb131_0) (maskOf en131.ms 0) _ _ _
  rw [loop en G s hG L _ _ p q k ver l st hs hty h1 h2 h3 hl L 0 _ (by omega) (by omega) (by simp only [hd, hd131_0, go_sem, Nat.reduceAdd, Nat.reduceSub, Nat.reduceMul, Nat.reduceEqDiff, Nat.reduceBEq, Nat.reduceLT, Nat.reduceLeDiff, Nat.reducePow, Int.reduceToNat, Int.reduceLT, Int.reduceLE, Int.reduceGT, Int.reduceGE, Int.reduceEq, Int.reduceNeg, Int.reduceAdd, Int.reduceSub, ↓reduceIte, reduceCtorEq])]
  rw [R, List.drop_zero]
  by_cases ha : l.any p = true
  · rw [if_pos ha]
    simp only [hr131, go_sem, Nat.reduceAdd, Nat.reduceSub, Nat.reduceMul, Nat.reduceEqDiff, Nat.reduceBEq, Nat.reduceLT, Nat.reduceLeDiff, Nat.reducePow, Int.reduceToNat, Int.reduceLT, Int.reduceLE, Int.reduceGT, Int.reduceGE, Int.reduceEq, Int.reduceNeg, Int.reduceAdd, Int.reduceSub, ↓reduceIte, reduceCtorEq]
  · rw [if_neg ha]
    have hi : idx p l 0 = -1 := idx_none _ _ _ (by simpa using ha)
    simp only [hx131_0, go_sem, Nat.reduceAdd, Nat.reduceSub, Nat.reduceMul, Nat.reduceEqDiff, Nat.reduceBEq, Nat.reduceLT, Nat.reduceLeDiff, Nat.reducePow, Int.reduceToNat, Int.reduceLT, Int.reduceLE, Int.reduceGT, Int.reduceGE, Int.reduceEq, Int.reduceNeg, Int.reduceAdd, Int.reduceSub, ↓reduceIte, reduceCtorEq, hi]
theorem cf {α : Type} (en : α → D) (G : Specs) (T : Table) (hT : T 131 = some en131) (hU : T 95 = some en95) (s : Ev.Spec) (hN : Ev.look G 131 = none) (hG : Ev.look G 128 = some s) (c lv : Nat) (p : α → Bool) (q : D) (k : Key) (ver : Nat) (l : List α) (st : Store) (hs : Takes s en q p l) (hty : ∀ x, hasT Try.prog 37 (.d (en x)) = true) (h1 : (st k).ver = ver) (h2 : (st k).live = true) (h3 : (st k).vs = [.d q]) (hl : l.length ≤ 4611686018427387904) (L : Nat) (hL : l.length < L) :
    evF Try.prog G T L (c + 2) 95 [.d (.sl 37 (l.map en)), .fn 128 [.p k ver 0 []]] lv st = some (.d (.bool (l.any p)), st) := by
  rw [evF_s (hT := hU) (hb := rfl)]
  have hi := idx_any p l 0 (by omega)
  simp only [Try.f95, go_sem, Nat.reduceAdd, Nat.reduceSub, Nat.reduceMul, Nat.reduceEqDiff, Nat.reduceBEq, Nat.reduceLT, Nat.reduceLeDiff, Nat.reducePow, Int.reduceToNat, Int.reduceLT, Int.reduceLE, Int.reduceGT, Int.reduceGE, Int.reduceEq, Int.reduceNeg, Int.reduceAdd, Int.reduceSub, ↓reduceIte, reduceCtorEq, hN, ev en G T hT s hG c _ p q k ver l st hs hty h1 h2 h3 hl L hL, hi]
end Go.Proofs.YtmhjmjodchbhlaaR.Idx131Rate
