/- spyref3.things: the objects of a sky in order. -/
import Derived.Test.YtmhjmjodchbhlaaRFaultRate
import Derived.Test.YtmhjmjodchbhlaaRFxRate
set_option linter.unusedVariables false
set_option linter.unusedSimpArgs false
set_option maxRecDepth 100000
namespace Go.Proofs.YtmhjmjodchbhlaaR.ThingsRate
open Go.Ev Go.Ari Go.Proofs.YtmhjmjodchbhlaaR.FxRate Go.Proofs.YtmhjmjodchbhlaaR.PullPull Go.Proofs.YtmhjmjodchbhlaaR.TypesRate Go.Proofs.YtmhjmjodchbhlaaR.FaultRate
open Go.Proofs.YtmhjmjodchbhlaaR.PathPath (Bod bD cBod)
attribute [local go_sem] Ev.putR_s Ev.putR_0 Ev.thenO_s Ev.thenO_0 Ev.seqR_n Ev.seqR_e Ev.seqR_r Ev.seqR_0 Ev.blkR_e Ev.blkR_n Ev.blkR_r Ev.blkR_0 Ev.normR_s Ev.normR_0 Ev.outR_r Ev.outR_n Ev.outR_0 Ev.retS_s Ev.retS_0 Ev.pureO_s Ev.pureO_0 Ev.topR_0 Ev.topR_t Ev.topR_t0 Ev.oneL_0 Ev.oneL_s Ev.topR_d Ev.topR_nils Ev.topR_agg Ev.topR_rs Ev.evOp_move Ev.evOp_assign Ev.evOp_pick Ev.evOp_alloc Ev.evOp_box Ev.evOp_build Ev.evOp_buildSlice Ev.evOp_load Ev.evOp_store Ev.evOp_makeMap Ev.evOp_lookup Ev.evOp_mapUpdate Ev.evOp_insert Ev.evOp_nilCheck Ev.evOp_binOp Ev.evOp_unOp Ev.evOp_convert Ev.evOp_makeFunc Ev.evOp_makeSlice Ev.evOp_slice Ev.evOp_fieldAddr Ev.evOp_field Ev.evOp_indexAddr Ev.evOp_index Ev.evOp_extract Ev.evOp_call Ev.evOp_append Ev.evOp_len Ev.evOp_min Ev.evOp_max Ev.condR_b Ev.condR_t Ev.evOps_nil Ev.evOps_plain Ev.evOps_guard Ev.runG_eq Ev.skipG_eq Ev.condL_tt Ev.condL_ff Ev.condL_tf Ev.condL_ft Ev.condL_u Ev.condC_t Ev.condC_f Ev.evC_skip Ev.evC_ret Ev.evC_exit Ev.evC_label Ev.evC_region Ev.evC_draw Ev.evC_seq Ev.evC_cond Ev.evC_block Ev.evC_loop Ev.fin_d Ev.fin_nils Ev.fin_agg_ Ev.fin_rs Ev.finS_s Ev.mapO_fin Ev.upd_upd Ev.argv_d Ev.argv_nils Ev.argv_agg Ev.argv_rs Ev.argv_p Ev.appendTo_nils Ev.appendTo_rs Ev.consV_d Ev.consV_agg Ev.consV_p Ev.consV_rs Ev.consV_nils Ev.consV_fn Ev.consV_und Ev.consV_jk Ev.consV_grown Ev.topR_grown Ev.len_grown Ev.consV_mp Ev.sameK_i Ev.sameK_s Ev.mget_0 Ev.mget_hit Ev.mget_miss Ev.mput_0 Ev.mput_hit Ev.mput_miss Ev.apartAll Ev.apartL Ev.apartV Ev.freeAll Ev.sel Ev.keyOfV Ev.evLookup Ev.evPut Ev.hintOk Ev.keyOk Ev.consP Ev.lookV Ev.guardV Ev.dstAt Ev.evPure Ev.evStore Ev.evPureB Ev.evBin Ev.evBinO Ev.evNil Ev.isNilC Ev.evUn Ev.evConv Ev.evSlice Ev.optI Ev.lenV Ev.elemT Ev.foldI Ev.capsOk Ev.noTup Ev.nth Ev.setN Ev.pad Ev.V.get Ev.V.put Ev.putD Ev.hasT Ev.newBlk Ev.upd Ev.keq Ev.empty Ev.evCall Ev.V.args Ev.argP Ev.callOf Ev.evNilP Ev.isNilP Ev.look Ev.V.view.views Ev.V.view Ev.V.toD Ev.V.toD.V.toDs Ev.V.pure.pures Ev.V.pure Ev.D.flat.flats Ev.D.flat Ev.mkAgg Ev.allD Ev.aggParts Ev.setParts Ev.setElems Ev.getPath Ev.setPath Ev.subL Ev.eqD Ev.eqD.eqDs Ev.and2 Ev.strCut Ev.evalT Ev.constT Ev.evArgs Ev.mask Ev.maskOf Ev.tableOf Ev.compT Ev.resV Ev.retV Ev.mapO Ev.elemsOf Int.cast_ofNat_Int IntWalk.i64_in IntWalk.u64_in IntWalk.u8_in beq_self_eq_true Bool.true_beq Bool.false_beq Bool.and_true Bool.true_and Bool.false_and Bool.and_false Bool.and_self Bool.not_true Bool.not_false Bool.not_eq_true cond_true cond_false if_true if_false and_true true_and and_self decide_true decide_false Bool.or_true Bool.true_or Bool.or_false Bool.false_or List.isEmpty List.isEmpty_nil List.size_toArray List.map List.length_map List.length_cons List.length_nil Option.map Option.bind Option.getD Option.isSome List.replicate Bool.false_eq_true implies_true forall_const Array.toList Array.isEmpty List.append List.nil_append List.cons_append List.drop_zero List.take_length List.take_succ_cons List.take_zero List.take_nil List.getElem?_map List.getElem?_cons_zero List.getElem?_cons_succ List.getElem?_nil List.append_nil
attribute [local go_sem] FxRate.tk2 FxRate.ik2 FxRate.ek2 FxRate.zv2 FxRate.tk3 FxRate.ik3 FxRate.ek3 FxRate.zv3 FxRate.by3 FxRate.so3 FxRate.tk4 FxRate.ub4 FxRate.zv4 FxRate.tk23 FxRate.ct23 FxRate.ek23 FxRate.zv23 FxRate.tk27 FxRate.ik27 FxRate.zv27 FxRate.tk37 FxRate.ik37 FxRate.zv37 FxRate.by37 FxRate.so37 FxRate.tk39 FxRate.ct39 FxRate.zv39 FxRate.by39 FxRate.so39 FxRate.tk43 FxRate.zv43 FxRate.tk44 FxRate.zv44 FxRate.tk45 FxRate.zv45 FxRate.tk47 FxRate.ct47 FxRate.zv47 FxRate.tk48 FxRate.ik48 FxRate.zv48 FxRate.by48 FxRate.so48 FxRate.tk74 FxRate.zv74 FxRate.tk76 FxRate.ct76 FxRate.zv76 FxRate.by76 FxRate.so76 FxRate.tk77 FxRate.zv77 FxRate.tk79 FxRate.ct79 FxRate.zv79 FxRate.by79 FxRate.so79 FxRate.tk108 FxRate.zv108 FxRate.tk110 FxRate.ek110 FxRate.zv110 FxRate.tk111 FxRate.ek111 FxRate.zv111 FxRate.tk112 FxRate.zv112 FxRate.tk114 FxRate.ct114 FxRate.zv114 FxRate.by114 FxRate.so114 FxRate.tk136 FxRate.mt136 FxRate.sm136 FxRate.zw4 FxRate.zv136 FxRate.tk141 FxRate.zv141 FxRate.tk145 FxRate.zv145 FxRate.tk161 FxRate.ct161 FxRate.zv161 FxRate.tk182 FxRate.zv182 FxRate.mk7_1000000 FxRate.mk24_0 FxRate.mk24_2 FxRate.mk24_4 FxRate.mk24_1000001 FxRate.mk24_1000002 FxRate.mk24_1000003 FxRate.mk24_1000004 FxRate.mk24_1000005 FxRate.mk24_1000006 FxRate.mk24_1000000 FxRate.dw25_19 FxRate.nc25_19 FxRate.mk25_0 FxRate.mk25_2 FxRate.mk25_1000001 FxRate.mk25_1000002 FxRate.mk25_1000003 FxRate.mk25_1000004 FxRate.mk25_1000000 FxRate.mk40_0 FxRate.mk40_2 FxRate.mk40_4 FxRate.mk40_1000001 FxRate.mk40_1000002 FxRate.mk40_1000003 FxRate.mk40_1000004 FxRate.mk40_1000005 FxRate.mk40_1000006 FxRate.mk40_1000007 FxRate.mk40_1000000 FxRate.mk41_0 FxRate.mk41_1000001 FxRate.mk41_1000002 FxRate.mk41_1000003 FxRate.mk41_1000004 FxRate.mk41_1000000 FxRate.mk66_1000000 FxRate.dw67_9 FxRate.nc67_9 FxRate.mk67_1000000 FxRate.dw68_5 FxRate.nc68_5 FxRate.dw68_10 FxRate.nc68_10 FxRate.dw68_15 FxRate.nc68_15 FxRate.mk68_0 FxRate.mk68_2 FxRate.mk68_4 FxRate.mk68_1000001 FxRate.mk68_1000002 FxRate.mk68_1000003 FxRate.mk68_1000004 FxRate.mk68_1000005 FxRate.mk68_1000006 FxRate.mk68_1000000 FxRate.mk87_1000001 FxRate.mk87_1000000 FxRate.mk88_1000001 FxRate.mk88_1000000 FxRate.mk89_0 FxRate.mk89_1000001 FxRate.mk89_1000002 FxRate.mk89_1000000 FxRate.mk90_1000000 FxRate.mk91_1000000 FxRate.dw92_10 FxRate.nc92_10 FxRate.mk92_0 FxRate.mk92_2 FxRate.mk92_1000001 FxRate.mk92_1000002 FxRate.mk92_1000003 FxRate.mk92_1000004 FxRate.mk92_1000000 FxRate.mk93_1000001 FxRate.mk93_1000000 FxRate.mk94_1000000 FxRate.mk95_1000000 FxRate.mk128_1000000 FxRate.mk129_0 FxRate.mk129_1000001 FxRate.mk129_1000002 FxRate.mk129_1000000 FxRate.mk130_1000000 FxRate.mk131_0 FxRate.mk131_1000001 FxRate.mk131_1000002 FxRate.mk131_1000000 FxRate.mk150_0 FxRate.mk150_1000001 FxRate.mk150_1000002 FxRate.mk150_1000000
def thD : Thing → D
  | .st s => .agg 114 [.int .i64 s.id, .int .i64 s.rate, .ptr s.D, .np, .np]
  | .ga g => .agg 114 [.int .i64 g.id, .int .i64 g.rate, .np, .ptr g.D, .np]
  | .bo b => .agg 114 [.int .i64 b.1, .int .i64 b.2.2.2, .np, .np, .ptr (bD b)]
def small (s : Sky) : Prop := s.stars.length ≤ 1048576 ∧ s.gals.length ≤ 1048576 ∧ s.bods.length ≤ 1048576
noncomputable def sThings : Ev.Spec := specC (cOne cSky) small fun s => [.sl 114 ((things s).map thD)]
noncomputable def T : Table := tableOf [(68, en68)]
theorem T_ok : TableOk Try.prog (([] : Specs).map (·.1)) T := (table_cons Try.func68 (by kernel_rfl) (by kernel_rfl) table_nil)
def pre (s : Sky) (n : Nat) : List V := ((things s).take n).map fun o => .d (thD o)
theorem pre_len {s : Sky} {n : Nat} (h : n ≤ (things s).length) : (pre s n).length = n := by unfold pre; rw [List.length_map, List.length_take]; omega
theorem pre_step {s : Sky} {n : Nat} {o : Thing} (h : (things s)[n]? = some o) : pre s n ++ [.d (thD o)] = pre s (n + 1) := by
  unfold pre
  rw [List.take_add_one, h]; simp
theorem th_st {s : Sky} {i : Nat} (h : i < s.stars.length) : (things s)[i]? = some (.st s.stars[i]) := by
  unfold things
  rw [List.getElem?_append_left (by simp; omega)]; simp [h]
theorem th_ga {s : Sky} {i : Nat} (h : i < s.gals.length) : (things s)[s.stars.length + i]? = some (.ga s.gals[i]) := by
  unfold things
  rw [List.getElem?_append_right (by simp), List.getElem?_append_left (by simp; omega)]; simp [h]
theorem th_bo {s : Sky} {i : Nat} (h : i < s.bods.length) : (things s)[s.stars.length + s.gals.length + i]? = some (.bo s.bods[i]) := by
  unfold things
  rw [List.getElem?_append_right (by simp; omega), List.getElem?_append_right (by simp; omega)]
  simp only [List.length_map]
  rw [show s.stars.length + s.gals.length + i - s.stars.length - s.gals.length = i by omega]; simp [h]
def box (s : Sky) : Blk := ⟨1, 47, [.d s.D], true⟩
def p1 : V := .p (0, 1) 1 0 []
/-! ### the stars -/
def J0 (s : Sky) (x : Nat × Store) : Prop := x.1 ≤ s.stars.length ∧ x.2 (0, 1) = box s ∧ GrownB (x.2 (0, 29)) 114 (pre s x.1) ∧ (x.2 (0, 50)).ver = 0 ∧ (x.2 (0, 71)).ver = 0
def h0 (s : Sky) (i : Nat) : List V := hd68_0 p1 (grown 114 (0, 29) i) (.d (.sl 79 (s.stars.map Star.D))) (.d (.int .i64 s.stars.length)) (.d (.int .i64 i))
def Q0 (s : Sky) (x : Nat × Store) (o : Out) : Prop := ∃ st', o = some (.exit 0, hx68_0 p1 (grown 114 (0, 29) s.stars.length), st') ∧ J0 s (s.stars.length, st')
theorem loop0 (L : Nat) (call : Caller) (s : Sky) (hs : small s) :
    ∀ (m : Nat) (x : Nat × Store) (env : List V), J0 s x → s.stars.length - x.1 < m → mask (maskOf en68.ms 0) env = h0 s x.1 →
      Q0 s x (iter (evC Try.prog [] call L en68.ms 0 0 lb68_0) (maskOf en68.ms 0) m env x.2) := by
  refine iter_rel _ _ (J0 s) (fun x => h0 s x.1) (fun x => x.2) (Q0 s) (fun x => s.stars.length - x.1) ?_
  rintro ⟨i, st⟩ ⟨hi, q1, qg, q50, q71⟩ k hk
  obtain ⟨hs1, hs2, hs3⟩ := hs
  simp only at hi q1 qg q50 q71
  have hlen := things_len s
  by_cases hin : i < s.stars.length
  case neg =>
    obtain rfl : i = s.stars.length := by omega
    have hlt : ¬ (s.stars.length : Int) < s.stars.length := by omega
    refine ⟨st, ?_, hi, q1, qg, q50, q71⟩
    simp only [lb68_0, loopN, loops, h0, p1, hd68_0, hx68_0, Try.f68, go_sem, Nat.reduceAdd, Nat.reduceSub, Nat.reduceMul, Nat.reduceEqDiff, Nat.reduceBEq, Nat.reduceLT, Nat.reduceLeDiff, Nat.reducePow, Int.reduceToNat, Int.reduceLT, Int.reduceLE, Int.reduceGT, Int.reduceGE, Int.reduceEq, Int.reduceNeg, Int.reduceAdd, Int.reduceSub, ↓reduceIte, reduceCtorEq, hlt]
  have hlt : (i : Int) < s.stars.length := by omega
  have hx : s.stars[i]? = some s.stars[i] := by simp [hin]
  have g0 : (0 : Int) ≤ (i : Int) := by omega
  have ht : ((i : Int)).toNat = i := by omega
  have hw : IntKind.i64.wrap ((i : Int) + 1) = ((i + 1 : Nat) : Int) := by rw [IntWalk.i64_in _ (by omega)]; rfl
  have hm1 : 1 ≤ maxRow := by unfold maxRow; omega
  have hstp := pre_step (th_st hin)
  simp only [thD, Star.D] at hstp
  have ha := fun st' => appendTo_g (P := Try.prog) (lv := 0) (d := 29) (e := 114) (vs := pre s i) (new := [.d (thD (.st s.stars[i]))]) (n := i) (pre_len (by omega)) rfl (by unfold maxRow; omega) (by simp only [go_sem, Nat.reduceAdd, Nat.reduceSub, Nat.reduceMul, Nat.reduceEqDiff, Nat.reduceBEq, Nat.reduceLT, Nat.reduceLeDiff, Nat.reducePow, Int.reduceToNat, Int.reduceLT, Int.reduceLE, Int.reduceGT, Int.reduceGE, Int.reduceEq, Int.reduceNeg, Int.reduceAdd, Int.reduceSub, ↓reduceIte, reduceCtorEq]; unfold maxRow; omega) st'
  simp only [thD, Star.D, hstp] at ha
  have hstep := fun st1 env h1 h2 h3 => (hk (i + 1, st1) env h1 h2 h3 : Q0 s (i + 1, st1) _)
  simp only [lb68_0, loopN, loops, h0, p1, hd68_0, Try.f68, go_sem, Nat.reduceAdd, Nat.reduceSub, Nat.reduceMul, Nat.reduceEqDiff, Nat.reduceBEq, Nat.reduceLT, Nat.reduceLeDiff, Nat.reducePow, Int.reduceToNat, Int.reduceLT, Int.reduceLE, Int.reduceGT, Int.reduceGE, Int.reduceEq, Int.reduceNeg, Int.reduceAdd, Int.reduceSub, ↓reduceIte, reduceCtorEq, hlt, q1, box, Sky.D, Star.D, hx, g0, ht, hm1, ha, qg, hw]
  exact hstep _ _ ⟨by simp only; omega, by simp only [go_sem, Nat.reduceAdd, Nat.reduceSub, Nat.reduceMul, Nat.reduceEqDiff, Nat.reduceBEq, Nat.reduceLT, Nat.reduceLeDiff, Nat.reducePow, Int.reduceToNat, Int.reduceLT, Int.reduceLE, Int.reduceGT, Int.reduceGE, Int.reduceEq, Int.reduceNeg, Int.reduceAdd, Int.reduceSub, ↓reduceIte, reduceCtorEq, q1, box], by simp only [go_sem, Nat.reduceAdd, Nat.reduceSub, Nat.reduceMul, Nat.reduceEqDiff, Nat.reduceBEq, Nat.reduceLT, Nat.reduceLeDiff, Nat.reducePow, Int.reduceToNat, Int.reduceLT, Int.reduceLE, Int.reduceGT, Int.reduceGE, Int.reduceEq, Int.reduceNeg, Int.reduceAdd, Int.reduceSub, ↓reduceIte, reduceCtorEq]; exact GrownB_put _ _ _ (pre_len (by omega)), by simp only [go_sem, Nat.reduceAdd, Nat.reduceSub, Nat.reduceMul, Nat.reduceEqDiff, Nat.reduceBEq, Nat.reduceLT, Nat.reduceLeDiff, Nat.reducePow, Int.reduceToNat, Int.reduceLT, Int.reduceLE, Int.reduceGT, Int.reduceGE, Int.reduceEq, Int.reduceNeg, Int.reduceAdd, Int.reduceSub, ↓reduceIte, reduceCtorEq, q50], by simp only [go_sem, Nat.reduceAdd, Nat.reduceSub, Nat.reduceMul, Nat.reduceEqDiff, Nat.reduceBEq, Nat.reduceLT, Nat.reduceLeDiff, Nat.reducePow, Int.reduceToNat, Int.reduceLT, Int.reduceLE, Int.reduceGT, Int.reduceGE, Int.reduceEq, Int.reduceNeg, Int.reduceAdd, Int.reduceSub, ↓reduceIte, reduceCtorEq, q71]⟩ (by simp only; omega) (by simp only [h0, p1, hd68_0, Star.D, go_sem, Nat.reduceAdd, Nat.reduceSub, Nat.reduceMul, Nat.reduceEqDiff, Nat.reduceBEq, Nat.reduceLT, Nat.reduceLeDiff, Nat.reducePow, Int.reduceToNat, Int.reduceLT, Int.reduceLE, Int.reduceGT, Int.reduceGE, Int.reduceEq, Int.reduceNeg, Int.reduceAdd, Int.reduceSub, ↓reduceIte, reduceCtorEq, hw])
/-! ### the gals -/
def J1 (s : Sky) (k : Key) (x : Nat × Store) : Prop := x.1 ≤ s.gals.length ∧ x.2 (0, 1) = box s ∧ GrownB (x.2 k) 114 (pre s (s.stars.length + x.1)) ∧ (x.2 (0, 71)).ver = 0
def h1 (s : Sky) (k : Key) (i : Nat) : List V := hd68_2 p1 (grown 114 k (s.stars.length + i)) (.d (.sl 76 (s.gals.map Gal.D))) (.d (.int .i64 s.gals.length)) (.d (.int .i64 i))
def Q1 (s : Sky) (k : Key) (x : Nat × Store) (o : Out) : Prop := ∃ st', o = some (.exit 2, hx68_2 p1 (grown 114 k (s.stars.length + s.gals.length)), st') ∧ J1 s k (s.gals.length, st')
theorem loop1 (L : Nat) (call : Caller) (s : Sky) (hs : small s) (k : Key) (hk : k = (0, 29) ∨ k = (0, 50)) (hk0 : s.stars.length = 0 → k = (0, 50)) :
    ∀ (m : Nat) (x : Nat × Store) (env : List V), J1 s k x → s.gals.length - x.1 < m → mask (maskOf en68.ms 2) env = h1 s k x.1 →
      Q1 s k x (iter (evC Try.prog [] call L en68.ms 0 2 lb68_2) (maskOf en68.ms 2) m env x.2) := by
  refine iter_rel _ _ (J1 s k) (fun x => h1 s k x.1) (fun x => x.2) (Q1 s k) (fun x => s.gals.length - x.1) ?_
  rintro ⟨i, st⟩ ⟨hi, q1, qg, q71⟩ kk hkk
  obtain ⟨hs1, hs2, hs3⟩ := hs
  simp only at hi q1 qg q71
  have hlen := things_len s
  by_cases hin : i < s.gals.length
  case neg =>
    obtain rfl : i = s.gals.length := by omega
    have hlt : ¬ (s.gals.length : Int) < s.gals.length := by omega
    refine ⟨st, ?_, hi, q1, qg, q71⟩
    simp only [lb68_2, loopN, loops, h1, p1, hd68_2, hx68_2, Try.f68, go_sem, Nat.reduceAdd, Nat.reduceSub, Nat.reduceMul, Nat.reduceEqDiff, Nat.reduceBEq, Nat.reduceLT, Nat.reduceLeDiff, Nat.reducePow, Int.reduceToNat, Int.reduceLT, Int.reduceLE, Int.reduceGT, Int.reduceGE, Int.reduceEq, Int.reduceNeg, Int.reduceAdd, Int.reduceSub, ↓reduceIte, reduceCtorEq, hlt]
  have hlt : (i : Int) < s.gals.length := by omega
  have hx : s.gals[i]? = some s.gals[i] := by simp [hin]
  have g0 : (0 : Int) ≤ (i : Int) := by omega
  have ht : ((i : Int)).toNat = i := by omega
  have hw : IntKind.i64.wrap ((i : Int) + 1) = ((i + 1 : Nat) : Int) := by rw [IntWalk.i64_in _ (by omega)]; rfl
  have hm1 : 1 ≤ maxRow := by unfold maxRow; omega
  have hstp : pre s (s.stars.length + i) ++ [.d (thD (.ga s.gals[i]))] = pre s (s.stars.length + (i + 1)) := pre_step (th_ga hin)
  have ha : ∀ st' : Store, GrownB (st' k) 114 (pre s (s.stars.length + i)) → appendTo Try.prog 0 50 st' 114 (grown 114 k (s.stars.length + i)) [.d (thD (.ga s.gals[i]))] = some (grown 114 k (s.stars.length + (i + 1)), upd st' k ⟨s.stars.length + (i + 1), 114, pre s (s.stars.length + i) ++ [.d (thD (.ga s.gals[i]))], true⟩) := fun st' hg =>
    appendTo_k (pre_len (by omega)) (fun h => hk0 (by omega)) rfl (by unfold maxRow; omega) (by simp only [go_sem, Nat.reduceAdd, Nat.reduceSub, Nat.reduceMul, Nat.reduceEqDiff, Nat.reduceBEq, Nat.reduceLT, Nat.reduceLeDiff, Nat.reducePow, Int.reduceToNat, Int.reduceLT, Int.reduceLE, Int.reduceGT, Int.reduceGE, Int.reduceEq, Int.reduceNeg, Int.reduceAdd, Int.reduceSub, ↓reduceIte, reduceCtorEq]; unfold maxRow; omega) st' hg
  simp only [hstp] at ha
  simp only [thD, Gal.D] at ha
  have hgl : GrownB ⟨s.stars.length + (i + 1), 114, pre s (s.stars.length + (i + 1)), true⟩ 114 (pre s (s.stars.length + (i + 1))) := GrownB_put _ _ _ (pre_len (by omega))
  have hstep := fun st1 env h1 h2 h3 => (hkk (i + 1, st1) env h1 h2 h3 : Q1 s k (i + 1, st1) _)
  rcases hk with rfl | rfl
  all_goals
    simp only [lb68_2, loopN, loops, h1, p1, hd68_2, Try.f68, go_sem, Nat.reduceAdd, Nat.reduceSub, Nat.reduceMul, Nat.reduceEqDiff, Nat.reduceBEq, Nat.reduceLT, Nat.reduceLeDiff, Nat.reducePow, Int.reduceToNat, Int.reduceLT, Int.reduceLE, Int.reduceGT, Int.reduceGE, Int.reduceEq, Int.reduceNeg, Int.reduceAdd, Int.reduceSub, ↓reduceIte, reduceCtorEq, hlt, q1, box, Sky.D, Gal.D, hx, g0, ht, hm1, ha, qg, hw]
    exact hstep _ _ ⟨by simp only; omega, by simp only [go_sem, Nat.reduceAdd, Nat.reduceSub, Nat.reduceMul, Nat.reduceEqDiff, Nat.reduceBEq, Nat.reduceLT, Nat.reduceLeDiff, Nat.reducePow, Int.reduceToNat, Int.reduceLT, Int.reduceLE, Int.reduceGT, Int.reduceGE, Int.reduceEq, Int.reduceNeg, Int.reduceAdd, Int.reduceSub, ↓reduceIte, reduceCtorEq, q1, box], by simp only [go_sem, Nat.reduceAdd, Nat.reduceSub, Nat.reduceMul, Nat.reduceEqDiff, Nat.reduceBEq, Nat.reduceLT, Nat.reduceLeDiff, Nat.reducePow, Int.reduceToNat, Int.reduceLT, Int.reduceLE, Int.reduceGT, Int.reduceGE, Int.reduceEq, Int.reduceNeg, Int.reduceAdd, Int.reduceSub, ↓reduceIte, reduceCtorEq]; exact hgl, by simp only [go_sem, Nat.reduceAdd, Nat.reduceSub, Nat.reduceMul, Nat.reduceEqDiff, Nat.reduceBEq, Nat.reduceLT, Nat.reduceLeDiff, Nat.reducePow, Int.reduceToNat, Int.reduceLT, Int.reduceLE, Int.reduceGT, Int.reduceGE, Int.reduceEq, Int.reduceNeg, Int.reduceAdd, Int.reduceSub, ↓reduceIte, reduceCtorEq, q71]⟩ (by simp only; omega) (by simp only [h1, p1, hd68_2, Gal.D, go_sem, Nat.reduceAdd, Nat.reduceSub, Nat.reduceMul, Nat.reduceEqDiff, Nat.reduceBEq, Nat.reduceLT, Nat.reduceLeDiff, Nat.reducePow, Int.reduceToNat, Int.reduceLT, Int.reduceLE, Int.reduceGT, Int.reduceGE, Int.reduceEq, Int.reduceNeg, Int.reduceAdd, Int.reduceSub, ↓reduceIte, reduceCtorEq, hw])
/-! ### the bods -/
def J2 (s : Sky) (k : Key) (x : Nat × Store) : Prop := x.1 ≤ s.bods.length ∧ x.2 (0, 1) = box s ∧ GrownB (x.2 k) 114 (pre s (s.stars.length + s.gals.length + x.1))
def h2 (s : Sky) (k : Key) (i : Nat) : List V := hd68_4 p1 (grown 114 k (s.stars.length + s.gals.length + i)) (.d (.sl 39 (s.bods.map bD))) (.d (.int .i64 s.bods.length)) (.d (.int .i64 i))
def Q2 (s : Sky) (k : Key) (x : Nat × Store) (o : Out) : Prop := ∃ st', o = some (.exit 4, hx68_4 (grown 114 k (s.stars.length + s.gals.length + s.bods.length)), st') ∧ J2 s k (s.bods.length, st')
theorem loop2 (L : Nat) (call : Caller) (s : Sky) (hs : small s) (k : Key) (hk : k = (0, 29) ∨ k = (0, 50) ∨ k = (0, 71)) (hk0 : s.stars.length + s.gals.length = 0 → k = (0, 71)) :
    ∀ (m : Nat) (x : Nat × Store) (env : List V), J2 s k x → s.bods.length - x.1 < m → mask (maskOf en68.ms 4) env = h2 s k x.1 →
      Q2 s k x (iter (evC Try.prog [] call L en68.ms 0 4 lb68_4) (maskOf en68.ms 4) m env x.2) := by
  refine iter_rel _ _ (J2 s k) (fun x => h2 s k x.1) (fun x => x.2) (Q2 s k) (fun x => s.bods.length - x.1) ?_
  rintro ⟨i, st⟩ ⟨hi, q1, qg⟩ kk hkk
  obtain ⟨hs1, hs2, hs3⟩ := hs
  simp only at hi q1 qg
  have hlen := things_len s
  by_cases hin : i < s.bods.length
  case neg =>
    obtain rfl : i = s.bods.length := by omega
    have hlt : ¬ (s.bods.length : Int) < s.bods.length := by omega
    refine ⟨st, ?_, hi, q1, qg⟩
    simp only [lb68_4, loopN, loops, h2, p1, hd68_4, hx68_4, Try.f68, go_sem, Nat.reduceAdd, Nat.reduceSub, Nat.reduceMul, Nat.reduceEqDiff, Nat.reduceBEq, Nat.reduceLT, Nat.reduceLeDiff, Nat.reducePow, Int.reduceToNat, Int.reduceLT, Int.reduceLE, Int.reduceGT, Int.reduceGE, Int.reduceEq, Int.reduceNeg, Int.reduceAdd, Int.reduceSub, ↓reduceIte, reduceCtorEq, hlt]
  have hlt : (i : Int) < s.bods.length := by omega
  have hx : s.bods[i]? = some s.bods[i] := by simp [hin]
  have g0 : (0 : Int) ≤ (i : Int) := by omega
  have ht : ((i : Int)).toNat = i := by omega
  have hw : IntKind.i64.wrap ((i : Int) + 1) = ((i + 1 : Nat) : Int) := by rw [IntWalk.i64_in _ (by omega)]; rfl
  have hm1 : 1 ≤ maxRow := by unfold maxRow; omega
  have hstp : pre s (s.stars.length + s.gals.length + i) ++ [.d (thD (.bo s.bods[i]))] = pre s (s.stars.length + s.gals.length + (i + 1)) := pre_step (th_bo hin)
  have ha : ∀ st' : Store, GrownB (st' k) 114 (pre s (s.stars.length + s.gals.length + i)) → appendTo Try.prog 0 71 st' 114 (grown 114 k (s.stars.length + s.gals.length + i)) [.d (thD (.bo s.bods[i]))] = some (grown 114 k (s.stars.length + s.gals.length + (i + 1)), upd st' k ⟨s.stars.length + s.gals.length + (i + 1), 114, pre s (s.stars.length + s.gals.length + i) ++ [.d (thD (.bo s.bods[i]))], true⟩) := fun st' hg =>
    appendTo_k (pre_len (by omega)) (fun h => hk0 (by omega)) rfl (by unfold maxRow; omega) (by simp only [go_sem, Nat.reduceAdd, Nat.reduceSub, Nat.reduceMul, Nat.reduceEqDiff, Nat.reduceBEq, Nat.reduceLT, Nat.reduceLeDiff, Nat.reducePow, Int.reduceToNat, Int.reduceLT, Int.reduceLE, Int.reduceGT, Int.reduceGE, Int.reduceEq, Int.reduceNeg, Int.reduceAdd, Int.reduceSub, ↓reduceIte, reduceCtorEq]; unfold maxRow; omega) st' hg
  simp only [hstp] at ha
  simp only [thD, bD] at ha
  have hgl : GrownB ⟨s.stars.length + s.gals.length + (i + 1), 114, pre s (s.stars.length + s.gals.length + (i + 1)), true⟩ 114 (pre s (s.stars.length + s.gals.length + (i + 1))) := GrownB_put _ _ _ (pre_len (by omega))
  have hstep := fun st1 env h1 h2 h3 => (hkk (i + 1, st1) env h1 h2 h3 : Q2 s k (i + 1, st1) _)
  rcases hk with rfl | rfl | rfl
  all_goals
    simp only [lb68_4, loopN, loops, h2, p1, hd68_4, Try.f68, go_sem, Nat.reduceAdd, Nat.reduceSub, Nat.reduceMul, Nat.reduceEqDiff, Nat.reduceBEq, Nat.reduceLT, Nat.reduceLeDiff, Nat.reducePow, Int.reduceToNat, Int.reduceLT, Int.reduceLE, Int.reduceGT, Int.reduceGE, Int.reduceEq, Int.reduceNeg, Int.reduceAdd, Int.reduceSub, ↓reduceIte, reduceCtorEq, hlt, q1, box, Sky.D, bD, hx, g0, ht, hm1, ha, qg, hw]
    exact hstep _ _ ⟨by simp only; omega, by simp only [go_sem, Nat.reduceAdd, Nat.reduceSub, Nat.reduceMul, Nat.reduceEqDiff, Nat.reduceBEq, Nat.reduceLT, Nat.reduceLeDiff, Nat.reducePow, Int.reduceToNat, Int.reduceLT, Int.reduceLE, Int.reduceGT, Int.reduceGE, Int.reduceEq, Int.reduceNeg, Int.reduceAdd, Int.reduceSub, ↓reduceIte, reduceCtorEq, q1, box], by simp only [go_sem, Nat.reduceAdd, Nat.reduceSub, Nat.reduceMul, Nat.reduceEqDiff, Nat.reduceBEq, Nat.reduceLT, Nat.reduceLeDiff, Nat.reducePow, Int.reduceToNat, Int.reduceLT, Int.reduceLE, Int.reduceGT, Int.reduceGE, Int.reduceEq, Int.reduceNeg, Int.reduceAdd, Int.reduceSub, ↓reduceIte, reduceCtorEq]; exact hgl⟩ (by simp only; omega) (by simp only [h2, p1, hd68_4, bD, go_sem, Nat.reduceAdd, Nat.reduceSub, Nat.reduceMul, Nat.reduceEqDiff, Nat.reduceBEq, Nat.reduceLT, Nat.reduceLeDiff, Nat.reducePow, Int.reduceToNat, Int.reduceLT, Int.reduceLE, Int.reduceGT, Int.reduceGE, Int.reduceEq, Int.reduceNeg, Int.reduceAdd, Int.reduceSub, ↓reduceIte, reduceCtorEq, hw])
/-! ### all of them -/
theorem loop_then {R : Out → Prop} {o : Out} {P : Program} {rs : List ResultVar} {id : Nat} {k : Run} {res : Option (List D)} (hR : R o) (h : ∀ o, R o → topR (outR P rs (seqR (blkR id o) k)) = res) : topR (outR P rs (seqR (blkR id o) k)) = res := h o hR
theorem grown_0 (e : TypeId) (k k' : Key) : grown e k 0 = grown e k' 0 := rfl
theorem e (s : Sky) (hs : small s) : evTop Try.prog [] T (s.stars.length + s.gals.length + s.bods.length + 1) 1 68 [s.D] = some [.sl 114 ((things s).map thD)] := by
  have hlen := things_len s
  unfold evTop
  simp only [List.map]
  rw [evF_s (fn := Try.f68) (msk := en68.ms) (hT := by rfl) (hb := by rfl)]
  simp only [Try.f68, go_sem, Nat.reduceAdd, Nat.reduceSub, Nat.reduceMul, Nat.reduceEqDiff, Nat.reduceBEq, Nat.reduceLT, Nat.reduceLeDiff, Nat.reducePow, Int.reduceToNat, Int.reduceLT, Int.reduceLE, Int.reduceGT, Int.reduceGE, Int.reduceEq, Int.reduceNeg, Int.reduceAdd, Int.reduceSub, ↓reduceIte, reduceCtorEq, Sky.D]
  refine loop_then (R := Q0 s (0, _)) (loop0 _ _ s hs _ (0, _) _ ⟨by simp only; omega, by simp only [go_sem, Nat.reduceAdd, Nat.reduceSub, Nat.reduceMul, Nat.reduceEqDiff, Nat.reduceBEq, Nat.reduceLT, Nat.reduceLeDiff, Nat.reducePow, Int.reduceToNat, Int.reduceLT, Int.reduceLE, Int.reduceGT, Int.reduceGE, Int.reduceEq, Int.reduceNeg, Int.reduceAdd, Int.reduceSub, ↓reduceIte, reduceCtorEq, box, Sky.D], by simp only [go_sem, Nat.reduceAdd, Nat.reduceSub, Nat.reduceMul, Nat.reduceEqDiff, Nat.reduceBEq, Nat.reduceLT, Nat.reduceLeDiff, Nat.reducePow, Int.reduceToNat, Int.reduceLT, Int.reduceLE, Int.reduceGT, Int.reduceGE, Int.reduceEq, Int.reduceNeg, Int.reduceAdd, Int.reduceSub, ↓reduceIte, reduceCtorEq]; exact GrownB_0 _ rfl, by simp only [go_sem, Nat.reduceAdd, Nat.reduceSub, Nat.reduceMul, Nat.reduceEqDiff, Nat.reduceBEq, Nat.reduceLT, Nat.reduceLeDiff, Nat.reducePow, Int.reduceToNat, Int.reduceLT, Int.reduceLE, Int.reduceGT, Int.reduceGE, Int.reduceEq, Int.reduceNeg, Int.reduceAdd, Int.reduceSub, ↓reduceIte, reduceCtorEq, empty], by simp only [go_sem, Nat.reduceAdd, Nat.reduceSub, Nat.reduceMul, Nat.reduceEqDiff, Nat.reduceBEq, Nat.reduceLT, Nat.reduceLeDiff, Nat.reducePow, Int.reduceToNat, Int.reduceLT, Int.reduceLE, Int.reduceGT, Int.reduceGE, Int.reduceEq, Int.reduceNeg, Int.reduceAdd, Int.reduceSub, ↓reduceIte, reduceCtorEq, empty]⟩ (by simp only; omega) (by simp only [h0, p1, hd68_0, grown, go_sem, Nat.reduceAdd, Nat.reduceSub, Nat.reduceMul, Nat.reduceEqDiff, Nat.reduceBEq, Nat.reduceLT, Nat.reduceLeDiff, Nat.reducePow, Int.reduceToNat, Int.reduceLT, Int.reduceLE, Int.reduceGT, Int.reduceGE, Int.reduceEq, Int.reduceNeg, Int.reduceAdd, Int.reduceSub, ↓reduceIte, reduceCtorEq])) ?_
  rintro o ⟨st1, rfl, _, q1, qg, q50, q71⟩
  simp only at q1 qg q50 q71
  obtain ⟨k, hk, hk0, hgr, qk⟩ : ∃ k : Key, (k = (0, 29) ∨ k = (0, 50)) ∧ (s.stars.length = 0 → k = (0, 50)) ∧ grown 114 (0, 29) s.stars.length = grown 114 k s.stars.length ∧ GrownB (st1 k) 114 (pre s s.stars.length) := by
    by_cases h : s.stars.length = 0
    · refine ⟨(0, 50), .inr rfl, fun _ => rfl, by rw [h]; rfl, ?_⟩
      have : pre s s.stars.length = [] := by rw [h]; rfl
      rw [this]; exact GrownB_0 _ q50
    · exact ⟨(0, 29), .inl rfl, fun q => absurd q h, rfl, qg⟩
  rw [hgr]
  simp only [hx68_0, p1, go_sem, Nat.reduceAdd, Nat.reduceSub, Nat.reduceMul, Nat.reduceEqDiff, Nat.reduceBEq, Nat.reduceLT, Nat.reduceLeDiff, Nat.reducePow, Int.reduceToNat, Int.reduceLT, Int.reduceLE, Int.reduceGT, Int.reduceGE, Int.reduceEq, Int.reduceNeg, Int.reduceAdd, Int.reduceSub, ↓reduceIte, reduceCtorEq, q1, box, Sky.D]
  refine loop_then (R := Q1 s k (0, _)) (loop1 _ _ s hs k hk hk0 _ (0, _) _ ⟨by simp only; omega, q1, qk, q71⟩ (by simp only; omega) (by simp only [h1, p1, hd68_2, Nat.add_zero, go_sem, Nat.reduceAdd, Nat.reduceSub, Nat.reduceMul, Nat.reduceEqDiff, Nat.reduceBEq, Nat.reduceLT, Nat.reduceLeDiff, Nat.reducePow, Int.reduceToNat, Int.reduceLT, Int.reduceLE, Int.reduceGT, Int.reduceGE, Int.reduceEq, Int.reduceNeg, Int.reduceAdd, Int.reduceSub, ↓reduceIte, reduceCtorEq])) ?_
  rintro o ⟨st2, rfl, _, q1, qg, q71⟩
  simp only at q1 qg q71
  obtain ⟨k', hk', hk0', hgr', qk'⟩ : ∃ k' : Key, (k' = (0, 29) ∨ k' = (0, 50) ∨ k' = (0, 71)) ∧ (s.stars.length + s.gals.length = 0 → k' = (0, 71)) ∧ grown 114 k (s.stars.length + s.gals.length) = grown 114 k' (s.stars.length + s.gals.length) ∧ GrownB (st2 k') 114 (pre s (s.stars.length + s.gals.length)) := by
    by_cases h : s.stars.length + s.gals.length = 0
    · refine ⟨(0, 71), .inr (.inr rfl), fun _ => rfl, by rw [h]; rfl, ?_⟩
      have : pre s (s.stars.length + s.gals.length) = [] := by rw [h]; rfl
      rw [this]; exact GrownB_0 _ q71
    · exact ⟨k, hk.elim .inl fun h => .inr (.inl h), fun q => absurd q h, rfl, qg⟩
  rw [hgr']
  simp only [hx68_2, p1, go_sem, Nat.reduceAdd, Nat.reduceSub, Nat.reduceMul, Nat.reduceEqDiff, Nat.reduceBEq, Nat.reduceLT, Nat.reduceLeDiff, Nat.reducePow, Int.reduceToNat, Int.reduceLT, Int.reduceLE, Int.reduceGT, Int.reduceGE, Int.reduceEq, Int.reduceNeg, Int.reduceAdd, Int.reduceSub, ↓reduceIte, reduceCtorEq, q1, box, Sky.D]
  refine loop_then (R := Q2 s k' (0, _)) (loop2 _ _ s hs k' hk' hk0' _ (0, _) _ ⟨by simp only; omega, q1, qk'⟩ (by simp only; omega) (by simp only [h2, p1, hd68_4, Nat.add_zero, go_sem, Nat.reduceAdd, Nat.reduceSub, Nat.reduceMul, Nat.reduceEqDiff, Nat.reduceBEq, Nat.reduceLT, Nat.reduceLeDiff, Nat.reducePow, Int.reduceToNat, Int.reduceLT, Int.reduceLE, Int.reduceGT, Int.reduceGE, Int.reduceEq, Int.reduceNeg, Int.reduceAdd, Int.reduceSub, ↓reduceIte, reduceCtorEq])) ?_
  rintro o ⟨st3, rfl, _, q1, qg⟩
  simp only at qg
  rw [← hlen] at qg ⊢
  have hN : pre s (things s).length = (things s).map fun o => V.d (thD o) := by unfold pre; rw [List.take_length]
  have hfin := fin_grown (st := st3) (k := k') (vs := pre s (things s).length) (n := (things s).length) (m := 8) (pre_len (Nat.le_refl _)) qg
  rw [hN, mapO_fin] at hfin
  simp only [hx68_4, go_sem, Nat.reduceAdd, Nat.reduceSub, Nat.reduceMul, Nat.reduceEqDiff, Nat.reduceBEq, Nat.reduceLT, Nat.reduceLeDiff, Nat.reducePow, Int.reduceToNat, Int.reduceLT, Int.reduceLE, Int.reduceGT, Int.reduceGE, Int.reduceEq, Int.reduceNeg, Int.reduceAdd, Int.reduceSub, ↓reduceIte, reduceCtorEq, hfin]
theorem things_ok : SpecOk Try.prog 68 sThings := specC_ok mixed specs_nil T_ok fun s h => ⟨_, 1, e s h⟩
#print axioms things_ok
end Go.Proofs.YtmhjmjodchbhlaaR.ThingsRate
