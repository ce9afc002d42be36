/- spyref3.Shining: the same as sky.Rate. -/
import Derived.Test.YtmhjmjodchbhlaaRRateARate
set_option linter.unusedVariables false
set_option linter.unusedSimpArgs false
set_option maxRecDepth 100000
namespace Go.Proofs.YtmhjmjodchbhlaaR.RateBRate
open Go.Ev Go.Ari Go.Proofs.YtmhjmjodchbhlaaR.FxRate Go.Proofs.YtmhjmjodchbhlaaR.PullPull Go.Proofs.YtmhjmjodchbhlaaR.TypesRate Go.Proofs.YtmhjmjodchbhlaaR.FaultRate
open Go.Proofs.YtmhjmjodchbhlaaR.PathPath (Bod bD cBod)
open Go.Proofs.YtmhjmjodchbhlaaR.ThingsRate (thD small sThings things_ok loop_then)
open Go.Proofs.YtmhjmjodchbhlaaR.SkyFRate (okSky sFault skyFault_ok sThings_run thD_ex th_mem)
open Go.Proofs.YtmhjmjodchbhlaaR.RateARate (sFault_run shineR bright rateT timedR rateR phase_at ph timed_zero sRate drop_at sky_D)
attribute [local go_sem] Ev.putR_s Ev.putR_0 Ev.thenO_s Ev.thenO_0 Ev.seqR_n Ev.seqR_e Ev.seqR_r Ev.seqR_0 Ev.blkR_e Ev.blkR_n Ev.blkR_r Ev.blkR_0 Ev.normR_s Ev.normR_0 Ev.outR_r Ev.outR_n Ev.outR_0 Ev.retS_s Ev.retS_0 Ev.pureO_s Ev.pureO_0 Ev.topR_0 Ev.topR_t Ev.topR_t0 Ev.oneL_0 Ev.oneL_s Ev.topR_d Ev.topR_nils Ev.topR_agg Ev.topR_rs Ev.evOp_move Ev.evOp_assign Ev.evOp_pick Ev.evOp_alloc Ev.evOp_box Ev.evOp_build Ev.evOp_buildSlice Ev.evOp_load Ev.evOp_store Ev.evOp_makeMap Ev.evOp_lookup Ev.evOp_mapUpdate Ev.evOp_insert Ev.evOp_nilCheck Ev.evOp_binOp Ev.evOp_unOp Ev.evOp_convert Ev.evOp_makeFunc Ev.evOp_makeSlice Ev.evOp_slice Ev.evOp_fieldAddr Ev.evOp_field Ev.evOp_indexAddr Ev.evOp_index Ev.evOp_extract Ev.evOp_call Ev.evOp_append Ev.evOp_len Ev.evOp_min Ev.evOp_max Ev.condR_b Ev.condR_t Ev.evOps_nil Ev.evOps_plain Ev.evOps_guard Ev.runG_eq Ev.skipG_eq Ev.condL_tt Ev.condL_ff Ev.condL_tf Ev.condL_ft Ev.condL_u Ev.condC_t Ev.condC_f Ev.evC_skip Ev.evC_ret Ev.evC_exit Ev.evC_label Ev.evC_region Ev.evC_draw Ev.evC_seq Ev.evC_cond Ev.evC_block Ev.evC_loop Ev.fin_d Ev.fin_nils Ev.fin_agg_ Ev.fin_rs Ev.finS_s Ev.mapO_fin Ev.upd_upd Ev.argv_d Ev.argv_nils Ev.argv_agg Ev.argv_rs Ev.argv_p Ev.appendTo_nils Ev.appendTo_rs Ev.consV_d Ev.consV_agg Ev.consV_p Ev.consV_rs Ev.consV_nils Ev.consV_fn Ev.consV_und Ev.consV_jk Ev.consV_grown Ev.topR_grown Ev.len_grown Ev.consV_mp Ev.sameK_i Ev.sameK_s Ev.mget_0 Ev.mget_hit Ev.mget_miss Ev.mput_0 Ev.mput_hit Ev.mput_miss Ev.apartAll Ev.apartL Ev.apartV Ev.freeAll Ev.sel Ev.keyOfV Ev.evLookup Ev.evPut Ev.hintOk Ev.keyOk Ev.consP Ev.lookV Ev.guardV Ev.dstAt Ev.evPure Ev.evStore Ev.evPureB Ev.evBin Ev.evBinO Ev.evNil Ev.isNilC Ev.evUn Ev.evConv Ev.evSlice Ev.optI Ev.lenV Ev.elemT Ev.foldI Ev.capsOk Ev.noTup Ev.nth Ev.setN Ev.pad Ev.V.get Ev.V.put Ev.putD Ev.hasT Ev.newBlk Ev.upd Ev.keq Ev.empty Ev.evCall Ev.V.args Ev.argP Ev.callOf Ev.evNilP Ev.isNilP Ev.look Ev.V.view.views Ev.V.view Ev.V.toD Ev.V.toD.V.toDs Ev.V.pure.pures Ev.V.pure Ev.D.flat.flats Ev.D.flat Ev.mkAgg Ev.allD Ev.aggParts Ev.setParts Ev.setElems Ev.getPath Ev.setPath Ev.subL Ev.eqD Ev.eqD.eqDs Ev.and2 Ev.strCut Ev.evalT Ev.constT Ev.evArgs Ev.mask Ev.maskOf Ev.tableOf Ev.compT Ev.resV Ev.retV Ev.mapO Ev.elemsOf Int.cast_ofNat_Int IntWalk.i64_in IntWalk.u64_in IntWalk.u8_in beq_self_eq_true Bool.true_beq Bool.false_beq Bool.and_true Bool.true_and Bool.false_and Bool.and_false Bool.and_self Bool.not_true Bool.not_false Bool.not_eq_true cond_true cond_false if_true if_false and_true true_and and_self decide_true decide_false Bool.or_true Bool.true_or Bool.or_false Bool.false_or List.isEmpty List.isEmpty_nil List.size_toArray List.map List.length_map List.length_cons List.length_nil Option.map Option.bind Option.getD Option.isSome List.replicate Bool.false_eq_true implies_true forall_const Array.toList Array.isEmpty List.append List.nil_append List.cons_append List.drop_zero List.take_length List.take_succ_cons List.take_zero List.take_nil List.getElem?_map List.getElem?_cons_zero List.getElem?_cons_succ List.getElem?_nil List.append_nil
attribute [local go_sem] FxRate.tk2 FxRate.ik2 FxRate.ek2 FxRate.zv2 FxRate.tk3 FxRate.ik3 FxRate.ek3 FxRate.zv3 FxRate.by3 FxRate.so3 FxRate.tk4 FxRate.ub4 FxRate.zv4 FxRate.tk23 FxRate.ct23 FxRate.ek23 FxRate.zv23 FxRate.tk27 FxRate.ik27 FxRate.zv27 FxRate.tk37 FxRate.ik37 FxRate.zv37 FxRate.by37 FxRate.so37 FxRate.tk39 FxRate.ct39 FxRate.zv39 FxRate.by39 FxRate.so39 FxRate.tk43 FxRate.zv43 FxRate.tk44 FxRate.zv44 FxRate.tk45 FxRate.zv45 FxRate.tk47 FxRate.ct47 FxRate.zv47 FxRate.tk48 FxRate.ik48 FxRate.zv48 FxRate.by48 FxRate.so48 FxRate.tk74 FxRate.zv74 FxRate.tk76 FxRate.ct76 FxRate.zv76 FxRate.by76 FxRate.so76 FxRate.tk77 FxRate.zv77 FxRate.tk79 FxRate.ct79 FxRate.zv79 FxRate.by79 FxRate.so79 FxRate.tk108 FxRate.zv108 FxRate.tk110 FxRate.ek110 FxRate.zv110 FxRate.tk111 FxRate.ek111 FxRate.zv111 FxRate.tk112 FxRate.zv112 FxRate.tk114 FxRate.ct114 FxRate.zv114 FxRate.by114 FxRate.so114 FxRate.tk136 FxRate.mt136 FxRate.sm136 FxRate.zw4 FxRate.zv136 FxRate.tk141 FxRate.zv141 FxRate.tk145 FxRate.zv145 FxRate.tk161 FxRate.ct161 FxRate.zv161 FxRate.tk182 FxRate.zv182 FxRate.mk7_1000000 FxRate.mk24_0 FxRate.mk24_2 FxRate.mk24_4 FxRate.mk24_1000001 FxRate.mk24_1000002 FxRate.mk24_1000003 FxRate.mk24_1000004 FxRate.mk24_1000005 FxRate.mk24_1000006 FxRate.mk24_1000000 FxRate.dw25_19 FxRate.nc25_19 FxRate.mk25_0 FxRate.mk25_2 FxRate.mk25_1000001 FxRate.mk25_1000002 FxRate.mk25_1000003 FxRate.mk25_1000004 FxRate.mk25_1000000 FxRate.mk40_0 FxRate.mk40_2 FxRate.mk40_4 FxRate.mk40_1000001 FxRate.mk40_1000002 FxRate.mk40_1000003 FxRate.mk40_1000004 FxRate.mk40_1000005 FxRate.mk40_1000006 FxRate.mk40_1000007 FxRate.mk40_1000000 FxRate.mk41_0 FxRate.mk41_1000001 FxRate.mk41_1000002 FxRate.mk41_1000003 FxRate.mk41_1000004 FxRate.mk41_1000000 FxRate.mk66_1000000 FxRate.dw67_9 FxRate.nc67_9 FxRate.mk67_1000000 FxRate.dw68_5 FxRate.nc68_5 FxRate.dw68_10 FxRate.nc68_10 FxRate.dw68_15 FxRate.nc68_15 FxRate.mk68_0 FxRate.mk68_2 FxRate.mk68_4 FxRate.mk68_1000001 FxRate.mk68_1000002 FxRate.mk68_1000003 FxRate.mk68_1000004 FxRate.mk68_1000005 FxRate.mk68_1000006 FxRate.mk68_1000000 FxRate.mk87_1000001 FxRate.mk87_1000000 FxRate.mk88_1000001 FxRate.mk88_1000000 FxRate.mk89_0 FxRate.mk89_1000001 FxRate.mk89_1000002 FxRate.mk89_1000000 FxRate.mk90_1000000 FxRate.mk91_1000000 FxRate.dw92_10 FxRate.nc92_10 FxRate.mk92_0 FxRate.mk92_2 FxRate.mk92_1000001 FxRate.mk92_1000002 FxRate.mk92_1000003 FxRate.mk92_1000004 FxRate.mk92_1000000 FxRate.mk93_1000001 FxRate.mk93_1000000 FxRate.mk94_1000000 FxRate.mk95_1000000 FxRate.mk128_1000000 FxRate.mk129_0 FxRate.mk129_1000001 FxRate.mk129_1000002 FxRate.mk129_1000000 FxRate.mk130_1000000 FxRate.mk131_0 FxRate.mk131_1000001 FxRate.mk131_1000002 FxRate.mk131_1000000 FxRate.mk150_0 FxRate.mk150_1000001 FxRate.mk150_1000002 FxRate.mk150_1000000
noncomputable def G : Specs := [(41, sFault), (68, sThings)]
noncomputable def T : Table := tableOf [(25, en25)]
theorem G_ok : ∀ g s, Ev.look G g = some s → SpecOk Try.prog g s := specs_cons skyFault_ok (specs_cons things_ok specs_nil)
theorem T_ok : TableOk Try.prog (G.map (·.1)) T := (table_cons Try.func25 (by kernel_rfl) (by kernel_rfl) table_nil)
/-! ### the sum over the phases -/
def acc (r w : Int) (j k : Nat) : Int := if j < k then r + w else r
def h2 (r w long turn : Int) (j : Nat) (wv : List Int) (k : Nat) : List V := hd25_2 (.d (.int .i64 (acc r w j k))) (.d (.int .i64 long)) (.d (.int .i64 turn)) (.d (.sl 37 (wv.map (.int .i64)))) (.d (.int .i64 wv.length)) (.d (.int .i64 k))
theorem loop2 (L lv : Nat) (call : Caller) (r w long turn p : Int) (j : Nat) (wv : List Int) (st : Store) (hr : 0 ≤ r ∧ r ≤ 1048576) (hw : wv[j]? = some w) (w0 : 0 ≤ w) (w1 : w ≤ 1048576) (hl : 1 ≤ long) (hp : long * wv.length ≤ 17592186044416) (hj0 : (j : Int) * long ≤ turn) (hj1 : turn < ((j : Int) + 1) * long) (hn : wv.length ≤ 16) :
    ∀ (m k : Nat) (env : List V), k ≤ wv.length → wv.length - k < m → mask (maskOf en25.ms 2) env = h2 r w long turn j wv k →
      iter (evC Try.prog G call L en25.ms lv 2 lb25_2) (maskOf en25.ms 2) m env st = some (.exit 2, hx25_2 (.d (.int .i64 (r + w))), st) := by
  refine iter_wf _ _ (fun k => k ≤ wv.length) (h2 r w long turn j wv) (fun _ => st) (fun _ => some (.exit 2, hx25_2 (.d (.int .i64 (r + w))), st)) (fun k => wv.length - k) ?_
  intro k hk kk hkk
  have hjl : j < wv.length := (List.getElem?_eq_some_iff.1 hw).1
  by_cases hin : k < wv.length
  case neg =>
    obtain rfl : k = wv.length := by omega
    have hlt : ¬ (wv.length : Int) < wv.length := by omega
    simp only [lb25_2, loopN, loops, h2, acc, hjl, hd25_2, hx25_2, Try.f25, go_sem, Nat.reduceAdd, Nat.reduceSub, Nat.reduceMul, Nat.reduceEqDiff, Nat.reduceBEq, Nat.reduceLT, Nat.reduceLeDiff, Nat.reducePow, Int.reduceToNat, Int.reduceLT, Int.reduceLE, Int.reduceGT, Int.reduceGE, Int.reduceEq, Int.reduceNeg, Int.reduceAdd, Int.reduceSub, ↓reduceIte, reduceCtorEq, hlt]
  have hlt : (k : Int) < wv.length := by omega
  have hx : wv[k]? = some wv[k] := by simp [hin]
  have g0 : (0 : Int) ≤ (k : Int) := by omega
  have ht : ((k : Int)).toNat = k := by omega
  have m1 : (k : Int) * long ≤ long * wv.length := by rw [Int.mul_comm]; exact Int.mul_le_mul_of_nonneg_left (by omega) (by omega)
  have m2 : ((k : Int) + 1) * long ≤ long * wv.length := by rw [Int.mul_comm]; exact Int.mul_le_mul_of_nonneg_left (by omega) (by omega)
  have m3 : 0 ≤ (k : Int) * long := Int.mul_nonneg g0 (by omega)
  have m4 : 0 ≤ ((k : Int) + 1) * long := Int.mul_nonneg (by omega) (by omega)
  have hw1 : IntKind.i64.wrap ((k : Int) + 1) = (k : Int) + 1 := wi_in (by omega) (by omega)
  have v1 : IntKind.i64.wrap ((k : Int) * long) = (k : Int) * long := wi_in (by omega) (by omega)
  have v2 : IntKind.i64.wrap (((k : Int) + 1) * long) = ((k : Int) + 1) * long := wi_in (by omega) (by omega)
  have v3 : IntKind.i64.wrap (r + w) = r + w := wi_in (by omega) (by omega)
  have hcast : ((k + 1 : Nat) : Int) = (k : Int) + 1 := rfl
  rcases Nat.lt_trichotomy k j with h | h | h
  · have a1 : acc r w j k = r := by unfold acc; rw [if_neg (by omega)]
    have a2 : acc r w j (k + 1) = r := by unfold acc; rw [if_neg (by omega)]
    have b1 : ((k : Int) + 1) * long ≤ (j : Int) * long := Int.mul_le_mul_of_nonneg_right (by omega) (by omega)
    have b2 : (k : Int) * long ≤ (j : Int) * long := Int.mul_le_mul_of_nonneg_right (by omega) (by omega)
    have d1 : turn ≥ (k : Int) * long := by omega
    have d2 : ¬ turn < ((k : Int) + 1) * long := by omega
    have hgo := hkk (k + 1)
    simp only [lb25_2, loopN, loops, h2, a1, hd25_2, Try.f25, go_sem, Nat.reduceAdd, Nat.reduceSub, Nat.reduceMul, Nat.reduceEqDiff, Nat.reduceBEq, Nat.reduceLT, Nat.reduceLeDiff, Nat.reducePow, Int.reduceToNat, Int.reduceLT, Int.reduceLE, Int.reduceGT, Int.reduceGE, Int.reduceEq, Int.reduceNeg, Int.reduceAdd, Int.reduceSub, ↓reduceIte, reduceCtorEq, hlt, hx, g0, ht, hw1, v1, v2, d1, d2]
    exact hgo _ (by omega) (by omega) (by simp only [h2, a2, hd25_2, go_sem, Nat.reduceAdd, Nat.reduceSub, Nat.reduceMul, Nat.reduceEqDiff, Nat.reduceBEq, Nat.reduceLT, Nat.reduceLeDiff, Nat.reducePow, Int.reduceToNat, Int.reduceLT, Int.reduceLE, Int.reduceGT, Int.reduceGE, Int.reduceEq, Int.reduceNeg, Int.reduceAdd, Int.reduceSub, ↓reduceIte, reduceCtorEq, hw1, hcast])
  · subst h
    rw [hx] at hw
    have hwk : wv[k] = w := by simpa using hw
    have a1 : acc r w k k = r := by unfold acc; rw [if_neg (by omega)]
    have a2 : acc r w k (k + 1) = r + w := by unfold acc; rw [if_pos (by omega)]
    have d1 : turn ≥ (k : Int) * long := hj0
    have hgo := hkk (k + 1)
    rw [hwk] at hx
    simp only [lb25_2, loopN, loops, h2, a1, hd25_2, Try.f25, go_sem, Nat.reduceAdd, Nat.reduceSub, Nat.reduceMul, Nat.reduceEqDiff, Nat.reduceBEq, Nat.reduceLT, Nat.reduceLeDiff, Nat.reducePow, Int.reduceToNat, Int.reduceLT, Int.reduceLE, Int.reduceGT, Int.reduceGE, Int.reduceEq, Int.reduceNeg, Int.reduceAdd, Int.reduceSub, ↓reduceIte, reduceCtorEq, hlt, hx, g0, ht, hw1, v1, v2, v3, d1, hj1]
    exact hgo _ (by omega) (by omega) (by simp only [h2, a2, hd25_2, go_sem, Nat.reduceAdd, Nat.reduceSub, Nat.reduceMul, Nat.reduceEqDiff, Nat.reduceBEq, Nat.reduceLT, Nat.reduceLeDiff, Nat.reducePow, Int.reduceToNat, Int.reduceLT, Int.reduceLE, Int.reduceGT, Int.reduceGE, Int.reduceEq, Int.reduceNeg, Int.reduceAdd, Int.reduceSub, ↓reduceIte, reduceCtorEq, hw1, hcast])
  · have a1 : acc r w j k = r + w := by unfold acc; rw [if_pos (by omega)]
    have a2 : acc r w j (k + 1) = r + w := by unfold acc; rw [if_pos (by omega)]
    have b1 : ((j : Int) + 1) * long ≤ (k : Int) * long := Int.mul_le_mul_of_nonneg_right (by omega) (by omega)
    have d1 : ¬ turn ≥ (k : Int) * long := by omega
    have hgo := hkk (k + 1)
    simp only [lb25_2, loopN, loops, h2, a1, hd25_2, Try.f25, go_sem, Nat.reduceAdd, Nat.reduceSub, Nat.reduceMul, Nat.reduceEqDiff, Nat.reduceBEq, Nat.reduceLT, Nat.reduceLeDiff, Nat.reducePow, Int.reduceToNat, Int.reduceLT, Int.reduceLE, Int.reduceGT, Int.reduceGE, Int.reduceEq, Int.reduceNeg, Int.reduceAdd, Int.reduceSub, ↓reduceIte, reduceCtorEq, hlt, hx, g0, ht, hw1, v1, v2, d1]
    exact hgo _ (by omega) (by omega) (by simp only [h2, a2, hd25_2, go_sem, Nat.reduceAdd, Nat.reduceSub, Nat.reduceMul, Nat.reduceEqDiff, Nat.reduceBEq, Nat.reduceLT, Nat.reduceLeDiff, Nat.reducePow, Int.reduceToNat, Int.reduceLT, Int.reduceLE, Int.reduceGT, Int.reduceGE, Int.reduceEq, Int.reduceNeg, Int.reduceAdd, Int.reduceSub, ↓reduceIte, reduceCtorEq, hw1, hcast])
/-! ### the objects -/
def h0 (id t : Int) (l : List Thing) (i : Nat) : List V := hd25_0 (.d (.int .i64 id)) (.d (.int .i64 t)) (.d (.sl 114 (l.map thD))) (.d (.int .i64 l.length)) (.d (.int .i64 i))
def J (id t : Int) (l : List Thing) (x : Nat × Store) : Prop := x.1 ≤ l.length ∧ rateT id t l = rateT id t (l.drop x.1)
def Q (id t : Int) (l : List Thing) (x : Nat × Store) (o : Out) : Prop := ∃ st', (o = some (.exit 0, hx25_0, st') ∧ rateT id t l = (0, 8)) ∨ o = some (.ret, hr25 (.d (.int .i64 (rateT id t l).1)) (.d (.int .i64 (rateT id t l).2)), st')
theorem loop0 (L : Nat) (call : Caller) (id t : Int) (l : List Thing) (hl : l.length ≤ 40) (hL : 40 < L) (hz : -17592186044416 ≤ t ∧ t ≤ 17592186044416) (hst : ∀ x, .st x ∈ l → starF x = 0 ∧ 0 ≤ x.rate ∧ x.rate ≤ 1048576) :
    ∀ (m : Nat) (x : Nat × Store) (env : List V), J id t l x → l.length - x.1 < m → mask (maskOf en25.ms 0) env = h0 id t l x.1 →
      Q id t l x (iter (evC Try.prog G call L en25.ms 0 0 lb25_0) (maskOf en25.ms 0) m env x.2) := by
  refine iter_rel _ _ (J id t l) (fun x => h0 id t l x.1) (fun x => x.2) (Q id t l) (fun x => l.length - x.1) ?_
  rintro ⟨i, st⟩ ⟨hi, qr⟩ k hk
  simp only at hi qr
  by_cases hin : i < l.length
  case neg =>
    obtain rfl : i = l.length := by omega
    have hlt : ¬ (l.length : Int) < l.length := by omega
    rw [List.drop_length] at qr
    refine ⟨st, .inl ⟨?_, qr⟩⟩
    simp only [lb25_0, loopN, loops, h0, hd25_0, hx25_0, Try.f25, go_sem, Nat.reduceAdd, Nat.reduceSub, Nat.reduceMul, Nat.reduceEqDiff, Nat.reduceBEq, Nat.reduceLT, Nat.reduceLeDiff, Nat.reducePow, Int.reduceToNat, Int.reduceLT, Int.reduceLE, Int.reduceGT, Int.reduceGE, Int.reduceEq, Int.reduceNeg, Int.reduceAdd, Int.reduceSub, ↓reduceIte, reduceCtorEq, hlt]
  have hlt : (i : Int) < l.length := by omega
  have hx : l[i]? = some l[i] := by simp [hin]
  have hmem : l[i] ∈ l := List.getElem_mem _
  have g0 : (0 : Int) ≤ (i : Int) := by omega
  have ht : ((i : Int)).toNat = i := by omega
  have hw1 : IntKind.i64.wrap ((i : Int) + 1) = ((i + 1 : Nat) : Int) := by rw [IntWalk.i64_in _ (by omega)]; rfl
  obtain ⟨hd0, hd1⟩ := drop_at hx qr
  generalize l[i] = x at *
  have hret : Thing.id x = id → ∀ st1, Q id t l (i, st) (some (.ret, hr25 (.d (.int .i64 (bright t x))) (.d (.int .i64 0)), st1)) := fun h1 st1 => ⟨st1, .inr (by rw [hd0 h1])⟩
  have hgo : ¬ Thing.id x = id → ∀ st1 env, mask (maskOf en25.ms 0) env = h0 id t l (i + 1) → Q id t l (i, st) (k env st1) := fun h1 st1 env h4 =>
    (hk (i + 1, st1) env ⟨by simp only; omega, hd1 h1⟩ (by simp only; omega) h4 : Q id t l (i + 1, st1) _)
  by_cases c1 : x.id = id
  case neg =>
    have hq := hgo c1
    have d1 : decide (x.id = id) = false := decide_eq_false c1
    obtain ⟨a, b, c, hth⟩ := thD_ex x
    simp only [lb25_0, loopN, loops, h0, hd25_0, Try.f25, G, go_sem, Nat.reduceAdd, Nat.reduceSub, Nat.reduceMul, Nat.reduceEqDiff, Nat.reduceBEq, Nat.reduceLT, Nat.reduceLeDiff, Nat.reducePow, Int.reduceToNat, Int.reduceLT, Int.reduceLE, Int.reduceGT, Int.reduceGE, Int.reduceEq, Int.reduceNeg, Int.reduceAdd, Int.reduceSub, ↓reduceIte, reduceCtorEq, hlt, hx, hth, g0, ht, d1, hw1]
    exact hq _ _ (by simp only [h0, hd25_0, go_sem, Nat.reduceAdd, Nat.reduceSub, Nat.reduceMul, Nat.reduceEqDiff, Nat.reduceBEq, Nat.reduceLT, Nat.reduceLeDiff, Nat.reducePow, Int.reduceToNat, Int.reduceLT, Int.reduceLE, Int.reduceGT, Int.reduceGE, Int.reduceEq, Int.reduceNeg, Int.reduceAdd, Int.reduceSub, ↓reduceIte, reduceCtorEq, hw1])
  have hq := hret c1
  clear hret hgo hd0 hd1
  cases x with
  | ga y =>
    obtain ⟨i1, ⟨u, v, w⟩, r, wide, high⟩ := y
    simp only [Thing.id, bright] at c1 hq
    have d1 : decide (i1 = id) = true := decide_eq_true c1
    simp only [lb25_0, loopN, loops, h0, hd25_0, Try.f25, G, go_sem, Nat.reduceAdd, Nat.reduceSub, Nat.reduceMul, Nat.reduceEqDiff, Nat.reduceBEq, Nat.reduceLT, Nat.reduceLeDiff, Nat.reducePow, Int.reduceToNat, Int.reduceLT, Int.reduceLE, Int.reduceGT, Int.reduceGE, Int.reduceEq, Int.reduceNeg, Int.reduceAdd, Int.reduceSub, ↓reduceIte, reduceCtorEq, hlt, hx, thD, Gal.D, vD, g0, ht, d1, hw1]
    exact hq _
  | bo y =>
    obtain ⟨i1, ⟨u, v, w⟩, ⟨u2, v2, w2⟩, r⟩ := y
    simp only [Thing.id, bright] at c1 hq
    have d1 : decide (i1 = id) = true := decide_eq_true c1
    simp only [lb25_0, loopN, loops, h0, hd25_0, Try.f25, G, go_sem, Nat.reduceAdd, Nat.reduceSub, Nat.reduceMul, Nat.reduceEqDiff, Nat.reduceBEq, Nat.reduceLT, Nat.reduceLeDiff, Nat.reducePow, Int.reduceToNat, Int.reduceLT, Int.reduceLE, Int.reduceGT, Int.reduceGE, Int.reduceEq, Int.reduceNeg, Int.reduceAdd, Int.reduceSub, ↓reduceIte, reduceCtorEq, hlt, hx, thD, bD, vD, g0, ht, d1, hw1]
    exact hq _
  | st y =>
    obtain ⟨hs0, hs1, hs2⟩ := hst y hmem
    have hph := phase_at hs0 t
    obtain ⟨i1, ⟨u, v, w⟩, r, wv, p, f, to⟩ := y
    simp only at hs1 hs2 hph
    simp only [Thing.id, bright, shineR] at c1 hq
    have d1 : decide (i1 = id) = true := decide_eq_true c1
    by_cases c2 : t < f
    · rw [if_pos (.inl c2)] at hq
      simp only [lb25_0, loopN, loops, h0, hd25_0, Try.f25, G, go_sem, Nat.reduceAdd, Nat.reduceSub, Nat.reduceMul, Nat.reduceEqDiff, Nat.reduceBEq, Nat.reduceLT, Nat.reduceLeDiff, Nat.reducePow, Int.reduceToNat, Int.reduceLT, Int.reduceLE, Int.reduceGT, Int.reduceGE, Int.reduceEq, Int.reduceNeg, Int.reduceAdd, Int.reduceSub, ↓reduceIte, reduceCtorEq, hlt, hx, thD, Star.D, vD, g0, ht, d1, hw1, c2]
      exact hq _
    by_cases c3 : t ≥ to
    · rw [if_pos (.inr c3)] at hq
      simp only [lb25_0, loopN, loops, h0, hd25_0, Try.f25, G, go_sem, Nat.reduceAdd, Nat.reduceSub, Nat.reduceMul, Nat.reduceEqDiff, Nat.reduceBEq, Nat.reduceLT, Nat.reduceLeDiff, Nat.reducePow, Int.reduceToNat, Int.reduceLT, Int.reduceLE, Int.reduceGT, Int.reduceGE, Int.reduceEq, Int.reduceNeg, Int.reduceAdd, Int.reduceSub, ↓reduceIte, reduceCtorEq, hlt, hx, thD, Star.D, vD, g0, ht, d1, hw1, c2, c3]
      exact hq _
    rw [if_neg (by simp only [c2, c3, or_self, not_false_iff])] at hq
    by_cases c4 : wv.length = 0
    · rw [if_pos c4] at hq
      have c4' : ¬ (wv.length : Int) > 0 := by omega
      simp only [lb25_0, loopN, loops, h0, hd25_0, Try.f25, G, go_sem, Nat.reduceAdd, Nat.reduceSub, Nat.reduceMul, Nat.reduceEqDiff, Nat.reduceBEq, Nat.reduceLT, Nat.reduceLeDiff, Nat.reducePow, Int.reduceToNat, Int.reduceLT, Int.reduceLE, Int.reduceGT, Int.reduceGE, Int.reduceEq, Int.reduceNeg, Int.reduceAdd, Int.reduceSub, ↓reduceIte, reduceCtorEq, hlt, hx, thD, Star.D, vD, g0, ht, d1, hw1, c2, c3, c4']
      exact hq _
    rw [if_neg c4] at hq
    have c4' : (wv.length : Int) > 0 := by omega
    have c4'' : ¬ (wv.length : Int) = 0 := by omega
    obtain ⟨p1, p2, n1, e0, l1, e1, m0, m1, q0, q1, w', hw, w0, w1⟩ := hph (by omega)
    have hp0 : ¬ p = 0 := by omega
    have l2 : p / (wv.length : Int) ≤ p := by
      have := Int.mul_le_mul_of_nonneg_left (show (1 : Int) ≤ wv.length by omega) (show 0 ≤ p / (wv.length : Int) by omega)
      omega
    have v1 : IntKind.i64.wrap (p.tdiv wv.length) = p / wv.length := by rw [e0]; exact wi_in (by omega) (by omega)
    have tl := Int.lt_tmod_of_pos t (show 0 < p by omega)
    have tu := Int.tmod_lt_of_pos t (show 0 < p by omega)
    have v2 : IntKind.i64.wrap (t.tmod p + p) = t.tmod p + p := wi_in (by omega) (by omega)
    have v3 : (t.tmod p + p).tmod p = t % p := by
      rw [Int.tmod_eq_emod_of_nonneg (by omega), Int.add_emod_right]
      have e := Int.mul_tdiv_add_tmod t p
      conv => rhs; rw [← e]
      rw [Int.mul_add_emod_self_left]
    have hgd : wv.getD (t % p / (p / wv.length)).toNat 0 = w' := by rw [List.getD_eq_getElem?_getD, hw]; rfl
    rw [hgd] at hq
    have hj : (((t % p / (p / wv.length)).toNat : Nat) : Int) = t % p / (p / wv.length) := by omega
    have hj0 := Int.ediv_mul_le (t % p) (show p / (wv.length : Int) ≠ 0 by omega)
    have hj1 := Int.lt_ediv_add_one_mul_self (t % p) (show 0 < p / (wv.length : Int) by omega)
    have hlp := fun L lv call st => loop2 L lv call r w' (p / wv.length) (t % p) p (t % p / (p / wv.length)).toNat wv st ⟨hs1, hs2⟩ hw w0 (by omega) l1 (by omega) (by rw [hj]; exact hj0) (by rw [hj]; exact hj1) n1
    simp only [lb25_0, loopN, loops, h0, hd25_0, Try.f25, G, go_sem, Nat.reduceAdd, Nat.reduceSub, Nat.reduceMul, Nat.reduceEqDiff, Nat.reduceBEq, Nat.reduceLT, Nat.reduceLeDiff, Nat.reducePow, Int.reduceToNat, Int.reduceLT, Int.reduceLE, Int.reduceGT, Int.reduceGE, Int.reduceEq, Int.reduceNeg, Int.reduceAdd, Int.reduceSub, ↓reduceIte, reduceCtorEq, hlt, hx, thD, Star.D, vD, g0, ht, d1, hw1, c2, c3, c4', c4'', hp0, v1, v2, v3]
    conv in iter _ _ _ _ _ => change iter (evC _ G _ _ en25.ms _ _ lb25_2) (maskOf en25.ms 2) _ _ _
    rw [hlp _ _ _ _ _ 0 _ (by omega) (by omega) (by simp only [h2, acc, Nat.not_lt_zero, hd25_2, go_sem, Nat.reduceAdd, Nat.reduceSub, Nat.reduceMul, Nat.reduceEqDiff, Nat.reduceBEq, Nat.reduceLT, Nat.reduceLeDiff, Nat.reducePow, Int.reduceToNat, Int.reduceLT, Int.reduceLE, Int.reduceGT, Int.reduceGE, Int.reduceEq, Int.reduceNeg, Int.reduceAdd, Int.reduceSub, ↓reduceIte, reduceCtorEq])]
    simp only [hx25_2, Try.f25, G, go_sem, Nat.reduceAdd, Nat.reduceSub, Nat.reduceMul, Nat.reduceEqDiff, Nat.reduceBEq, Nat.reduceLT, Nat.reduceLeDiff, Nat.reducePow, Int.reduceToNat, Int.reduceLT, Int.reduceLE, Int.reduceGT, Int.reduceGE, Int.reduceEq, Int.reduceNeg, Int.reduceAdd, Int.reduceSub, ↓reduceIte, reduceCtorEq]
    exact hq _
/-! ### as a whole -/
theorem eShining (s : Sky) (id t : Int) (hs : okSky s) : evTop Try.prog G T 41 1 25 [s.D, .int .i64 id, .int .i64 t] = some [.int .i64 (rateR s id t).1, .int .i64 (rateR s id t).2] := by
  have hf := sFault_run s hs
  have hth := sThings_run s hs.1
  have hlen := things_len s
  have hmem := fun x hx => @th_mem s x hx
  rw [sky_D] at hf hth ⊢
  have htz := @timed_zero s t
  unfold rateR timedR
  unfold evTop
  simp only [List.map]
  rw [evF_s (fn := Try.f25) (msk := en25.ms) (hT := by rfl) (hb := by rfl)]
  by_cases c1 : fault s = 0
  case neg =>
    rw [if_neg c1]
    rw [if_neg c1]
    generalize fault s = e at *
    simp only [Try.f25, G, go_sem, Nat.reduceAdd, Nat.reduceSub, Nat.reduceMul, Nat.reduceEqDiff, Nat.reduceBEq, Nat.reduceLT, Nat.reduceLeDiff, Nat.reducePow, Int.reduceToNat, Int.reduceLT, Int.reduceLE, Int.reduceGT, Int.reduceGE, Int.reduceEq, Int.reduceNeg, Int.reduceAdd, Int.reduceSub, ↓reduceIte, reduceCtorEq, hf, c1]
  have hst : ∀ x, .st x ∈ things s → starF x = 0 ∧ 0 ≤ x.rate ∧ x.rate ≤ 1048576 := fun x hx => fault_star c1 (hmem x hx)
  have h40 := (fault_zero c1).2.2
  rw [if_pos c1]
  rw [c1] at hf
  by_cases c2 : t < -17592186044416
  · have h2 : tickBad t = true := by simp [tickBad, c2]
    rw [if_pos h2]
    simp only [Try.f25, G, go_sem, Nat.reduceAdd, Nat.reduceSub, Nat.reduceMul, Nat.reduceEqDiff, Nat.reduceBEq, Nat.reduceLT, Nat.reduceLeDiff, Nat.reducePow, Int.reduceToNat, Int.reduceLT, Int.reduceLE, Int.reduceGT, Int.reduceGE, Int.reduceEq, Int.reduceNeg, Int.reduceAdd, Int.reduceSub, ↓reduceIte, reduceCtorEq, hf, c2]
  by_cases c3 : t > 17592186044416
  · have h2 : tickBad t = true := by simp [tickBad, c3]
    rw [if_pos h2]
    simp only [Try.f25, G, go_sem, Nat.reduceAdd, Nat.reduceSub, Nat.reduceMul, Nat.reduceEqDiff, Nat.reduceBEq, Nat.reduceLT, Nat.reduceLeDiff, Nat.reducePow, Int.reduceToNat, Int.reduceLT, Int.reduceLE, Int.reduceGT, Int.reduceGE, Int.reduceEq, Int.reduceNeg, Int.reduceAdd, Int.reduceSub, ↓reduceIte, reduceCtorEq, hf, c2, c3]
  have h2 : ¬ tickBad t = true := by simp only [tickBad, c2, c3, decide_false, Bool.or_false, Bool.false_eq_true, not_false_iff]
  rw [if_neg h2, if_pos rfl]
  have l0 := fun call => loop0 41 call id t (things s) (by omega) (by omega) ⟨by omega, by omega⟩ hst
  generalize things s = l at *
  simp only [Try.f25, G, go_sem, Nat.reduceAdd, Nat.reduceSub, Nat.reduceMul, Nat.reduceEqDiff, Nat.reduceBEq, Nat.reduceLT, Nat.reduceLeDiff, Nat.reducePow, Int.reduceToNat, Int.reduceLT, Int.reduceLE, Int.reduceGT, Int.reduceGE, Int.reduceEq, Int.reduceNeg, Int.reduceAdd, Int.reduceSub, ↓reduceIte, reduceCtorEq, hf, hth, c2, c3]
  refine loop_then (R := Q id t l (0, _)) (l0 _ _ (0, _) _ ⟨by simp only; omega, rfl⟩ (by simp only; omega) (by simp only [h0, hd25_0, go_sem, Nat.reduceAdd, Nat.reduceSub, Nat.reduceMul, Nat.reduceEqDiff, Nat.reduceBEq, Nat.reduceLT, Nat.reduceLeDiff, Nat.reducePow, Int.reduceToNat, Int.reduceLT, Int.reduceLE, Int.reduceGT, Int.reduceGE, Int.reduceEq, Int.reduceNeg, Int.reduceAdd, Int.reduceSub, ↓reduceIte, reduceCtorEq])) ?_
  rintro o ⟨st1, ⟨rfl, qr⟩ | rfl⟩
  case inr => simp only [hr25, go_sem, Nat.reduceAdd, Nat.reduceSub, Nat.reduceMul, Nat.reduceEqDiff, Nat.reduceBEq, Nat.reduceLT, Nat.reduceLeDiff, Nat.reducePow, Int.reduceToNat, Int.reduceLT, Int.reduceLE, Int.reduceGT, Int.reduceGE, Int.reduceEq, Int.reduceNeg, Int.reduceAdd, Int.reduceSub, ↓reduceIte, reduceCtorEq]
  rw [qr]
  simp only [hx25_0, go_sem, Nat.reduceAdd, Nat.reduceSub, Nat.reduceMul, Nat.reduceEqDiff, Nat.reduceBEq, Nat.reduceLT, Nat.reduceLeDiff, Nat.reducePow, Int.reduceToNat, Int.reduceLT, Int.reduceLE, Int.reduceGT, Int.reduceGE, Int.reduceEq, Int.reduceNeg, Int.reduceAdd, Int.reduceSub, ↓reduceIte, reduceCtorEq]
theorem shining_ok : SpecOk Try.prog 25 sRate := specC_ok mixed G_ok T_ok fun x h => ⟨_, 1, eShining x.1 x.2.1 x.2.2 h⟩
#print axioms shining_ok
end Go.Proofs.YtmhjmjodchbhlaaR.RateBRate
