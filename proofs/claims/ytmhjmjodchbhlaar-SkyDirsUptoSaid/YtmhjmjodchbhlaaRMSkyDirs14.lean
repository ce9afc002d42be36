/- Parts of one proof, joined: RateARate, PathdPath, PathePath, FxPlace, FloorPlace. -/
import Derived.Test.YtmhjmjodchbhlaaRMSkyDirs13
import Derived.Test.YtmhjmjodchbhlaaRProg
section
set_option linter.unusedVariables false
set_option linter.unusedSimpArgs false
set_option maxRecDepth 100000
namespace Go.Proofs.YtmhjmjodchbhlaaR.RateARate
open Go.Ev Go.Ari Go.Proofs.YtmhjmjodchbhlaaR.FxRate Go.Proofs.YtmhjmjodchbhlaaR.PullPull Go.Proofs.YtmhjmjodchbhlaaR.TypesRate Go.Proofs.YtmhjmjodchbhlaaR.FaultRate
open Go.Proofs.YtmhjmjodchbhlaaR.PathPath (Bod bD cBod)
open Go.Proofs.YtmhjmjodchbhlaaR.ThingsRate (small loop_then th_st th_ga th_bo)
open Go.Proofs.YtmhjmjodchbhlaaR.SkyFRate (okSky sFault)
open Go.Proofs.YtmhjmjodchbhlaaR.SkyCRate (check_ok)
attribute [local go_sem] Ev.putR_s Ev.putR_0 Ev.thenO_s Ev.thenO_0 Ev.seqR_n Ev.seqR_e Ev.seqR_r Ev.seqR_0 Ev.blkR_e Ev.blkR_n Ev.blkR_r Ev.blkR_0 Ev.normR_s Ev.normR_0 Ev.outR_r Ev.outR_n Ev.outR_0 Ev.retS_s Ev.retS_0 Ev.pureO_s Ev.pureO_0 Ev.topR_0 Ev.topR_t Ev.topR_t0 Ev.oneL_0 Ev.oneL_s Ev.topR_d Ev.topR_nils Ev.topR_agg Ev.topR_rs Ev.evOp_move Ev.evOp_assign Ev.evOp_pick Ev.evOp_alloc Ev.evOp_box Ev.evOp_build Ev.evOp_buildSlice Ev.evOp_load Ev.evOp_store Ev.evOp_makeMap Ev.evOp_lookup Ev.evOp_mapUpdate Ev.evOp_insert Ev.evOp_nilCheck Ev.evOp_binOp Ev.evOp_unOp Ev.evOp_convert Ev.evOp_makeFunc Ev.evOp_makeSlice Ev.evOp_slice Ev.evOp_fieldAddr Ev.evOp_field Ev.evOp_indexAddr Ev.evOp_index Ev.evOp_extract Ev.evOp_call Ev.evOp_append Ev.evOp_len Ev.evOp_min Ev.evOp_max Ev.condR_b Ev.condR_t Ev.evOps_nil Ev.evOps_plain Ev.evOps_guard Ev.runG_eq Ev.skipG_eq Ev.condL_tt Ev.condL_ff Ev.condL_tf Ev.condL_ft Ev.condL_u Ev.condC_t Ev.condC_f Ev.evC_skip Ev.evC_ret Ev.evC_exit Ev.evC_label Ev.evC_region Ev.evC_draw Ev.evC_seq Ev.evC_cond Ev.evC_block Ev.evC_loop Ev.fin_d Ev.fin_nils Ev.fin_agg_ Ev.fin_rs Ev.finS_s Ev.mapO_fin Ev.upd_upd Ev.argv_d Ev.argv_nils Ev.argv_agg Ev.argv_rs Ev.argv_p Ev.appendTo_nils Ev.appendTo_rs Ev.consV_d Ev.consV_agg Ev.consV_p Ev.consV_rs Ev.consV_nils Ev.consV_fn Ev.consV_und Ev.consV_jk Ev.consV_grown Ev.topR_grown Ev.len_grown Ev.consV_mp Ev.sameK_i Ev.sameK_s Ev.mget_0 Ev.mget_hit Ev.mget_miss Ev.mput_0 Ev.mput_hit Ev.mput_miss Ev.apartAll Ev.apartL Ev.apartV Ev.freeAll Ev.sel Ev.keyOfV Ev.evLookup Ev.evPut Ev.hintOk Ev.keyOk Ev.consP Ev.lookV Ev.guardV Ev.dstAt Ev.evPure Ev.evStore Ev.evPureB Ev.evBin Ev.evBinO Ev.evNil Ev.isNilC Ev.evUn Ev.evConv Ev.evSlice Ev.optI Ev.lenV Ev.elemT Ev.foldI Ev.capsOk Ev.noTup Ev.nth Ev.setN Ev.pad Ev.V.get Ev.V.put Ev.putD Ev.hasT Ev.newBlk Ev.upd Ev.keq Ev.empty Ev.evCall Ev.V.args Ev.argP Ev.callOf Ev.evNilP Ev.isNilP Ev.look Ev.V.view.views Ev.V.view Ev.V.toD Ev.V.toD.V.toDs Ev.V.pure.pures Ev.V.pure Ev.D.flat.flats Ev.D.flat Ev.mkAgg Ev.allD Ev.aggParts Ev.setParts Ev.setElems Ev.getPath Ev.setPath Ev.subL Ev.eqD Ev.eqD.eqDs Ev.and2 Ev.strCut Ev.evalT Ev.constT Ev.evArgs Ev.mask Ev.maskOf Ev.tableOf Ev.compT Ev.resV Ev.retV Ev.mapO Ev.elemsOf Int.cast_ofNat_Int IntWalk.i64_in IntWalk.u64_in IntWalk.u8_in beq_self_eq_true Bool.true_beq Bool.false_beq Bool.and_true Bool.true_and Bool.false_and Bool.and_false Bool.and_self Bool.not_true Bool.not_false Bool.not_eq_true cond_true cond_false if_true if_false and_true true_and and_self decide_true decide_false Bool.or_true Bool.true_or Bool.or_false Bool.false_or List.isEmpty List.isEmpty_nil List.size_toArray List.map List.length_map List.length_cons List.length_nil Option.map Option.bind Option.getD Option.isSome List.replicate Bool.false_eq_true implies_true forall_const Array.toList Array.isEmpty List.append List.nil_append List.cons_append List.drop_zero List.take_length List.take_succ_cons List.take_zero List.take_nil List.getElem?_map List.getElem?_cons_zero List.getElem?_cons_succ List.getElem?_nil List.append_nil
attribute [local go_sem] FxRate.tk2 FxRate.ik2 FxRate.ek2 FxRate.zv2 FxRate.tk3 FxRate.ik3 FxRate.ek3 FxRate.zv3 FxRate.by3 FxRate.so3 FxRate.tk4 FxRate.ub4 FxRate.zv4 FxRate.tk23 FxRate.ct23 FxRate.ek23 FxRate.zv23 FxRate.tk27 FxRate.ik27 FxRate.zv27 FxRate.tk37 FxRate.ik37 FxRate.zv37 FxRate.by37 FxRate.so37 FxRate.tk39 FxRate.ct39 FxRate.zv39 FxRate.by39 FxRate.so39 FxRate.tk43 FxRate.zv43 FxRate.tk44 FxRate.zv44 FxRate.tk45 FxRate.zv45 FxRate.tk47 FxRate.ct47 FxRate.zv47 FxRate.tk48 FxRate.ik48 FxRate.zv48 FxRate.by48 FxRate.so48 FxRate.tk74 FxRate.zv74 FxRate.tk76 FxRate.ct76 FxRate.zv76 FxRate.by76 FxRate.so76 FxRate.tk77 FxRate.zv77 FxRate.tk79 FxRate.ct79 FxRate.zv79 FxRate.by79 FxRate.so79 FxRate.tk108 FxRate.zv108 FxRate.tk110 FxRate.ek110 FxRate.zv110 FxRate.tk111 FxRate.ek111 FxRate.zv111 FxRate.tk112 FxRate.zv112 FxRate.tk114 FxRate.ct114 FxRate.zv114 FxRate.by114 FxRate.so114 FxRate.tk136 FxRate.mt136 FxRate.sm136 FxRate.zw4 FxRate.zv136 FxRate.tk141 FxRate.zv141 FxRate.tk145 FxRate.zv145 FxRate.tk161 FxRate.ct161 FxRate.zv161 FxRate.tk182 FxRate.zv182 FxRate.mk7_1000000 FxRate.mk24_0 FxRate.mk24_2 FxRate.mk24_4 FxRate.mk24_1000001 FxRate.mk24_1000002 FxRate.mk24_1000003 FxRate.mk24_1000004 FxRate.mk24_1000005 FxRate.mk24_1000006 FxRate.mk24_1000000 FxRate.dw25_19 FxRate.nc25_19 FxRate.mk25_0 FxRate.mk25_2 FxRate.mk25_1000001 FxRate.mk25_1000002 FxRate.mk25_1000003 FxRate.mk25_1000004 FxRate.mk25_1000000 FxRate.mk40_0 FxRate.mk40_2 FxRate.mk40_4 FxRate.mk40_1000001 FxRate.mk40_1000002 FxRate.mk40_1000003 FxRate.mk40_1000004 FxRate.mk40_1000005 FxRate.mk40_1000006 FxRate.mk40_1000007 FxRate.mk40_1000000 FxRate.mk41_0 FxRate.mk41_1000001 FxRate.mk41_1000002 FxRate.mk41_1000003 FxRate.mk41_1000004 FxRate.mk41_1000000 FxRate.mk66_1000000 FxRate.dw67_9 FxRate.nc67_9 FxRate.mk67_1000000 FxRate.dw68_5 FxRate.nc68_5 FxRate.dw68_10 FxRate.nc68_10 FxRate.dw68_15 FxRate.nc68_15 FxRate.mk68_0 FxRate.mk68_2 FxRate.mk68_4 FxRate.mk68_1000001 FxRate.mk68_1000002 FxRate.mk68_1000003 FxRate.mk68_1000004 FxRate.mk68_1000005 FxRate.mk68_1000006 FxRate.mk68_1000000 FxRate.mk87_1000001 FxRate.mk87_1000000 FxRate.mk88_1000001 FxRate.mk88_1000000 FxRate.mk89_0 FxRate.mk89_1000001 FxRate.mk89_1000002 FxRate.mk89_1000000 FxRate.mk90_1000000 FxRate.mk91_1000000 FxRate.dw92_10 FxRate.nc92_10 FxRate.mk92_0 FxRate.mk92_2 FxRate.mk92_1000001 FxRate.mk92_1000002 FxRate.mk92_1000003 FxRate.mk92_1000004 FxRate.mk92_1000000 FxRate.mk93_1000001 FxRate.mk93_1000000 FxRate.mk94_1000000 FxRate.mk95_1000000 FxRate.mk128_1000000 FxRate.mk129_0 FxRate.mk129_1000001 FxRate.mk129_1000002 FxRate.mk129_1000000 FxRate.mk130_1000000 FxRate.mk131_0 FxRate.mk131_1000001 FxRate.mk131_1000002 FxRate.mk131_1000000 FxRate.mk150_0 FxRate.mk150_1000001 FxRate.mk150_1000002 FxRate.mk150_1000000
theorem sFault_run (s : Sky) (h : okSky s) : sFault.run [s.D] = some [.int .i64 (fault s)] := specC_run (cOne cSky) _ _ s h
/-! ### how bright an object is -/
def shineR (s : Star) (t : Int) : Int := if t < s.start ∨ t ≥ s.stop then 0 else if s.wave.length = 0 then s.rate else s.rate + s.wave.getD (t % s.period / (s.period / s.wave.length)).toNat 0
def bright (t : Int) : Thing → Int
  | .st s => shineR s t
  | .ga g => g.rate
  | .bo b => b.2.2.2
def rateT (id t : Int) : List Thing → Int × Int
  | [] => (0, 8)
  | x :: r => if x.id = id then (bright t x, 0) else rateT id t r
def timedR (s : Sky) (t : Int) : Int := if fault s = 0 then (if tickBad t = true then 4 else 0) else fault s
def rateR (s : Sky) (id t : Int) : Int × Int := if timedR s t = 0 then rateT id t (things s) else (0, timedR s t)
theorem ph {t p : Int} (hp : 0 < p) : (t.tmod p < 0 → t % p = t.tmod p + p) ∧ (¬ t.tmod p < 0 → t % p = t.tmod p) := by
  have e := Int.mul_tdiv_add_tmod t p
  have l := Int.lt_tmod_of_pos t hp
  have u := Int.tmod_lt_of_pos t hp
  have e1 : t % p = t.tmod p % p := by
    conv => lhs; rw [← e]
    rw [Int.mul_add_emod_self_left]
  refine ⟨fun h => ?_, fun h => ?_⟩
  · rw [e1, ← Int.add_emod_right]
    exact Int.emod_eq_of_lt (by omega) (by omega)
  · rw [e1]
    exact Int.emod_eq_of_lt (by omega) (by omega)
/-- The phase of a star at a time. -/
theorem phase_at {s : Star} (hs : starF s = 0) (t : Int) (hn : 0 < s.wave.length) : 1 ≤ s.period ∧ s.period ≤ 17592186044416 ∧ s.wave.length ≤ 16 ∧ s.period.tdiv s.wave.length = s.period / s.wave.length ∧ 1 ≤ s.period / s.wave.length ∧ s.period / s.wave.length * s.wave.length = s.period ∧ 0 ≤ t % s.period ∧ t % s.period < s.period ∧ 0 ≤ t % s.period / (s.period / s.wave.length) ∧ t % s.period / (s.period / s.wave.length) < s.wave.length ∧
    ∃ w, s.wave[(t % s.period / (s.period / s.wave.length)).toNat]? = some w ∧ 0 ≤ w ∧ w ≤ 1048576 - s.rate := by
  obtain ⟨h1, h2, h3⟩ := starF_zero hs
  obtain ⟨p1, p2, p3⟩ := h2 hn
  have e := Int.tdiv_mul_add_tmod s.period s.wave.length
  rw [p3, Int.add_zero] at e
  have d : s.period.tdiv s.wave.length = s.period / s.wave.length := Int.tdiv_eq_ediv_of_nonneg (by omega)
  rw [d] at e
  have l : 1 ≤ s.period / s.wave.length := by
    rcases Int.lt_or_le 0 (s.period / s.wave.length) with h | h
    · omega
    · have := Int.mul_nonpos_of_nonpos_of_nonneg h (show (0 : Int) ≤ s.wave.length by omega)
      omega
  have m0 : 0 ≤ t % s.period := Int.emod_nonneg _ (by omega)
  have m1 : t % s.period < s.period := Int.emod_lt_of_pos _ (by omega)
  have q0 : 0 ≤ t % s.period / (s.period / s.wave.length) := Int.ediv_nonneg m0 (by omega)
  have q1 : t % s.period / (s.period / s.wave.length) < s.wave.length := Int.ediv_lt_of_lt_mul (by omega) (by rw [Int.mul_comm, e]; exact m1)
  refine ⟨p1, p2, h1, d, l, e, m0, m1, q0, q1, ?_⟩
  have hi : (t % s.period / (s.period / s.wave.length)).toNat < s.wave.length := by omega
  refine ⟨_, List.getElem?_eq_getElem hi, ?_⟩
  have hb : waveBad s.rate s.wave[(t % s.period / (s.period / s.wave.length)).toNat] = false := by
    cases hb : waveBad s.rate s.wave[(t % s.period / (s.period / s.wave.length)).toNat] with
    | false => rfl
    | true =>
      have := List.any_eq_true.2 ⟨_, List.getElem_mem hi, hb⟩
      rw [h3] at this; cases this
  simp only [waveBad, Bool.or_eq_false_iff, decide_eq_false_iff_not] at hb
  omega
def okShine (x : Star × Int) : Prop := starF x.1 = 0 ∧ (0 ≤ x.1.rate ∧ x.1.rate ≤ 1048576) ∧ -17592186044416 ≤ x.2 ∧ x.2 ≤ 17592186044416
noncomputable def sShine : Ev.Spec := specC (cCons cStar (cOne (cI .i64))) okShine fun x => [.int .i64 (shineR x.1 x.2)]
theorem sShine_run (s : Star) (t : Int) (h : okShine (s, t)) : sShine.run [s.D, .int .i64 t] = some [.int .i64 (shineR s t)] := specC_run (cCons cStar (cOne (cI .i64))) _ _ (s, t) h
noncomputable def T1 : Table := tableOf [(67, en67)]
theorem T1_ok : TableOk Try.prog (([] : Specs).map (·.1)) T1 := (table_cons Try.func67 (by kernel_rfl) (by kernel_rfl) table_nil)
theorem eShine (s : Star) (t : Int) (h : okShine (s, t)) : evTop Try.prog [] T1 0 1 67 [s.D, .int .i64 t] = some [.int .i64 (shineR s t)] := by
  obtain ⟨h1, h2, h3, h4⟩ := h
  simp only at h1 h2 h3 h4
  have hph := phase_at h1 t
  obtain ⟨i, ⟨x, y, z⟩, r, wv, p, f, to⟩ := s
  simp only at h2 hph
  have hS : Star.D ⟨i, (x, y, z), r, wv, p, f, to⟩ = .agg 79 [.int .i64 i, .agg 23 [.int .i64 x, .int .i64 y, .int .i64 z], .int .i64 r, .sl 37 (wv.map (.int .i64)), .int .i64 p, .int .i64 f, .int .i64 to] := rfl
  rw [hS]
  unfold shineR
  simp only
  unfold evTop
  simp only [List.map]
  rw [evF_s (fn := Try.f67) (msk := en67.ms) (hT := by rfl) (hb := by rfl)]
  by_cases c1 : t < f
  · rw [if_pos (.inl c1)]
    simp only [Try.f67, go_sem, Nat.reduceAdd, Nat.reduceSub, Nat.reduceMul, Nat.reduceEqDiff, Nat.reduceBEq, Nat.reduceLT, Nat.reduceLeDiff, Nat.reducePow, Int.reduceToNat, Int.reduceLT, Int.reduceLE, Int.reduceGT, Int.reduceGE, Int.reduceEq, Int.reduceNeg, Int.reduceAdd, Int.reduceSub, ↓reduceIte, reduceCtorEq, c1]
  by_cases c2 : t ≥ to
  · rw [if_pos (.inr c2)]
    simp only [Try.f67, go_sem, Nat.reduceAdd, Nat.reduceSub, Nat.reduceMul, Nat.reduceEqDiff, Nat.reduceBEq, Nat.reduceLT, Nat.reduceLeDiff, Nat.reducePow, Int.reduceToNat, Int.reduceLT, Int.reduceLE, Int.reduceGT, Int.reduceGE, Int.reduceEq, Int.reduceNeg, Int.reduceAdd, Int.reduceSub, ↓reduceIte, reduceCtorEq, c1, c2]
  rw [if_neg (by simp only [c1, c2, or_self, not_false_iff])]
  by_cases c3 : wv.length = 0
  · have c3' : (wv.length : Int) = 0 := by omega
    rw [if_pos c3]
    simp only [Try.f67, go_sem, Nat.reduceAdd, Nat.reduceSub, Nat.reduceMul, Nat.reduceEqDiff, Nat.reduceBEq, Nat.reduceLT, Nat.reduceLeDiff, Nat.reducePow, Int.reduceToNat, Int.reduceLT, Int.reduceLE, Int.reduceGT, Int.reduceGE, Int.reduceEq, Int.reduceNeg, Int.reduceAdd, Int.reduceSub, ↓reduceIte, reduceCtorEq, c1, c2, decide_eq_true c3']
  rw [if_neg c3]
  have c3' : ¬ (wv.length : Int) = 0 := by omega
  obtain ⟨p1, p2, n1, d1, l1, e1, m0, m1, q0, q1, w, hw, w0, w1⟩ := hph (by omega)
  have hp0 : ¬ p = 0 := by omega
  have hl0 : ¬ p / (wv.length : Int) = 0 := by omega
  have l2 : p / (wv.length : Int) ≤ p := by
    have := Int.mul_le_mul_of_nonneg_left (show (1 : Int) ≤ wv.length by omega) (show 0 ≤ p / (wv.length : Int) by omega)
    omega
  have v1 : IntKind.i64.wrap (p.tdiv wv.length) = p / wv.length := by rw [d1]; exact wi_in (by omega) (by omega)
  have t1 : (t % p).tdiv (p / wv.length) = t % p / (p / wv.length) := Int.tdiv_eq_ediv_of_nonneg m0
  have v2 : IntKind.i64.wrap (t % p / (p / wv.length)) = t % p / (p / wv.length) := wi_in (by omega) (by omega)
  have v3 : IntKind.i64.wrap (r + w) = r + w := wi_in (by omega) (by omega)
  have hx : (wv.map (D.int .i64))[(t % p / (p / wv.length)).toNat]? = some (.int .i64 w) := by simp [hw]
  have hgd : wv.getD (t % p / (p / wv.length)).toNat 0 = w := by rw [List.getD_eq_getElem?_getD, hw]; rfl
  rw [hgd]
  obtain ⟨h5, h6⟩ := ph (t := t) (p := p) (by omega)
  by_cases c4 : t.tmod p < 0
  · have v0 : IntKind.i64.wrap (t.tmod p + p) = t % p := by rw [← h5 c4]; exact wi_in (by omega) (by omega)
    simp only [Try.f67, go_sem, Nat.reduceAdd, Nat.reduceSub, Nat.reduceMul, Nat.reduceEqDiff, Nat.reduceBEq, Nat.reduceLT, Nat.reduceLeDiff, Nat.reducePow, Int.reduceToNat, Int.reduceLT, Int.reduceLE, Int.reduceGT, Int.reduceGE, Int.reduceEq, Int.reduceNeg, Int.reduceAdd, Int.reduceSub, ↓reduceIte, reduceCtorEq, c1, c2, c3', hp0, hl0, c4, v0, v1, t1, v2, q0, q1, hw, v3]
  · have v0 : t.tmod p = t % p := (h6 c4).symm
    have c4' : ¬ t % p < 0 := by omega
    simp only [Try.f67, go_sem, Nat.reduceAdd, Nat.reduceSub, Nat.reduceMul, Nat.reduceEqDiff, Nat.reduceBEq, Nat.reduceLT, Nat.reduceLeDiff, Nat.reducePow, Int.reduceToNat, Int.reduceLT, Int.reduceLE, Int.reduceGT, Int.reduceGE, Int.reduceEq, Int.reduceNeg, Int.reduceAdd, Int.reduceSub, ↓reduceIte, reduceCtorEq, c1, c2, c3', hp0, hl0, c4', v0, v1, t1, v2, q0, q1, hw, v3]
theorem shine_ok : SpecOk Try.prog 67 sShine := specC_ok mixed specs_nil T1_ok fun x h => ⟨0, 1, eShine x.1 x.2 h⟩
#print axioms shine_ok
/-! ### timed -/
noncomputable def sTimed : Ev.Spec := specC (cCons cSky (cOne (cI .i64))) (fun x => okSky x.1) fun x => [.int .i64 (timedR x.1 x.2)]
theorem sTimed_run (s : Sky) (t : Int) (h : okSky s) : sTimed.run [s.D, .int .i64 t] = some [.int .i64 (timedR s t)] := specC_run (cCons cSky (cOne (cI .i64))) _ _ (s, t) h
noncomputable def G2 : Specs := [(40, sFault)]
noncomputable def T2 : Table := tableOf [(66, en66)]
theorem G2_ok : ∀ g s, Ev.look G2 g = some s → SpecOk Try.prog g s := specs_cons check_ok specs_nil
theorem T2_ok : TableOk Try.prog (G2.map (·.1)) T2 := (table_cons Try.func66 (by kernel_rfl) (by kernel_rfl) table_nil)
def skyD (s : Sky) : D := .agg 47 [.int .i64 s.back, .sl 79 (s.stars.map Star.D), .sl 76 (s.gals.map Gal.D), .sl 39 (s.bods.map bD), bD s.home]
theorem sky_D (s : Sky) : s.D = .agg 47 [.int .i64 s.back, .sl 79 (s.stars.map Star.D), .sl 76 (s.gals.map Gal.D), .sl 39 (s.bods.map bD), bD s.home] := rfl
theorem eTimed (s : Sky) (t : Int) (h : okSky s) : evTop Try.prog G2 T2 0 1 66 [s.D, .int .i64 t] = some [.int .i64 (timedR s t)] := by
  have hf := sFault_run s h
  rw [sky_D] at hf ⊢
  unfold timedR
  generalize fault s = e at *
  unfold evTop
  simp only [List.map]
  rw [evF_s (fn := Try.f66) (msk := en66.ms) (hT := by rfl) (hb := by rfl)]
  by_cases c1 : e = 0
  case neg =>
    rw [if_neg c1]
    simp only [Try.f66, G2, go_sem, Nat.reduceAdd, Nat.reduceSub, Nat.reduceMul, Nat.reduceEqDiff, Nat.reduceBEq, Nat.reduceLT, Nat.reduceLeDiff, Nat.reducePow, Int.reduceToNat, Int.reduceLT, Int.reduceLE, Int.reduceGT, Int.reduceGE, Int.reduceEq, Int.reduceNeg, Int.reduceAdd, Int.reduceSub, ↓reduceIte, reduceCtorEq, hf, c1]
  rw [if_pos c1]
  by_cases c2 : t < -17592186044416
  · rw [if_pos (by simp [tickBad, c2])]
    simp only [Try.f66, G2, go_sem, Nat.reduceAdd, Nat.reduceSub, Nat.reduceMul, Nat.reduceEqDiff, Nat.reduceBEq, Nat.reduceLT, Nat.reduceLeDiff, Nat.reducePow, Int.reduceToNat, Int.reduceLT, Int.reduceLE, Int.reduceGT, Int.reduceGE, Int.reduceEq, Int.reduceNeg, Int.reduceAdd, Int.reduceSub, ↓reduceIte, reduceCtorEq, hf, c1, c2]
  by_cases c3 : t > 17592186044416
  · rw [if_pos (by simp [tickBad, c3])]
    simp only [Try.f66, G2, go_sem, Nat.reduceAdd, Nat.reduceSub, Nat.reduceMul, Nat.reduceEqDiff, Nat.reduceBEq, Nat.reduceLT, Nat.reduceLeDiff, Nat.reducePow, Int.reduceToNat, Int.reduceLT, Int.reduceLE, Int.reduceGT, Int.reduceGE, Int.reduceEq, Int.reduceNeg, Int.reduceAdd, Int.reduceSub, ↓reduceIte, reduceCtorEq, hf, c1, c2, c3]
  rw [if_neg (by simp only [tickBad, c2, c3, decide_false, Bool.or_false, Bool.false_eq_true, not_false_iff])]
  simp only [Try.f66, G2, go_sem, Nat.reduceAdd, Nat.reduceSub, Nat.reduceMul, Nat.reduceEqDiff, Nat.reduceBEq, Nat.reduceLT, Nat.reduceLeDiff, Nat.reducePow, Int.reduceToNat, Int.reduceLT, Int.reduceLE, Int.reduceGT, Int.reduceGE, Int.reduceEq, Int.reduceNeg, Int.reduceAdd, Int.reduceSub, ↓reduceIte, reduceCtorEq, hf, c1, c2, c3]
theorem timed_ok : SpecOk Try.prog 66 sTimed := specC_ok mixed G2_ok T2_ok fun x h => ⟨0, 1, eTimed x.1 x.2 h⟩
#print axioms timed_ok
theorem timed_zero {s : Sky} {t : Int} (h : timedR s t = 0) : fault s = 0 ∧ -17592186044416 ≤ t ∧ t ≤ 17592186044416 := by
  unfold timedR at h
  split at h
  · rename_i h1
    split at h
    · cases h
    · rename_i h2
      simp only [tickBad, Bool.or_eq_true, decide_eq_true_eq] at h2
      exact ⟨h1, by omega, by omega⟩
  · rename_i h1; exact absurd h h1
/-! ### Rate -/
noncomputable def sRate : Ev.Spec := specC (cCons cSky (cCons (cI .i64) (cOne (cI .i64)))) (fun x => okSky x.1) fun x => [.int .i64 (rateR x.1 x.2.1 x.2.2).1, .int .i64 (rateR x.1 x.2.1 x.2.2).2]
noncomputable def G : Specs := [(66, sTimed), (67, sShine)]
noncomputable def T : Table := tableOf [(24, en24)]
theorem G_ok : ∀ g s, Ev.look G g = some s → SpecOk Try.prog g s := specs_cons timed_ok (specs_cons shine_ok specs_nil)
theorem T_ok : TableOk Try.prog (G.map (·.1)) T := (table_cons Try.func24 (by kernel_rfl) (by kernel_rfl) table_nil)
def box (s : Sky) : Blk := ⟨1, 47, [.d s.D], true⟩
def p3 : V := .p (0, 3) 1 0 []
theorem drop_at {l : List Thing} {n : Nat} {x : Thing} {a : Int × Int} {id t : Int} (h : l[n]? = some x) (hf : a = rateT id t (l.drop n)) : (x.id = id → a = (bright t x, 0)) ∧ (¬ x.id = id → a = rateT id t (l.drop (n + 1))) := by
  obtain ⟨h1, h2⟩ := List.getElem?_eq_some_iff.1 h
  rw [List.drop_eq_getElem_cons h1, h2, rateT] at hf
  exact ⟨fun q => by rw [hf, if_pos q], fun q => by rw [hf, if_neg q]⟩
/-! #### stars -/
def h0 (s : Sky) (id t : Int) (i : Nat) : List V := hd24_0 (.d (.int .i64 id)) (.d (.int .i64 t)) p3 (.d (.sl 79 (s.stars.map Star.D))) (.d (.int .i64 s.stars.length)) (.d (.int .i64 i))
def J0 (s : Sky) (id t : Int) (x : Nat × Store) : Prop := x.1 ≤ s.stars.length ∧ x.2 (0, 3) = box s ∧ rateT id t (things s) = rateT id t ((things s).drop (x.1))
def Q0 (s : Sky) (id t : Int) (x : Nat × Store) (o : Out) : Prop := ∃ st', (o = some (.exit 0, hx24_0 (.d (.int .i64 id)) p3, st') ∧ st' (0, 3) = box s ∧ rateT id t (things s) = rateT id t ((things s).drop (s.stars.length))) ∨ o = some (.ret, hr24 (.d (.int .i64 (rateT id t (things s)).1)) (.d (.int .i64 (rateT id t (things s)).2)), st')
theorem loop0 (L : Nat) (call : Caller) (s : Sky) (id t : Int) (hs : okSky s) (hz : timedR s t = 0) :
    ∀ (m : Nat) (x : Nat × Store) (env : List V), J0 s id t x → s.stars.length - x.1 < m → mask (maskOf en24.ms 0) env = h0 s id t x.1 →
      Q0 s id t x (iter (evC Try.prog G call L en24.ms 0 0 lb24_0) (maskOf en24.ms 0) m env x.2) := by
  refine iter_rel _ _ (J0 s id t) (fun x => h0 s id t x.1) (fun x => x.2) (Q0 s id t) (fun x => s.stars.length - x.1) ?_
  rintro ⟨i, st⟩ ⟨hi, q3, qr⟩ k hk
  simp only at hi q3 qr
  by_cases hin : i < s.stars.length
  case neg =>
    obtain rfl : i = s.stars.length := by omega
    have hlt : ¬ (s.stars.length : Int) < s.stars.length := by omega
    refine ⟨st, .inl ⟨?_, q3, qr⟩⟩
    simp only [lb24_0, loopN, loops, h0, p3, hd24_0, hx24_0, Try.f24, go_sem, Nat.reduceAdd, Nat.reduceSub, Nat.reduceMul, Nat.reduceEqDiff, Nat.reduceBEq, Nat.reduceLT, Nat.reduceLeDiff, Nat.reducePow, Int.reduceToNat, Int.reduceLT, Int.reduceLE, Int.reduceGT, Int.reduceGE, Int.reduceEq, Int.reduceNeg, Int.reduceAdd, Int.reduceSub, ↓reduceIte, reduceCtorEq, hlt]
  have hlt : (i : Int) < s.stars.length := by omega
  obtain ⟨⟨hs1, hs3, hs4⟩, hs2⟩ := hs
  have hx : s.stars[i]? = some s.stars[i] := by simp [hin]
  have hmem : s.stars[i] ∈ s.stars := List.getElem_mem _
  have hth := th_st hin
  have g0 : (0 : Int) ≤ (i : Int) := by omega
  have ht : ((i : Int)).toNat = i := by omega
  have hw1 : IntKind.i64.wrap ((i : Int) + 1) = ((i + 1 : Nat) : Int) := by rw [IntWalk.i64_in _ (by omega)]; rfl
  obtain ⟨hd0, hd1⟩ := drop_at hth qr
  generalize s.stars[i] = x at *
  have hret : Thing.id (.st x) = id → ∀ st1, Q0 s id t (i, st) (some (.ret, hr24 (.d (.int .i64 (bright t (.st x)))) (.d (.int .i64 0)), st1)) := fun h1 st1 => ⟨st1, .inr (by rw [hd0 h1])⟩
  have hgo : ¬ Thing.id (.st x) = id → ∀ st1 env, st1 (0, 3) = box s → mask (maskOf en24.ms 0) env = h0 s id t (i + 1) → Q0 s id t (i, st) (k env st1) := fun h1 st1 env h2 h4 =>
    (hk (i + 1, st1) env ⟨by simp only; omega, h2, hd1 h1⟩ (by simp only; omega) h4 : Q0 s id t (i + 1, st1) _)
  obtain ⟨z1, z2, z3⟩ := timed_zero hz
  have hst := fault_star z1 hmem
  have rs := sShine_run x t ⟨hst.1, hst.2, z2, z3⟩
  obtain ⟨i1, ⟨u, v, w⟩, r, wv, p, f, to⟩ := x
  simp only [Thing.id, bright] at hret hgo
  generalize shineR ⟨i1, ⟨u, v, w⟩, r, wv, p, f, to⟩ t = B at *
  simp only [Star.D, vD] at rs
  by_cases c1 : i1 = id
  · have hq := hret c1
    have d1 : decide (i1 = id) = true := decide_eq_true c1
    simp only [lb24_0, loopN, loops, h0, p3, hd24_0, Try.f24, G, go_sem, Nat.reduceAdd, Nat.reduceSub, Nat.reduceMul, Nat.reduceEqDiff, Nat.reduceBEq, Nat.reduceLT, Nat.reduceLeDiff, Nat.reducePow, Int.reduceToNat, Int.reduceLT, Int.reduceLE, Int.reduceGT, Int.reduceGE, Int.reduceEq, Int.reduceNeg, Int.reduceAdd, Int.reduceSub, ↓reduceIte, reduceCtorEq, hlt, hx, g0, ht, hw1, Star.D, vD, d1, rs]
    exact hq _
  · have hq := hgo c1
    have d1 : decide (i1 = id) = false := decide_eq_false c1
    simp only [lb24_0, loopN, loops, h0, p3, hd24_0, Try.f24, G, go_sem, Nat.reduceAdd, Nat.reduceSub, Nat.reduceMul, Nat.reduceEqDiff, Nat.reduceBEq, Nat.reduceLT, Nat.reduceLeDiff, Nat.reducePow, Int.reduceToNat, Int.reduceLT, Int.reduceLE, Int.reduceGT, Int.reduceGE, Int.reduceEq, Int.reduceNeg, Int.reduceAdd, Int.reduceSub, ↓reduceIte, reduceCtorEq, hlt, hx, g0, ht, hw1, Star.D, vD, d1]
    exact hq _ _ (by simp only [go_sem, Nat.reduceAdd, Nat.reduceSub, Nat.reduceMul, Nat.reduceEqDiff, Nat.reduceBEq, Nat.reduceLT, Nat.reduceLeDiff, Nat.reducePow, Int.reduceToNat, Int.reduceLT, Int.reduceLE, Int.reduceGT, Int.reduceGE, Int.reduceEq, Int.reduceNeg, Int.reduceAdd, Int.reduceSub, ↓reduceIte, reduceCtorEq, q3]) (by simp only [h0, p3, hd24_0, Star.D, vD, go_sem, Nat.reduceAdd, Nat.reduceSub, Nat.reduceMul, Nat.reduceEqDiff, Nat.reduceBEq, Nat.reduceLT, Nat.reduceLeDiff, Nat.reducePow, Int.reduceToNat, Int.reduceLT, Int.reduceLE, Int.reduceGT, Int.reduceGE, Int.reduceEq, Int.reduceNeg, Int.reduceAdd, Int.reduceSub, ↓reduceIte, reduceCtorEq, hw1])
/-! #### gals -/
def h1 (s : Sky) (id t : Int) (i : Nat) : List V := hd24_2 (.d (.int .i64 id)) p3 (.d (.sl 76 (s.gals.map Gal.D))) (.d (.int .i64 s.gals.length)) (.d (.int .i64 i))
def J1 (s : Sky) (id t : Int) (x : Nat × Store) : Prop := x.1 ≤ s.gals.length ∧ x.2 (0, 3) = box s ∧ rateT id t (things s) = rateT id t ((things s).drop (s.stars.length + x.1))
def Q1 (s : Sky) (id t : Int) (x : Nat × Store) (o : Out) : Prop := ∃ st', (o = some (.exit 2, hx24_2 (.d (.int .i64 id)) p3, st') ∧ st' (0, 3) = box s ∧ rateT id t (things s) = rateT id t ((things s).drop (s.stars.length + s.gals.length))) ∨ o = some (.ret, hr24 (.d (.int .i64 (rateT id t (things s)).1)) (.d (.int .i64 (rateT id t (things s)).2)), st')
theorem loop1 (L : Nat) (call : Caller) (s : Sky) (id t : Int) (hs : okSky s) :
    ∀ (m : Nat) (x : Nat × Store) (env : List V), J1 s id t x → s.gals.length - x.1 < m → mask (maskOf en24.ms 2) env = h1 s id t x.1 →
      Q1 s id t x (iter (evC Try.prog G call L en24.ms 0 2 lb24_2) (maskOf en24.ms 2) m env x.2) := by
  refine iter_rel _ _ (J1 s id t) (fun x => h1 s id t x.1) (fun x => x.2) (Q1 s id t) (fun x => s.gals.length - x.1) ?_
  rintro ⟨i, st⟩ ⟨hi, q3, qr⟩ k hk
  simp only at hi q3 qr
  by_cases hin : i < s.gals.length
  case neg =>
    obtain rfl : i = s.gals.length := by omega
    have hlt : ¬ (s.gals.length : Int) < s.gals.length := by omega
    refine ⟨st, .inl ⟨?_, q3, qr⟩⟩
    simp only [lb24_2, loopN, loops, h1, p3, hd24_2, hx24_2, Try.f24, go_sem, Nat.reduceAdd, Nat.reduceSub, Nat.reduceMul, Nat.reduceEqDiff, Nat.reduceBEq, Nat.reduceLT, Nat.reduceLeDiff, Nat.reducePow, Int.reduceToNat, Int.reduceLT, Int.reduceLE, Int.reduceGT, Int.reduceGE, Int.reduceEq, Int.reduceNeg, Int.reduceAdd, Int.reduceSub, ↓reduceIte, reduceCtorEq, hlt]
  have hlt : (i : Int) < s.gals.length := by omega
  obtain ⟨⟨hs1, hs3, hs4⟩, hs2⟩ := hs
  have hx : s.gals[i]? = some s.gals[i] := by simp [hin]
  have hmem : s.gals[i] ∈ s.gals := List.getElem_mem _
  have hth := th_ga hin
  have g0 : (0 : Int) ≤ (i : Int) := by omega
  have ht : ((i : Int)).toNat = i := by omega
  have hw1 : IntKind.i64.wrap ((i : Int) + 1) = ((i + 1 : Nat) : Int) := by rw [IntWalk.i64_in _ (by omega)]; rfl
  obtain ⟨hd0, hd1⟩ := drop_at hth qr
  generalize s.gals[i] = x at *
  have hret : Thing.id (.ga x) = id → ∀ st1, Q1 s id t (i, st) (some (.ret, hr24 (.d (.int .i64 (bright t (.ga x)))) (.d (.int .i64 0)), st1)) := fun h1 st1 => ⟨st1, .inr (by rw [hd0 h1])⟩
  have hgo : ¬ Thing.id (.ga x) = id → ∀ st1 env, st1 (0, 3) = box s → mask (maskOf en24.ms 2) env = h1 s id t (i + 1) → Q1 s id t (i, st) (k env st1) := fun h1 st1 env h2 h4 =>
    (hk (i + 1, st1) env ⟨by simp only; omega, h2, hd1 h1⟩ (by simp only; omega) h4 : Q1 s id t (i + 1, st1) _)
  obtain ⟨i1, ⟨u, v, w⟩, r, wide, high⟩ := x
  simp only [Thing.id, bright] at hret hgo
  by_cases c1 : i1 = id
  · have hq := hret c1
    have d1 : decide (i1 = id) = true := decide_eq_true c1
    simp only [lb24_2, loopN, loops, h1, p3, hd24_2, Try.f24, G, go_sem, Nat.reduceAdd, Nat.reduceSub, Nat.reduceMul, Nat.reduceEqDiff, Nat.reduceBEq, Nat.reduceLT, Nat.reduceLeDiff, Nat.reducePow, Int.reduceToNat, Int.reduceLT, Int.reduceLE, Int.reduceGT, Int.reduceGE, Int.reduceEq, Int.reduceNeg, Int.reduceAdd, Int.reduceSub, ↓reduceIte, reduceCtorEq, hlt, hx, g0, ht, hw1, Gal.D, vD, d1]
    exact hq _
  · have hq := hgo c1
    have d1 : decide (i1 = id) = false := decide_eq_false c1
    simp only [lb24_2, loopN, loops, h1, p3, hd24_2, Try.f24, G, go_sem, Nat.reduceAdd, Nat.reduceSub, Nat.reduceMul, Nat.reduceEqDiff, Nat.reduceBEq, Nat.reduceLT, Nat.reduceLeDiff, Nat.reducePow, Int.reduceToNat, Int.reduceLT, Int.reduceLE, Int.reduceGT, Int.reduceGE, Int.reduceEq, Int.reduceNeg, Int.reduceAdd, Int.reduceSub, ↓reduceIte, reduceCtorEq, hlt, hx, g0, ht, hw1, Gal.D, vD, d1]
    exact hq _ _ (by simp only [go_sem, Nat.reduceAdd, Nat.reduceSub, Nat.reduceMul, Nat.reduceEqDiff, Nat.reduceBEq, Nat.reduceLT, Nat.reduceLeDiff, Nat.reducePow, Int.reduceToNat, Int.reduceLT, Int.reduceLE, Int.reduceGT, Int.reduceGE, Int.reduceEq, Int.reduceNeg, Int.reduceAdd, Int.reduceSub, ↓reduceIte, reduceCtorEq, q3]) (by simp only [h1, p3, hd24_2, Gal.D, vD, go_sem, Nat.reduceAdd, Nat.reduceSub, Nat.reduceMul, Nat.reduceEqDiff, Nat.reduceBEq, Nat.reduceLT, Nat.reduceLeDiff, Nat.reducePow, Int.reduceToNat, Int.reduceLT, Int.reduceLE, Int.reduceGT, Int.reduceGE, Int.reduceEq, Int.reduceNeg, Int.reduceAdd, Int.reduceSub, ↓reduceIte, reduceCtorEq, hw1])
/-! #### bods -/
def h2 (s : Sky) (id t : Int) (i : Nat) : List V := hd24_4 (.d (.int .i64 id)) (.d (.sl 39 (s.bods.map bD))) (.d (.int .i64 s.bods.length)) (.d (.int .i64 i))
def J2 (s : Sky) (id t : Int) (x : Nat × Store) : Prop := x.1 ≤ s.bods.length ∧ x.2 (0, 3) = box s ∧ rateT id t (things s) = rateT id t ((things s).drop (s.stars.length + s.gals.length + x.1))
def Q2 (s : Sky) (id t : Int) (x : Nat × Store) (o : Out) : Prop := ∃ st', (o = some (.exit 4, hx24_4, st') ∧ st' (0, 3) = box s ∧ rateT id t (things s) = rateT id t ((things s).drop (s.stars.length + s.gals.length + s.bods.length))) ∨ o = some (.ret, hr24 (.d (.int .i64 (rateT id t (things s)).1)) (.d (.int .i64 (rateT id t (things s)).2)), st')
theorem loop2 (L : Nat) (call : Caller) (s : Sky) (id t : Int) (hs : okSky s) :
    ∀ (m : Nat) (x : Nat × Store) (env : List V), J2 s id t x → s.bods.length - x.1 < m → mask (maskOf en24.ms 4) env = h2 s id t x.1 →
      Q2 s id t x (iter (evC Try.prog G call L en24.ms 0 4 lb24_4) (maskOf en24.ms 4) m env x.2) := by
  refine iter_rel _ _ (J2 s id t) (fun x => h2 s id t x.1) (fun x => x.2) (Q2 s id t) (fun x => s.bods.length - x.1) ?_
  rintro ⟨i, st⟩ ⟨hi, q3, qr⟩ k hk
  simp only at hi q3 qr
  by_cases hin : i < s.bods.length
  case neg =>
    obtain rfl : i = s.bods.length := by omega
    have hlt : ¬ (s.bods.length : Int) < s.bods.length := by omega
    refine ⟨st, .inl ⟨?_, q3, qr⟩⟩
    simp only [lb24_4, loopN, loops, h2, p3, hd24_4, hx24_4, Try.f24, go_sem, Nat.reduceAdd, Nat.reduceSub, Nat.reduceMul, Nat.reduceEqDiff, Nat.reduceBEq, Nat.reduceLT, Nat.reduceLeDiff, Nat.reducePow, Int.reduceToNat, Int.reduceLT, Int.reduceLE, Int.reduceGT, Int.reduceGE, Int.reduceEq, Int.reduceNeg, Int.reduceAdd, Int.reduceSub, ↓reduceIte, reduceCtorEq, hlt]
  have hlt : (i : Int) < s.bods.length := by omega
  obtain ⟨⟨hs1, hs3, hs4⟩, hs2⟩ := hs
  have hx : s.bods[i]? = some s.bods[i] := by simp [hin]
  have hmem : s.bods[i] ∈ s.bods := List.getElem_mem _
  have hth := th_bo hin
  have g0 : (0 : Int) ≤ (i : Int) := by omega
  have ht : ((i : Int)).toNat = i := by omega
  have hw1 : IntKind.i64.wrap ((i : Int) + 1) = ((i + 1 : Nat) : Int) := by rw [IntWalk.i64_in _ (by omega)]; rfl
  obtain ⟨hd0, hd1⟩ := drop_at hth qr
  generalize s.bods[i] = x at *
  have hret : Thing.id (.bo x) = id → ∀ st1, Q2 s id t (i, st) (some (.ret, hr24 (.d (.int .i64 (bright t (.bo x)))) (.d (.int .i64 0)), st1)) := fun h1 st1 => ⟨st1, .inr (by rw [hd0 h1])⟩
  have hgo : ¬ Thing.id (.bo x) = id → ∀ st1 env, st1 (0, 3) = box s → mask (maskOf en24.ms 4) env = h2 s id t (i + 1) → Q2 s id t (i, st) (k env st1) := fun h1 st1 env h2 h4 =>
    (hk (i + 1, st1) env ⟨by simp only; omega, h2, hd1 h1⟩ (by simp only; omega) h4 : Q2 s id t (i + 1, st1) _)
  obtain ⟨i1, ⟨u, v, w⟩, ⟨u2, v2, w2⟩, r⟩ := x
  simp only [Thing.id, bright] at hret hgo
  by_cases c1 : i1 = id
  · have hq := hret c1
    have d1 : decide (i1 = id) = true := decide_eq_true c1
    simp only [lb24_4, loopN, loops, h2, p3, hd24_4, Try.f24, G, go_sem, Nat.reduceAdd, Nat.reduceSub, Nat.reduceMul, Nat.reduceEqDiff, Nat.reduceBEq, Nat.reduceLT, Nat.reduceLeDiff, Nat.reducePow, Int.reduceToNat, Int.reduceLT, Int.reduceLE, Int.reduceGT, Int.reduceGE, Int.reduceEq, Int.reduceNeg, Int.reduceAdd, Int.reduceSub, ↓reduceIte, reduceCtorEq, hlt, hx, g0, ht, hw1, bD, vD, d1]
    exact hq _
  · have hq := hgo c1
    have d1 : decide (i1 = id) = false := decide_eq_false c1
    simp only [lb24_4, loopN, loops, h2, p3, hd24_4, Try.f24, G, go_sem, Nat.reduceAdd, Nat.reduceSub, Nat.reduceMul, Nat.reduceEqDiff, Nat.reduceBEq, Nat.reduceLT, Nat.reduceLeDiff, Nat.reducePow, Int.reduceToNat, Int.reduceLT, Int.reduceLE, Int.reduceGT, Int.reduceGE, Int.reduceEq, Int.reduceNeg, Int.reduceAdd, Int.reduceSub, ↓reduceIte, reduceCtorEq, hlt, hx, g0, ht, hw1, bD, vD, d1]
    exact hq _ _ (by simp only [go_sem, Nat.reduceAdd, Nat.reduceSub, Nat.reduceMul, Nat.reduceEqDiff, Nat.reduceBEq, Nat.reduceLT, Nat.reduceLeDiff, Nat.reducePow, Int.reduceToNat, Int.reduceLT, Int.reduceLE, Int.reduceGT, Int.reduceGE, Int.reduceEq, Int.reduceNeg, Int.reduceAdd, Int.reduceSub, ↓reduceIte, reduceCtorEq, q3]) (by simp only [h2, p3, hd24_4, bD, vD, go_sem, Nat.reduceAdd, Nat.reduceSub, Nat.reduceMul, Nat.reduceEqDiff, Nat.reduceBEq, Nat.reduceLT, Nat.reduceLeDiff, Nat.reducePow, Int.reduceToNat, Int.reduceLT, Int.reduceLE, Int.reduceGT, Int.reduceGE, Int.reduceEq, Int.reduceNeg, Int.reduceAdd, Int.reduceSub, ↓reduceIte, reduceCtorEq, hw1])
/-! #### as a whole -/
theorem eRate (s : Sky) (id t : Int) (hs : okSky s) : evTop Try.prog G T (s.stars.length + s.gals.length + s.bods.length + 1) 1 24 [s.D, .int .i64 id, .int .i64 t] = some [.int .i64 (rateR s id t).1, .int .i64 (rateR s id t).2] := by
  have htm := sTimed_run s t hs
  have hlen := things_len s
  have hB : box s = ⟨1, 47, [.d s.D], true⟩ := rfl
  rw [sky_D] at htm hB ⊢
  unfold rateR
  unfold evTop
  simp only [List.map]
  rw [evF_s (fn := Try.f24) (msk := en24.ms) (hT := by rfl) (hb := by rfl)]
  by_cases c1 : timedR s t = 0
  case neg =>
    rw [if_neg c1]
    generalize timedR s t = e at *
    simp only [Try.f24, G, go_sem, Nat.reduceAdd, Nat.reduceSub, Nat.reduceMul, Nat.reduceEqDiff, Nat.reduceBEq, Nat.reduceLT, Nat.reduceLeDiff, Nat.reducePow, Int.reduceToNat, Int.reduceLT, Int.reduceLE, Int.reduceGT, Int.reduceGE, Int.reduceEq, Int.reduceNeg, Int.reduceAdd, Int.reduceSub, ↓reduceIte, reduceCtorEq, htm, c1]
  have l0 := fun L call => loop0 L call s id t hs c1
  have l1 := fun L call => loop1 L call s id t hs
  have l2 := fun L call => loop2 L call s id t hs
  rw [if_pos c1]
  simp only [Try.f24, G, go_sem, Nat.reduceAdd, Nat.reduceSub, Nat.reduceMul, Nat.reduceEqDiff, Nat.reduceBEq, Nat.reduceLT, Nat.reduceLeDiff, Nat.reducePow, Int.reduceToNat, Int.reduceLT, Int.reduceLE, Int.reduceGT, Int.reduceGE, Int.reduceEq, Int.reduceNeg, Int.reduceAdd, Int.reduceSub, ↓reduceIte, reduceCtorEq, htm, c1]
  refine loop_then (R := Q0 s id t (0, _)) (l0 _ _ _ (0, _) _ ⟨by simp only; omega, by simp only [go_sem, Nat.reduceAdd, Nat.reduceSub, Nat.reduceMul, Nat.reduceEqDiff, Nat.reduceBEq, Nat.reduceLT, Nat.reduceLeDiff, Nat.reducePow, Int.reduceToNat, Int.reduceLT, Int.reduceLE, Int.reduceGT, Int.reduceGE, Int.reduceEq, Int.reduceNeg, Int.reduceAdd, Int.reduceSub, ↓reduceIte, reduceCtorEq, hB], rfl⟩ (by simp only; omega) (by simp only [h0, p3, hd24_0, go_sem, Nat.reduceAdd, Nat.reduceSub, Nat.reduceMul, Nat.reduceEqDiff, Nat.reduceBEq, Nat.reduceLT, Nat.reduceLeDiff, Nat.reducePow, Int.reduceToNat, Int.reduceLT, Int.reduceLE, Int.reduceGT, Int.reduceGE, Int.reduceEq, Int.reduceNeg, Int.reduceAdd, Int.reduceSub, ↓reduceIte, reduceCtorEq])) ?_
  rintro o ⟨st1, ⟨rfl, q3, qr⟩ | rfl⟩
  case inr => simp only [hr24, go_sem, Nat.reduceAdd, Nat.reduceSub, Nat.reduceMul, Nat.reduceEqDiff, Nat.reduceBEq, Nat.reduceLT, Nat.reduceLeDiff, Nat.reducePow, Int.reduceToNat, Int.reduceLT, Int.reduceLE, Int.reduceGT, Int.reduceGE, Int.reduceEq, Int.reduceNeg, Int.reduceAdd, Int.reduceSub, ↓reduceIte, reduceCtorEq]
  have q3' := q3
  rw [hB] at q3'
  simp only [hx24_0, p3, go_sem, Nat.reduceAdd, Nat.reduceSub, Nat.reduceMul, Nat.reduceEqDiff, Nat.reduceBEq, Nat.reduceLT, Nat.reduceLeDiff, Nat.reducePow, Int.reduceToNat, Int.reduceLT, Int.reduceLE, Int.reduceGT, Int.reduceGE, Int.reduceEq, Int.reduceNeg, Int.reduceAdd, Int.reduceSub, ↓reduceIte, reduceCtorEq, q3']
  refine loop_then (R := Q1 s id t (0, _)) (l1 _ _ _ (0, _) _ ⟨by simp only; omega, q3, qr⟩ (by simp only; omega) (by simp only [h1, p3, hd24_2, go_sem, Nat.reduceAdd, Nat.reduceSub, Nat.reduceMul, Nat.reduceEqDiff, Nat.reduceBEq, Nat.reduceLT, Nat.reduceLeDiff, Nat.reducePow, Int.reduceToNat, Int.reduceLT, Int.reduceLE, Int.reduceGT, Int.reduceGE, Int.reduceEq, Int.reduceNeg, Int.reduceAdd, Int.reduceSub, ↓reduceIte, reduceCtorEq])) ?_
  rintro o ⟨st2, ⟨rfl, q3, qr⟩ | rfl⟩
  case inr => simp only [hr24, go_sem, Nat.reduceAdd, Nat.reduceSub, Nat.reduceMul, Nat.reduceEqDiff, Nat.reduceBEq, Nat.reduceLT, Nat.reduceLeDiff, Nat.reducePow, Int.reduceToNat, Int.reduceLT, Int.reduceLE, Int.reduceGT, Int.reduceGE, Int.reduceEq, Int.reduceNeg, Int.reduceAdd, Int.reduceSub, ↓reduceIte, reduceCtorEq]
  have q3' := q3
  rw [hB] at q3'
  simp only [hx24_2, p3, go_sem, Nat.reduceAdd, Nat.reduceSub, Nat.reduceMul, Nat.reduceEqDiff, Nat.reduceBEq, Nat.reduceLT, Nat.reduceLeDiff, Nat.reducePow, Int.reduceToNat, Int.reduceLT, Int.reduceLE, Int.reduceGT, Int.reduceGE, Int.reduceEq, Int.reduceNeg, Int.reduceAdd, Int.reduceSub, ↓reduceIte, reduceCtorEq, q3']
  refine loop_then (R := Q2 s id t (0, _)) (l2 _ _ _ (0, _) _ ⟨by simp only; omega, q3, qr⟩ (by simp only; omega) (by simp only [h2, p3, hd24_4, go_sem, Nat.reduceAdd, Nat.reduceSub, Nat.reduceMul, Nat.reduceEqDiff, Nat.reduceBEq, Nat.reduceLT, Nat.reduceLeDiff, Nat.reducePow, Int.reduceToNat, Int.reduceLT, Int.reduceLE, Int.reduceGT, Int.reduceGE, Int.reduceEq, Int.reduceNeg, Int.reduceAdd, Int.reduceSub, ↓reduceIte, reduceCtorEq])) ?_
  rintro o ⟨st3, ⟨rfl, q3, qr⟩ | rfl⟩
  case inr => simp only [hr24, go_sem, Nat.reduceAdd, Nat.reduceSub, Nat.reduceMul, Nat.reduceEqDiff, Nat.reduceBEq, Nat.reduceLT, Nat.reduceLeDiff, Nat.reducePow, Int.reduceToNat, Int.reduceLT, Int.reduceLE, Int.reduceGT, Int.reduceGE, Int.reduceEq, Int.reduceNeg, Int.reduceAdd, Int.reduceSub, ↓reduceIte, reduceCtorEq]
  rw [← hlen, List.drop_length] at qr
  rw [qr]
  simp only [hx24_4, p3, go_sem, Nat.reduceAdd, Nat.reduceSub, Nat.reduceMul, Nat.reduceEqDiff, Nat.reduceBEq, Nat.reduceLT, Nat.reduceLeDiff, Nat.reducePow, Int.reduceToNat, Int.reduceLT, Int.reduceLE, Int.reduceGT, Int.reduceGE, Int.reduceEq, Int.reduceNeg, Int.reduceAdd, Int.reduceSub, ↓reduceIte, reduceCtorEq, rateT]
theorem rate_ok : SpecOk Try.prog 24 sRate := specC_ok mixed G_ok T_ok fun x h => ⟨_, 1, eRate x.1 x.2.1 x.2.2 h⟩
#print axioms rate_ok
end Go.Proofs.YtmhjmjodchbhlaaR.RateARate
end
section
set_option linter.unusedVariables false
set_option linter.unusedSimpArgs false
set_option maxRecDepth 100000
namespace Go.Proofs.YtmhjmjodchbhlaaR.PathdPath
open Go.Ev Go.Ari Go.Proofs.YtmhjmjodchbhlaaR.FxPath Go.Proofs.YtmhjmjodchbhlaaR.PullPull Go.Proofs.YtmhjmjodchbhlaaR.Pull2Pull Go.Proofs.YtmhjmjodchbhlaaR.PathPath
attribute [local go_sem] Ev.putR_s Ev.putR_0 Ev.thenO_s Ev.thenO_0 Ev.seqR_n Ev.seqR_e Ev.seqR_r Ev.seqR_0 Ev.blkR_e Ev.blkR_n Ev.blkR_r Ev.blkR_0 Ev.normR_s Ev.normR_0 Ev.outR_r Ev.outR_n Ev.outR_0 Ev.retS_s Ev.retS_0 Ev.pureO_s Ev.pureO_0 Ev.topR_0 Ev.topR_t Ev.topR_t0 Ev.oneL_0 Ev.oneL_s Ev.topR_d Ev.topR_nils Ev.topR_agg Ev.topR_rs Ev.evOp_move Ev.evOp_assign Ev.evOp_pick Ev.evOp_alloc Ev.evOp_box Ev.evOp_build Ev.evOp_buildSlice Ev.evOp_load Ev.evOp_store Ev.evOp_makeMap Ev.evOp_lookup Ev.evOp_mapUpdate Ev.evOp_insert Ev.evOp_nilCheck Ev.evOp_binOp Ev.evOp_unOp Ev.evOp_convert Ev.evOp_makeFunc Ev.evOp_makeSlice Ev.evOp_slice Ev.evOp_fieldAddr Ev.evOp_field Ev.evOp_indexAddr Ev.evOp_index Ev.evOp_extract Ev.evOp_call Ev.evOp_append Ev.evOp_len Ev.evOp_min Ev.evOp_max Ev.condR_b Ev.condR_t Ev.evOps_nil Ev.evOps_plain Ev.evOps_guard Ev.runG_eq Ev.skipG_eq Ev.condL_tt Ev.condL_ff Ev.condL_tf Ev.condL_ft Ev.condL_u Ev.condC_t Ev.condC_f Ev.evC_skip Ev.evC_ret Ev.evC_exit Ev.evC_label Ev.evC_region Ev.evC_draw Ev.evC_seq Ev.evC_cond Ev.evC_block Ev.evC_loop Ev.fin_d Ev.fin_nils Ev.fin_agg_ Ev.fin_rs Ev.finS_s Ev.mapO_fin Ev.upd_upd Ev.argv_d Ev.argv_nils Ev.argv_agg Ev.argv_rs Ev.argv_p Ev.appendTo_nils Ev.appendTo_rs Ev.consV_d Ev.consV_agg Ev.consV_p Ev.consV_rs Ev.consV_nils Ev.consV_fn Ev.consV_und Ev.consV_jk Ev.consV_grown Ev.topR_grown Ev.len_grown Ev.consV_mp Ev.sameK_i Ev.sameK_s Ev.mget_0 Ev.mget_hit Ev.mget_miss Ev.mput_0 Ev.mput_hit Ev.mput_miss Ev.apartAll Ev.apartL Ev.apartV Ev.freeAll Ev.sel Ev.keyOfV Ev.evLookup Ev.evPut Ev.hintOk Ev.keyOk Ev.consP Ev.lookV Ev.guardV Ev.dstAt Ev.evPure Ev.evStore Ev.evPureB Ev.evBin Ev.evBinO Ev.evNil Ev.isNilC Ev.evUn Ev.evConv Ev.evSlice Ev.optI Ev.lenV Ev.elemT Ev.foldI Ev.capsOk Ev.noTup Ev.nth Ev.setN Ev.pad Ev.V.get Ev.V.put Ev.putD Ev.hasT Ev.newBlk Ev.upd Ev.keq Ev.empty Ev.evCall Ev.V.args Ev.argP Ev.callOf Ev.evNilP Ev.isNilP Ev.look Ev.V.view.views Ev.V.view Ev.V.toD Ev.V.toD.V.toDs Ev.V.pure.pures Ev.V.pure Ev.D.flat.flats Ev.D.flat Ev.mkAgg Ev.allD Ev.aggParts Ev.setParts Ev.setElems Ev.getPath Ev.setPath Ev.subL Ev.eqD Ev.eqD.eqDs Ev.and2 Ev.strCut Ev.evalT Ev.constT Ev.evArgs Ev.mask Ev.maskOf Ev.tableOf Ev.compT Ev.resV Ev.retV Ev.mapO Ev.elemsOf Int.cast_ofNat_Int IntWalk.i64_in IntWalk.u64_in IntWalk.u8_in beq_self_eq_true Bool.true_beq Bool.false_beq Bool.and_true Bool.true_and Bool.false_and Bool.and_false Bool.and_self Bool.not_true Bool.not_false Bool.not_eq_true cond_true cond_false if_true if_false and_true true_and and_self decide_true decide_false Bool.or_true Bool.true_or Bool.or_false Bool.false_or List.isEmpty List.isEmpty_nil List.size_toArray List.map List.length_map List.length_cons List.length_nil Option.map Option.bind Option.getD Option.isSome List.replicate Bool.false_eq_true implies_true forall_const Array.toList Array.isEmpty List.append List.nil_append List.cons_append List.drop_zero List.take_length List.take_succ_cons List.take_zero List.take_nil List.getElem?_map List.getElem?_cons_zero List.getElem?_cons_succ List.getElem?_nil List.append_nil
attribute [local go_sem] FxPath.tk2 FxPath.ik2 FxPath.ek2 FxPath.zv2 FxPath.tk3 FxPath.ik3 FxPath.ek3 FxPath.zv3 FxPath.tk4 FxPath.ub4 FxPath.zv4 FxPath.tk23 FxPath.ct23 FxPath.ek23 FxPath.zv23 FxPath.tk27 FxPath.ik27 FxPath.zv27 FxPath.tk37 FxPath.ik37 FxPath.zv37 FxPath.tk39 FxPath.ct39 FxPath.zv39 FxPath.tk103 FxPath.mt103 FxPath.sm103 FxPath.zw23 FxPath.zv103 FxPath.mk6_1000000 FxPath.dw22_3 FxPath.nc22_3 FxPath.dw22_8 FxPath.nc22_8 FxPath.dw22_16 FxPath.nc22_16 FxPath.mk22_0 FxPath.mk22_2 FxPath.mk22_1000001 FxPath.mk22_1000002 FxPath.mk22_1000003 FxPath.mk22_1000004 FxPath.mk22_1000000 FxPath.dw23_6 FxPath.nc23_6 FxPath.mk23_1000000 FxPath.mk64_1000000 FxPath.mk65_0 FxPath.mk65_2 FxPath.mk65_1000001 FxPath.mk65_1000002 FxPath.mk65_1000003 FxPath.mk65_1000004 FxPath.mk65_1000000
noncomputable def G : Specs := [(50, sIn), (18, sStep)]
noncomputable def T : Table := tableOf [(23, en23), (65, en65)]
theorem G_ok : ∀ g s, Ev.look G g = some s → SpecOk Try.prog g s := specs_cons inside_ok (specs_cons stepB_ok specs_nil)
theorem T_ok : TableOk Try.prog (G.map (·.1)) T := (table_cons Try.func23 (by kernel_rfl) (by kernel_rfl) (table_cons Try.func65 (by kernel_rfl) (by kernel_rfl) table_nil))
/-! ### the places as a map has them -/
noncomputable def Y (s : St) (j : Int) : Vec := if j < 0 then s.1 else (tr s j.toNat).2.1
def vV (v : Vec) : V := .d (.agg 23 [.int .i64 v.1, .int .i64 v.2.1, .int .i64 v.2.2])
theorem Y_here (s : St) (k : Nat) : Y s (k : Int) = (tr s k).2.1 := by
  unfold Y
  rw [if_neg (by omega)]; rfl
theorem Y_prev {s : St} : ∀ {k : Nat}, (tr s k).2.2 = 0 → Y s ((k : Int) - 1) = (tr s k).1
  | 0, _ => by unfold Y; rw [if_pos (by omega)]; rfl
  | k + 1, h => by
    have h0 := tr_back h
    rw [show (((k + 1 : Nat) : Int) - 1) = (k : Int) by omega, Y_here, tr_go h0]
theorem tr_err {s : St} (h : ¬ s.2.2 = 0) (n : Nat) : tr s n = s := tr_stop (k := 0) h (Nat.zero_le n)
def mpk : V := .mp (33, 13) 1
/-- The map and the results' variables in the store. -/
def Has (st : Store) (p : Int → Option Vec) : Prop := ∃ m, st (33, 13) = ⟨1, mapE 103, m, true⟩ ∧ keysI .i64 m ∧ ∀ j v, p j = some v → mget m (.int .i64 j) = some (some (vV v))
def Z (st : Store) : Prop := st (0, 4) = row zV ∧ st (0, 5) = row zV
noncomputable def pF (s : St) (k : Nat) : Int → Option Vec := fun j => if -1 ≤ j ∧ j ≤ k then some (Y s j) else none
noncomputable def pB (p : Int → Option Vec) (s : St) (k : Nat) : Int → Option Vec := fun j => if j ≤ 0 ∧ -1 - (k : Int) ≤ j then some (Y s (-1 - j)) else if 0 < j then p j else none
def J1 (s : St) (day : Int) (x : Nat × Store) : Prop := x.1 ≤ day.toNat ∧ (tr s x.1).2.2 = 0 ∧ Z x.2 ∧ Has x.2 (pF s x.1)
def w1 (day : Int) (k : Nat) : List V := hd65_0 (.d (.int .i64 day)) mpk (.d (.int .i64 ((k : Int) + 1)))
def R1 (s : St) (day : Int) (x : Nat × Store) (o : Out) : Prop :=
  ∃ st', Z st' ∧ if (tr s day.toNat).2.2 = 0 then o = some (.exit 0, hx65_0 (.d (.int .i64 day)) mpk, st') ∧ Has st' (pF s day.toNat) else o = some (.ret, hr65 .jk (.d (.int .i64 (tr s day.toNat).2.2)), st')
theorem way1 (L : Nat) (call : Caller) (s : St) (day : Int) (hday : -400 ≤ day ∧ day ≤ 400) :
    ∀ (m : Nat) (x : Nat × Store) (env : List V), J1 s day x → day.toNat - x.1 < m → mask (maskOf en65.ms 0) env = w1 day x.1 →
      R1 s day x (iter (evC Try.prog G call L en65.ms 33 0 lb65_0) (maskOf en65.ms 0) m env x.2) := by
  refine iter_rel _ _ (J1 s day) (fun x => w1 day x.1) (fun x => x.2) (R1 s day) (fun x => day.toNat - x.1) ?_
  rintro ⟨k, st⟩ ⟨hk, he, hZ, m, hm, hkeys, hget⟩ K hK
  simp only at hk he hm hget
  replace hZ : Z st := hZ
  by_cases hn : (k : Int) + 1 ≤ day
  case neg =>
    obtain rfl : k = day.toNat := by omega
    refine ⟨st, hZ, ?_⟩
    rw [if_pos he]
    refine ⟨?_, m, hm, hkeys, hget⟩
    simp only [lb65_0, loopN, loops, w1, hd65_0, hx65_0, mpk, Try.f65, go_sem, Nat.reduceAdd, Nat.reduceSub, Nat.reduceMul, Nat.reduceEqDiff, Nat.reduceBEq, Nat.reduceLT, Nat.reduceLeDiff, Nat.reducePow, Int.reduceToNat, Int.reduceLT, Int.reduceLE, Int.reduceGT, Int.reduceGE, Int.reduceEq, Int.reduceNeg, Int.reduceAdd, Int.reduceSub, ↓reduceIte, reduceCtorEq, hn]
  have v1 : IntKind.i64.wrap ((k : Int) + 1 - 2) = (k : Int) - 1 := by rw [IntWalk.i64_in _ (by omega)]; omega
  have v2 : IntKind.i64.wrap ((k : Int) + 1 - 1) = (k : Int) := by rw [IntWalk.i64_in _ (by omega)]; omega
  have v3 : IntKind.i64.wrap ((k : Int) + 1 + 1) = ((k + 1 : Nat) : Int) + 1 := by rw [IntWalk.i64_in _ (by omega)]; omega
  have g1 := hget ((k : Int) - 1) (tr s k).1 (by unfold pF; rw [if_pos (by omega), Y_prev he])
  have g2 := hget (k : Int) (tr s k).2.1 (by unfold pF; rw [if_pos (by omega), Y_here])
  have rs := step_run (tr s k).1 (tr s k).2.1
  have hg := tr_go he
  have hd1 : IntKind.i64.wrap (day - 1) = day - 1 := IntWalk.i64_in _ (by omega)
  obtain ⟨z4, z5⟩ := hZ
  unfold vV at g1 g2
  by_cases hs : (stepR (tr s k).1 (tr s k).2.1).2 = 0
  case neg =>
    have hst : tr s day.toNat = tr s (k + 1) := tr_stop (by rw [hg]; exact hs) (by omega)
    have hd2 : (tr s day.toNat).2.2 = (stepR (tr s k).1 (tr s k).2.1).2 := by rw [hst, hg]
    have hQ : ∀ st1, Z st1 → R1 s day (k, st) (some (.ret, hr65 .jk (.d (.int .i64 (stepR (tr s k).1 (tr s k).2.1).2)), st1)) := fun st1 hz => ⟨st1, hz, by rw [hd2, if_neg hs]⟩
    simp only [lb65_0, loopN, loops, w1, hd65_0, mpk, Try.f65, G, go_sem, Nat.reduceAdd, Nat.reduceSub, Nat.reduceMul, Nat.reduceEqDiff, Nat.reduceBEq, Nat.reduceLT, Nat.reduceLeDiff, Nat.reducePow, Int.reduceToNat, Int.reduceLT, Int.reduceLE, Int.reduceGT, Int.reduceGE, Int.reduceEq, Int.reduceNeg, Int.reduceAdd, Int.reduceSub, ↓reduceIte, reduceCtorEq, hn, v1, v2, hm, g1, g2, rs, hs]
    exact hQ _ ⟨by simp only [go_sem, Nat.reduceAdd, Nat.reduceSub, Nat.reduceMul, Nat.reduceEqDiff, Nat.reduceBEq, Nat.reduceLT, Nat.reduceLeDiff, Nat.reducePow, Int.reduceToNat, Int.reduceLT, Int.reduceLE, Int.reduceGT, Int.reduceGE, Int.reduceEq, Int.reduceNeg, Int.reduceAdd, Int.reduceSub, ↓reduceIte, reduceCtorEq, z4], by simp only [go_sem, Nat.reduceAdd, Nat.reduceSub, Nat.reduceMul, Nat.reduceEqDiff, Nat.reduceBEq, Nat.reduceLT, Nat.reduceLeDiff, Nat.reducePow, Int.reduceToNat, Int.reduceLT, Int.reduceLE, Int.reduceGT, Int.reduceGE, Int.reduceEq, Int.reduceNeg, Int.reduceAdd, Int.reduceSub, ↓reduceIte, reduceCtorEq, z5]⟩
  obtain ⟨m', hp, hk', hget'⟩ := keysI_put (n := (k : Int) + 1) (v := vV (stepR (tr s k).1 (tr s k).2.1).1) hkeys
  unfold vV at hp
  have hstep := fun st1 env h1 h2 h3 => (hK (k + 1, st1) env h1 h2 h3 : R1 s day (k + 1, st1) _)
  simp only [lb65_0, loopN, loops, w1, hd65_0, mpk, Try.f65, G, go_sem, Nat.reduceAdd, Nat.reduceSub, Nat.reduceMul, Nat.reduceEqDiff, Nat.reduceBEq, Nat.reduceLT, Nat.reduceLeDiff, Nat.reducePow, Int.reduceToNat, Int.reduceLT, Int.reduceLE, Int.reduceGT, Int.reduceGE, Int.reduceEq, Int.reduceNeg, Int.reduceAdd, Int.reduceSub, ↓reduceIte, reduceCtorEq, hn, v1, v2, v3, hm, g1, g2, rs, hs, hp]
  refine hstep _ _ ⟨by simp only; omega, by rw [hg]; exact hs, ⟨by simp only [go_sem, Nat.reduceAdd, Nat.reduceSub, Nat.reduceMul, Nat.reduceEqDiff, Nat.reduceBEq, Nat.reduceLT, Nat.reduceLeDiff, Nat.reducePow, Int.reduceToNat, Int.reduceLT, Int.reduceLE, Int.reduceGT, Int.reduceGE, Int.reduceEq, Int.reduceNeg, Int.reduceAdd, Int.reduceSub, ↓reduceIte, reduceCtorEq, z4], by simp only [go_sem, Nat.reduceAdd, Nat.reduceSub, Nat.reduceMul, Nat.reduceEqDiff, Nat.reduceBEq, Nat.reduceLT, Nat.reduceLeDiff, Nat.reducePow, Int.reduceToNat, Int.reduceLT, Int.reduceLE, Int.reduceGT, Int.reduceGE, Int.reduceEq, Int.reduceNeg, Int.reduceAdd, Int.reduceSub, ↓reduceIte, reduceCtorEq, z5]⟩, m', by simp only [go_sem, Nat.reduceAdd, Nat.reduceSub, Nat.reduceMul, Nat.reduceEqDiff, Nat.reduceBEq, Nat.reduceLT, Nat.reduceLeDiff, Nat.reducePow, Int.reduceToNat, Int.reduceLT, Int.reduceLE, Int.reduceGT, Int.reduceGE, Int.reduceEq, Int.reduceNeg, Int.reduceAdd, Int.reduceSub, ↓reduceIte, reduceCtorEq], hk', ?_⟩ (by simp only; omega) (by simp only [w1, hd65_0, mpk, go_sem, Nat.reduceAdd, Nat.reduceSub, Nat.reduceMul, Nat.reduceEqDiff, Nat.reduceBEq, Nat.reduceLT, Nat.reduceLeDiff, Nat.reducePow, Int.reduceToNat, Int.reduceLT, Int.reduceLE, Int.reduceGT, Int.reduceGE, Int.reduceEq, Int.reduceNeg, Int.reduceAdd, Int.reduceSub, ↓reduceIte, reduceCtorEq])
  intro j v hj
  unfold pF at hj
  split at hj
  · rename_i hjr
    rw [hget']
    by_cases hjk : j = (k : Int) + 1
    · rw [if_pos hjk]
      cases hj
      have : Y s j = (tr s (k + 1)).2.1 := by rw [hjk]; exact Y_here s (k + 1)
      rw [this, hg]
    · rw [if_neg hjk]
      exact hget j v (by unfold pF; rw [if_pos (by simp only at hjr; omega)]; exact hj)
  · cases hj
def J2 (p : Int → Option Vec) (s : St) (day : Int) (x : Nat × Store) : Prop := x.1 ≤ (-day).toNat ∧ (tr s x.1).2.2 = 0 ∧ Z x.2 ∧ Has x.2 (pB p s x.1)
def w2 (day : Int) (k : Nat) : List V := hd65_2 (.d (.int .i64 day)) mpk (.d (.int .i64 (-2 - (k : Int))))
def R2 (p : Int → Option Vec) (s : St) (day : Int) (x : Nat × Store) (o : Out) : Prop :=
  ∃ st', Z st' ∧ if (tr s (-day).toNat).2.2 = 0 then o = some (.exit 2, hx65_2 mpk, st') ∧ Has st' (pB p s (-day).toNat) else o = some (.ret, hr65 .jk (.d (.int .i64 (tr s (-day).toNat).2.2)), st')
theorem way2 (L : Nat) (call : Caller) (p : Int → Option Vec) (s : St) (day : Int) (hday : -400 ≤ day ∧ day ≤ 400) :
    ∀ (m : Nat) (x : Nat × Store) (env : List V), J2 p s day x → (-day).toNat - x.1 < m → mask (maskOf en65.ms 2) env = w2 day x.1 →
      R2 p s day x (iter (evC Try.prog G call L en65.ms 33 2 lb65_2) (maskOf en65.ms 2) m env x.2) := by
  refine iter_rel _ _ (J2 p s day) (fun x => w2 day x.1) (fun x => x.2) (R2 p s day) (fun x => (-day).toNat - x.1) ?_
  rintro ⟨k, st⟩ ⟨hk, he, hZ, m, hm, hkeys, hget⟩ K hK
  simp only at hk he hm hget
  replace hZ : Z st := hZ
  have hd1 : IntKind.i64.wrap (day - 1) = day - 1 := IntWalk.i64_in _ (by omega)
  by_cases hn : -2 - (k : Int) ≥ day - 1
  case neg =>
    obtain rfl : k = (-day).toNat := by omega
    refine ⟨st, hZ, ?_⟩
    rw [if_pos he]
    refine ⟨?_, m, hm, hkeys, hget⟩
    simp only [lb65_2, loopN, loops, w2, hd65_2, hx65_2, mpk, Try.f65, go_sem, Nat.reduceAdd, Nat.reduceSub, Nat.reduceMul, Nat.reduceEqDiff, Nat.reduceBEq, Nat.reduceLT, Nat.reduceLeDiff, Nat.reducePow, Int.reduceToNat, Int.reduceLT, Int.reduceLE, Int.reduceGT, Int.reduceGE, Int.reduceEq, Int.reduceNeg, Int.reduceAdd, Int.reduceSub, ↓reduceIte, reduceCtorEq, hd1, hn]
  have v1 : IntKind.i64.wrap (-2 - (k : Int) + 2) = -(k : Int) := by rw [IntWalk.i64_in _ (by omega)]; omega
  have v2 : IntKind.i64.wrap (-2 - (k : Int) + 1) = -1 - (k : Int) := by rw [IntWalk.i64_in _ (by omega)]; omega
  have v3 : IntKind.i64.wrap (-2 - (k : Int) - 1) = -2 - ((k + 1 : Nat) : Int) := by rw [IntWalk.i64_in _ (by omega)]; omega
  have g1 := hget (-(k : Int)) (tr s k).1 (by unfold pB; rw [if_pos (by omega), show -1 - -(k : Int) = (k : Int) - 1 by omega, Y_prev he])
  have g2 := hget (-1 - (k : Int)) (tr s k).2.1 (by unfold pB; rw [if_pos (by omega), show -1 - (-1 - (k : Int)) = (k : Int) by omega, Y_here])
  have rs := step_run (tr s k).1 (tr s k).2.1
  have hg := tr_go he
  obtain ⟨z4, z5⟩ := hZ
  unfold vV at g1 g2
  by_cases hs : (stepR (tr s k).1 (tr s k).2.1).2 = 0
  case neg =>
    have hst : tr s (-day).toNat = tr s (k + 1) := tr_stop (by rw [hg]; exact hs) (by omega)
    have hd2 : (tr s (-day).toNat).2.2 = (stepR (tr s k).1 (tr s k).2.1).2 := by rw [hst, hg]
    have hQ : ∀ st1, Z st1 → R2 p s day (k, st) (some (.ret, hr65 .jk (.d (.int .i64 (stepR (tr s k).1 (tr s k).2.1).2)), st1)) := fun st1 hz => ⟨st1, hz, by rw [hd2, if_neg hs]⟩
    simp only [lb65_2, loopN, loops, w2, hd65_2, mpk, Try.f65, G, go_sem, Nat.reduceAdd, Nat.reduceSub, Nat.reduceMul, Nat.reduceEqDiff, Nat.reduceBEq, Nat.reduceLT, Nat.reduceLeDiff, Nat.reducePow, Int.reduceToNat, Int.reduceLT, Int.reduceLE, Int.reduceGT, Int.reduceGE, Int.reduceEq, Int.reduceNeg, Int.reduceAdd, Int.reduceSub, ↓reduceIte, reduceCtorEq, hd1, hn, v1, v2, hm, g1, g2, rs, hs]
    exact hQ _ ⟨by simp only [go_sem, Nat.reduceAdd, Nat.reduceSub, Nat.reduceMul, Nat.reduceEqDiff, Nat.reduceBEq, Nat.reduceLT, Nat.reduceLeDiff, Nat.reducePow, Int.reduceToNat, Int.reduceLT, Int.reduceLE, Int.reduceGT, Int.reduceGE, Int.reduceEq, Int.reduceNeg, Int.reduceAdd, Int.reduceSub, ↓reduceIte, reduceCtorEq, z4], by simp only [go_sem, Nat.reduceAdd, Nat.reduceSub, Nat.reduceMul, Nat.reduceEqDiff, Nat.reduceBEq, Nat.reduceLT, Nat.reduceLeDiff, Nat.reducePow, Int.reduceToNat, Int.reduceLT, Int.reduceLE, Int.reduceGT, Int.reduceGE, Int.reduceEq, Int.reduceNeg, Int.reduceAdd, Int.reduceSub, ↓reduceIte, reduceCtorEq, z5]⟩
  obtain ⟨m', hp, hk', hget'⟩ := keysI_put (n := -2 - (k : Int)) (v := vV (stepR (tr s k).1 (tr s k).2.1).1) hkeys
  unfold vV at hp
  have hstep := fun st1 env h1 h2 h3 => (hK (k + 1, st1) env h1 h2 h3 : R2 p s day (k + 1, st1) _)
  simp only [lb65_2, loopN, loops, w2, hd65_2, mpk, Try.f65, G, go_sem, Nat.reduceAdd, Nat.reduceSub, Nat.reduceMul, Nat.reduceEqDiff, Nat.reduceBEq, Nat.reduceLT, Nat.reduceLeDiff, Nat.reducePow, Int.reduceToNat, Int.reduceLT, Int.reduceLE, Int.reduceGT, Int.reduceGE, Int.reduceEq, Int.reduceNeg, Int.reduceAdd, Int.reduceSub, ↓reduceIte, reduceCtorEq, hd1, hn, v1, v2, v3, hm, g1, g2, rs, hs, hp]
  refine hstep _ _ ⟨by simp only; omega, by rw [hg]; exact hs, ⟨by simp only [go_sem, Nat.reduceAdd, Nat.reduceSub, Nat.reduceMul, Nat.reduceEqDiff, Nat.reduceBEq, Nat.reduceLT, Nat.reduceLeDiff, Nat.reducePow, Int.reduceToNat, Int.reduceLT, Int.reduceLE, Int.reduceGT, Int.reduceGE, Int.reduceEq, Int.reduceNeg, Int.reduceAdd, Int.reduceSub, ↓reduceIte, reduceCtorEq, z4], by simp only [go_sem, Nat.reduceAdd, Nat.reduceSub, Nat.reduceMul, Nat.reduceEqDiff, Nat.reduceBEq, Nat.reduceLT, Nat.reduceLeDiff, Nat.reducePow, Int.reduceToNat, Int.reduceLT, Int.reduceLE, Int.reduceGT, Int.reduceGE, Int.reduceEq, Int.reduceNeg, Int.reduceAdd, Int.reduceSub, ↓reduceIte, reduceCtorEq, z5]⟩, m', by simp only [go_sem, Nat.reduceAdd, Nat.reduceSub, Nat.reduceMul, Nat.reduceEqDiff, Nat.reduceBEq, Nat.reduceLT, Nat.reduceLeDiff, Nat.reducePow, Int.reduceToNat, Int.reduceLT, Int.reduceLE, Int.reduceGT, Int.reduceGE, Int.reduceEq, Int.reduceNeg, Int.reduceAdd, Int.reduceSub, ↓reduceIte, reduceCtorEq], hk', ?_⟩ (by simp only; omega) (by simp only [w2, hd65_2, mpk, go_sem, Nat.reduceAdd, Nat.reduceSub, Nat.reduceMul, Nat.reduceEqDiff, Nat.reduceBEq, Nat.reduceLT, Nat.reduceLeDiff, Nat.reducePow, Int.reduceToNat, Int.reduceLT, Int.reduceLE, Int.reduceGT, Int.reduceGE, Int.reduceEq, Int.reduceNeg, Int.reduceAdd, Int.reduceSub, ↓reduceIte, reduceCtorEq])
  intro j v hj
  rw [hget']
  by_cases hjk : j = -2 - (k : Int)
  · rw [if_pos hjk]
    unfold pB at hj
    rw [if_pos (by simp only; omega), show -1 - j = ((k + 1 : Nat) : Int) by omega, Y_here, hg] at hj
    cases hj; rfl
  · rw [if_neg hjk]
    refine hget j v ?_
    unfold pB at hj ⊢
    simp only at hj
    split at hj
    · rw [if_pos (by omega)]; exact hj
    · rw [if_neg (by omega)]; exact hj
/-! ### way as a whole -/
noncomputable def S0 (b : Bod) : St := (b.2.1, b.2.2.1, 0)
noncomputable def X (b : Bod) (day : Int) : St := pathS b.2.1 b.2.2.1 day
theorem X_pos (b : Bod) {day : Int} (h : 0 < day) : X b day = tr (S0 b) day.toNat ∧ (-day).toNat = 0 := by
  have : (-day).toNat = 0 := by omega
  refine ⟨?_, this⟩
  unfold X pathS
  rw [this]; rfl
theorem X_neg (b : Bod) {day : Int} (h : ¬ 0 < day) : X b day = sw (tr (sw (S0 b)) (-day).toNat) ∧ day.toNat = 0 := by
  have : day.toNat = 0 := by omega
  refine ⟨?_, this⟩
  unfold X pathS
  rw [this]; rfl
def C (st : Store) : Prop := Z st ∧ (st (33, 13)).ver = 0
def Got (b : Bod) (day : Int) (st : Store) (m : List V) : Prop := st (33, 13) = ⟨1, mapE 103, m, true⟩ ∧ mget m (.int .i64 (day - 1)) = some (some (vV (X b day).1)) ∧ mget m (.int .i64 day) = some (some (vV (X b day).2.1))
noncomputable def call65 (L : Nat) (b : Bod) (day : Int) (st : Store) : Option (V × Store) :=
  evF Try.prog G T L 1 65 [.d (.agg 39 [.int .i64 b.1, .agg 23 [.int .i64 b.2.1.1, .int .i64 b.2.1.2.1, .int .i64 b.2.1.2.2], .agg 23 [.int .i64 b.2.2.1.1, .int .i64 b.2.2.1.2.1, .int .i64 b.2.2.1.2.2], .int .i64 b.2.2.2]), .d (.int .i64 day)] 33 st
def Ans (b : Bod) (day : Int) (z : Option (V × Store)) : Prop := ∃ st', Z st' ∧ if (X b day).2.2 = 0 then z = some (.tup [mpk, .d (.int .i64 0)], st') ∧ ∃ m, Got b day st' m else z = some (.tup [.jk, .d (.int .i64 (X b day).2.2)], st')
theorem ex_then {R : Out → Prop} {o : Out} {P : Program} {rs : List ResultVar} {id : Nat} {k : Run} {C : Option (V × Store) → Prop} (hR : R o) (h : ∀ o, R o → C (outR P rs (seqR (blkR id o) k))) : C (outR P rs (seqR (blkR id o) k)) := h o hR
theorem eWay (b : Bod) (day : Int) (hday : -400 ≤ day ∧ day ≤ 400) (st : Store) (hC : C st) : Ans b day (call65 (day.natAbs + 1) b day st) := by
  obtain ⟨⟨z4, z5⟩, hver⟩ := hC
  unfold call65
  rw [evF_s (fn := Try.f65) (msk := en65.ms) (hT := by rfl) (hb := by rfl)]
  simp only [Try.f65, G, go_sem, Nat.reduceAdd, Nat.reduceSub, Nat.reduceMul, Nat.reduceEqDiff, Nat.reduceBEq, Nat.reduceLT, Nat.reduceLeDiff, Nat.reducePow, Int.reduceToNat, Int.reduceLT, Int.reduceLE, Int.reduceGT, Int.reduceGE, Int.reduceEq, Int.reduceNeg, Int.reduceAdd, Int.reduceSub, ↓reduceIte, reduceCtorEq, hver]
  refine ex_then (C := Ans b day) (R := R1 (S0 b) day (0, _)) (way1 _ _ (S0 b) day hday _ (0, _) _ ⟨by simp only; omega, rfl, ⟨by simp only [go_sem, Nat.reduceAdd, Nat.reduceSub, Nat.reduceMul, Nat.reduceEqDiff, Nat.reduceBEq, Nat.reduceLT, Nat.reduceLeDiff, Nat.reducePow, Int.reduceToNat, Int.reduceLT, Int.reduceLE, Int.reduceGT, Int.reduceGE, Int.reduceEq, Int.reduceNeg, Int.reduceAdd, Int.reduceSub, ↓reduceIte, reduceCtorEq, z4], by simp only [go_sem, Nat.reduceAdd, Nat.reduceSub, Nat.reduceMul, Nat.reduceEqDiff, Nat.reduceBEq, Nat.reduceLT, Nat.reduceLeDiff, Nat.reducePow, Int.reduceToNat, Int.reduceLT, Int.reduceLE, Int.reduceGT, Int.reduceGE, Int.reduceEq, Int.reduceNeg, Int.reduceAdd, Int.reduceSub, ↓reduceIte, reduceCtorEq, z5]⟩, [.d (.int .i64 (-1)), vV b.2.1, .d (.int .i64 0), vV b.2.2.1], by simp only [go_sem, Nat.reduceAdd, Nat.reduceSub, Nat.reduceMul, Nat.reduceEqDiff, Nat.reduceBEq, Nat.reduceLT, Nat.reduceLeDiff, Nat.reducePow, Int.reduceToNat, Int.reduceLT, Int.reduceLE, Int.reduceGT, Int.reduceGE, Int.reduceEq, Int.reduceNeg, Int.reduceAdd, Int.reduceSub, ↓reduceIte, reduceCtorEq, vV], ⟨⟨_, rfl⟩, ⟨_, rfl⟩, trivial⟩, ?_⟩ (by simp only; omega) (by simp only [w1, hd65_0, mpk, show ((0 : Nat) : Int) + 1 = 1 from rfl, go_sem, Nat.reduceAdd, Nat.reduceSub, Nat.reduceMul, Nat.reduceEqDiff, Nat.reduceBEq, Nat.reduceLT, Nat.reduceLeDiff, Nat.reducePow, Int.reduceToNat, Int.reduceLT, Int.reduceLE, Int.reduceGT, Int.reduceGE, Int.reduceEq, Int.reduceNeg, Int.reduceAdd, Int.reduceSub, ↓reduceIte, reduceCtorEq])) ?_
  · intro j v hj
    unfold pF at hj
    split at hj
    · rename_i hjr
      simp only at hjr
      cases hj
      by_cases h0 : j = 0
      · subst h0
        rw [mget_miss _ _ _ _ (by simp [sameK_i]), mget_hit _ _ _ _ (by simp [sameK_i])]
        rfl
      · obtain rfl : j = -1 := by omega
        rw [mget_hit _ _ _ _ (by simp [sameK_i])]
        rfl
    · cases hj
  rintro o ⟨st1, hZ1, h1⟩
  by_cases e1 : (tr (S0 b) day.toNat).2.2 = 0
  case neg =>
    rw [if_neg e1] at h1
    rw [h1]
    have hp : 0 < day := by
      apply Classical.byContradiction
      intro hn
      rw [(X_neg b hn).2] at e1
      exact e1 rfl
    have hX := (X_pos b hp).1
    simp only [hr65, go_sem, Nat.reduceAdd, Nat.reduceSub, Nat.reduceMul, Nat.reduceEqDiff, Nat.reduceBEq, Nat.reduceLT, Nat.reduceLeDiff, Nat.reducePow, Int.reduceToNat, Int.reduceLT, Int.reduceLE, Int.reduceGT, Int.reduceGE, Int.reduceEq, Int.reduceNeg, Int.reduceAdd, Int.reduceSub, ↓reduceIte, reduceCtorEq]
    exact ⟨st1, hZ1, by rw [hX, if_neg e1]⟩
  rw [if_pos e1] at h1
  obtain ⟨h1, hHas⟩ := h1
  rw [h1]
  simp only [hx65_0, go_sem, Nat.reduceAdd, Nat.reduceSub, Nat.reduceMul, Nat.reduceEqDiff, Nat.reduceBEq, Nat.reduceLT, Nat.reduceLeDiff, Nat.reducePow, Int.reduceToNat, Int.reduceLT, Int.reduceLE, Int.reduceGT, Int.reduceGE, Int.reduceEq, Int.reduceNeg, Int.reduceAdd, Int.reduceSub, ↓reduceIte, reduceCtorEq]
  refine ex_then (C := Ans b day) (R := R2 (pF (S0 b) day.toNat) (sw (S0 b)) day (0, st1)) (way2 _ _ (pF (S0 b) day.toNat) (sw (S0 b)) day hday _ (0, st1) _ ⟨by simp only; omega, rfl, hZ1, ?_⟩ (by simp only; omega) (by simp only [w2, hd65_2, mpk, show ((0 : Nat) : Int) = 0 from rfl, Int.sub_zero, go_sem, Nat.reduceAdd, Nat.reduceSub, Nat.reduceMul, Nat.reduceEqDiff, Nat.reduceBEq, Nat.reduceLT, Nat.reduceLeDiff, Nat.reducePow, Int.reduceToNat, Int.reduceLT, Int.reduceLE, Int.reduceGT, Int.reduceGE, Int.reduceEq, Int.reduceNeg, Int.reduceAdd, Int.reduceSub, ↓reduceIte, reduceCtorEq])) ?_
  · obtain ⟨m, q1, q2, q3⟩ := hHas
    refine ⟨m, q1, q2, fun j v hj => ?_⟩
    unfold pB at hj
    simp only at hj
    split at hj
    · cases hj
      by_cases h0 : j = 0
      · subst h0
        exact q3 0 _ (by unfold pF; rw [if_pos (by omega)]; rfl)
      · obtain rfl : j = -1 := by omega
        exact q3 (-1) _ (by unfold pF; rw [if_pos (by omega)]; rfl)
    · split at hj
      · exact q3 j v hj
      · cases hj
  rintro o ⟨st2, hZ2, h2⟩
  by_cases hp : 0 < day
  · obtain ⟨hX, hb⟩ := X_pos b hp
    rw [hb] at h2
    rw [if_pos (show (tr (sw (S0 b)) 0).2.2 = 0 from rfl)] at h2
    obtain ⟨h2, m, q1, q2, q3⟩ := h2
    rw [h2]
    simp only [hx65_2, go_sem, Nat.reduceAdd, Nat.reduceSub, Nat.reduceMul, Nat.reduceEqDiff, Nat.reduceBEq, Nat.reduceLT, Nat.reduceLeDiff, Nat.reducePow, Int.reduceToNat, Int.reduceLT, Int.reduceLE, Int.reduceGT, Int.reduceGE, Int.reduceEq, Int.reduceNeg, Int.reduceAdd, Int.reduceSub, ↓reduceIte, reduceCtorEq]
    refine ⟨st2, hZ2, ?_⟩
    rw [if_pos (by rw [hX]; exact e1)]
    have hc : ((day.toNat : Nat) : Int) = day := by omega
    refine ⟨rfl, m, q1, ?_, ?_⟩
    · refine q3 (day - 1) _ ?_
      have hy : Y (S0 b) (day - 1) = (X b day).1 := by rw [hX, ← Y_prev e1, hc]
      rw [← hy]
      unfold pB
      by_cases h1d : day - 1 ≤ 0
      · obtain rfl : day = 1 := by omega
        rw [if_pos (by omega)]; rfl
      · rw [if_neg (by omega), if_pos (by omega)]
        unfold pF; rw [if_pos (by omega)]
    · refine q3 day _ ?_
      have hy : Y (S0 b) day = (X b day).2.1 := by rw [hX, ← Y_here, hc]
      rw [← hy]
      unfold pB
      rw [if_neg (by omega), if_pos (by omega)]
      unfold pF; rw [if_pos (by omega)]
  · obtain ⟨hX, hb⟩ := X_neg b hp
    by_cases e2 : (tr (sw (S0 b)) (-day).toNat).2.2 = 0
    case neg =>
      rw [if_neg e2] at h2
      rw [h2]
      simp only [hr65, go_sem, Nat.reduceAdd, Nat.reduceSub, Nat.reduceMul, Nat.reduceEqDiff, Nat.reduceBEq, Nat.reduceLT, Nat.reduceLeDiff, Nat.reducePow, Int.reduceToNat, Int.reduceLT, Int.reduceLE, Int.reduceGT, Int.reduceGE, Int.reduceEq, Int.reduceNeg, Int.reduceAdd, Int.reduceSub, ↓reduceIte, reduceCtorEq]
      exact ⟨st2, hZ2, by rw [hX, if_neg (show ¬ (sw (tr (sw (S0 b)) (-day).toNat)).2.2 = 0 from e2)]; rfl⟩
    rw [if_pos e2] at h2
    obtain ⟨h2, m, q1, q2, q3⟩ := h2
    rw [h2]
    simp only [hx65_2, go_sem, Nat.reduceAdd, Nat.reduceSub, Nat.reduceMul, Nat.reduceEqDiff, Nat.reduceBEq, Nat.reduceLT, Nat.reduceLeDiff, Nat.reducePow, Int.reduceToNat, Int.reduceLT, Int.reduceLE, Int.reduceGT, Int.reduceGE, Int.reduceEq, Int.reduceNeg, Int.reduceAdd, Int.reduceSub, ↓reduceIte, reduceCtorEq]
    refine ⟨st2, hZ2, ?_⟩
    rw [if_pos (by rw [hX]; exact e2)]
    have hc : (((-day).toNat : Nat) : Int) = -day := by omega
    refine ⟨rfl, m, q1, ?_, ?_⟩
    · refine q3 (day - 1) _ ?_
      unfold pB
      rw [if_pos (by omega), show -1 - (day - 1) = (((-day).toNat : Nat) : Int) by omega, Y_here, hX]; rfl
    · refine q3 day _ ?_
      unfold pB
      rw [if_pos (by omega), show -1 - day = (((-day).toNat : Nat) : Int) - 1 by omega, Y_prev e2, hX]; rfl
end Go.Proofs.YtmhjmjodchbhlaaR.PathdPath
end
section
set_option linter.unusedVariables false
set_option linter.unusedSimpArgs false
set_option maxRecDepth 100000
namespace Go.Proofs.YtmhjmjodchbhlaaR.PathePath
open Go.Ev Go.Ari Go.Proofs.YtmhjmjodchbhlaaR.FxPath Go.Proofs.YtmhjmjodchbhlaaR.PullPull Go.Proofs.YtmhjmjodchbhlaaR.Pull2Pull Go.Proofs.YtmhjmjodchbhlaaR.PathdPath
open Go.Proofs.YtmhjmjodchbhlaaR.PathPath hiding G T G_ok T_ok
attribute [local go_sem] Ev.putR_s Ev.putR_0 Ev.thenO_s Ev.thenO_0 Ev.seqR_n Ev.seqR_e Ev.seqR_r Ev.seqR_0 Ev.blkR_e Ev.blkR_n Ev.blkR_r Ev.blkR_0 Ev.normR_s Ev.normR_0 Ev.outR_r Ev.outR_n Ev.outR_0 Ev.retS_s Ev.retS_0 Ev.pureO_s Ev.pureO_0 Ev.topR_0 Ev.topR_t Ev.topR_t0 Ev.oneL_0 Ev.oneL_s Ev.topR_d Ev.topR_nils Ev.topR_agg Ev.topR_rs Ev.evOp_move Ev.evOp_assign Ev.evOp_pick Ev.evOp_alloc Ev.evOp_box Ev.evOp_build Ev.evOp_buildSlice Ev.evOp_load Ev.evOp_store Ev.evOp_makeMap Ev.evOp_lookup Ev.evOp_mapUpdate Ev.evOp_insert Ev.evOp_nilCheck Ev.evOp_binOp Ev.evOp_unOp Ev.evOp_convert Ev.evOp_makeFunc Ev.evOp_makeSlice Ev.evOp_slice Ev.evOp_fieldAddr Ev.evOp_field Ev.evOp_indexAddr Ev.evOp_index Ev.evOp_extract Ev.evOp_call Ev.evOp_append Ev.evOp_len Ev.evOp_min Ev.evOp_max Ev.condR_b Ev.condR_t Ev.evOps_nil Ev.evOps_plain Ev.evOps_guard Ev.runG_eq Ev.skipG_eq Ev.condL_tt Ev.condL_ff Ev.condL_tf Ev.condL_ft Ev.condL_u Ev.condC_t Ev.condC_f Ev.evC_skip Ev.evC_ret Ev.evC_exit Ev.evC_label Ev.evC_region Ev.evC_draw Ev.evC_seq Ev.evC_cond Ev.evC_block Ev.evC_loop Ev.fin_d Ev.fin_nils Ev.fin_agg_ Ev.fin_rs Ev.finS_s Ev.mapO_fin Ev.upd_upd Ev.argv_d Ev.argv_nils Ev.argv_agg Ev.argv_rs Ev.argv_p Ev.appendTo_nils Ev.appendTo_rs Ev.consV_d Ev.consV_agg Ev.consV_p Ev.consV_rs Ev.consV_nils Ev.consV_fn Ev.consV_und Ev.consV_jk Ev.consV_grown Ev.topR_grown Ev.len_grown Ev.consV_mp Ev.sameK_i Ev.sameK_s Ev.mget_0 Ev.mget_hit Ev.mget_miss Ev.mput_0 Ev.mput_hit Ev.mput_miss Ev.apartAll Ev.apartL Ev.apartV Ev.freeAll Ev.sel Ev.keyOfV Ev.evLookup Ev.evPut Ev.hintOk Ev.keyOk Ev.consP Ev.lookV Ev.guardV Ev.dstAt Ev.evPure Ev.evStore Ev.evPureB Ev.evBin Ev.evBinO Ev.evNil Ev.isNilC Ev.evUn Ev.evConv Ev.evSlice Ev.optI Ev.lenV Ev.elemT Ev.foldI Ev.capsOk Ev.noTup Ev.nth Ev.setN Ev.pad Ev.V.get Ev.V.put Ev.putD Ev.hasT Ev.newBlk Ev.upd Ev.keq Ev.empty Ev.evCall Ev.V.args Ev.argP Ev.callOf Ev.evNilP Ev.isNilP Ev.look Ev.V.view.views Ev.V.view Ev.V.toD Ev.V.toD.V.toDs Ev.V.pure.pures Ev.V.pure Ev.D.flat.flats Ev.D.flat Ev.mkAgg Ev.allD Ev.aggParts Ev.setParts Ev.setElems Ev.getPath Ev.setPath Ev.subL Ev.eqD Ev.eqD.eqDs Ev.and2 Ev.strCut Ev.evalT Ev.constT Ev.evArgs Ev.mask Ev.maskOf Ev.tableOf Ev.compT Ev.resV Ev.retV Ev.mapO Ev.elemsOf Int.cast_ofNat_Int IntWalk.i64_in IntWalk.u64_in IntWalk.u8_in beq_self_eq_true Bool.true_beq Bool.false_beq Bool.and_true Bool.true_and Bool.false_and Bool.and_false Bool.and_self Bool.not_true Bool.not_false Bool.not_eq_true cond_true cond_false if_true if_false and_true true_and and_self decide_true decide_false Bool.or_true Bool.true_or Bool.or_false Bool.false_or List.isEmpty List.isEmpty_nil List.size_toArray List.map List.length_map List.length_cons List.length_nil Option.map Option.bind Option.getD Option.isSome List.replicate Bool.false_eq_true implies_true forall_const Array.toList Array.isEmpty List.append List.nil_append List.cons_append List.drop_zero List.take_length List.take_succ_cons List.take_zero List.take_nil List.getElem?_map List.getElem?_cons_zero List.getElem?_cons_succ List.getElem?_nil List.append_nil
attribute [local go_sem] FxPath.tk2 FxPath.ik2 FxPath.ek2 FxPath.zv2 FxPath.tk3 FxPath.ik3 FxPath.ek3 FxPath.zv3 FxPath.tk4 FxPath.ub4 FxPath.zv4 FxPath.tk23 FxPath.ct23 FxPath.ek23 FxPath.zv23 FxPath.tk27 FxPath.ik27 FxPath.zv27 FxPath.tk37 FxPath.ik37 FxPath.zv37 FxPath.tk39 FxPath.ct39 FxPath.zv39 FxPath.tk103 FxPath.mt103 FxPath.sm103 FxPath.zw23 FxPath.zv103 FxPath.mk6_1000000 FxPath.dw22_3 FxPath.nc22_3 FxPath.dw22_8 FxPath.nc22_8 FxPath.dw22_16 FxPath.nc22_16 FxPath.mk22_0 FxPath.mk22_2 FxPath.mk22_1000001 FxPath.mk22_1000002 FxPath.mk22_1000003 FxPath.mk22_1000004 FxPath.mk22_1000000 FxPath.dw23_6 FxPath.nc23_6 FxPath.mk23_1000000 FxPath.mk64_1000000 FxPath.mk65_0 FxPath.mk65_2 FxPath.mk65_1000001 FxPath.mk65_1000002 FxPath.mk65_1000003 FxPath.mk65_1000004 FxPath.mk65_1000000
def c0 : Store := upd (upd empty (0, 4) (row zV)) (0, 5) (row zV)
theorem c0_ok : C c0 := ⟨⟨by simp only [c0, go_sem, Nat.reduceAdd, Nat.reduceSub, Nat.reduceMul, Nat.reduceEqDiff, Nat.reduceBEq, Nat.reduceLT, Nat.reduceLeDiff, Nat.reducePow, Int.reduceToNat, Int.reduceLT, Int.reduceLE, Int.reduceGT, Int.reduceGE, Int.reduceEq, Int.reduceNeg, Int.reduceAdd, Int.reduceSub, ↓reduceIte, reduceCtorEq], by simp only [c0, go_sem, Nat.reduceAdd, Nat.reduceSub, Nat.reduceMul, Nat.reduceEqDiff, Nat.reduceBEq, Nat.reduceLT, Nat.reduceLeDiff, Nat.reducePow, Int.reduceToNat, Int.reduceLT, Int.reduceLE, Int.reduceGT, Int.reduceGE, Int.reduceEq, Int.reduceNeg, Int.reduceAdd, Int.reduceSub, ↓reduceIte, reduceCtorEq]⟩, rfl⟩
theorem wayOk (b : Bod) (day : Int) (hday : -400 ≤ day ∧ day ≤ 400) (h : (X b day).2.2 = 0) : ∃ (W : Store → Store) (M : Store → List V), ∀ st, Z (W st) ∧ Got b day (W st) (M st) ∧ (C st → call65 (day.natAbs + 1) b day st = some (.tup [mpk, .d (.int .i64 0)], W st)) := by
  have h0 : ∀ st, ∃ w m, Z w ∧ Got b day w m ∧ (C st → call65 (day.natAbs + 1) b day st = some (.tup [mpk, .d (.int .i64 0)], w)) := fun st => by
    by_cases hc : C st
    · obtain ⟨st', hz, hq⟩ := eWay b day hday st hc
      rw [if_pos h] at hq
      obtain ⟨hq, m, hg⟩ := hq
      exact ⟨st', m, hz, hg, fun _ => hq⟩
    · obtain ⟨st', hz, hq⟩ := eWay b day hday c0 c0_ok
      rw [if_pos h] at hq
      obtain ⟨hq, m, hg⟩ := hq
      exact ⟨st', m, hz, hg, fun q => absurd q hc⟩
  exact ⟨fun st => Classical.choose (h0 st), fun st => Classical.choose (Classical.choose_spec (h0 st)), fun st => Classical.choose_spec (Classical.choose_spec (h0 st))⟩
theorem wayNo (b : Bod) (day : Int) (hday : -400 ≤ day ∧ day ≤ 400) (h : ¬ (X b day).2.2 = 0) : ∃ (W : Store → Store), ∀ st, Z (W st) ∧ (C st → call65 (day.natAbs + 1) b day st = some (.tup [.jk, .d (.int .i64 (X b day).2.2)], W st)) := by
  have h0 : ∀ st, ∃ w, Z w ∧ (C st → call65 (day.natAbs + 1) b day st = some (.tup [.jk, .d (.int .i64 (X b day).2.2)], w)) := fun st => by
    by_cases hc : C st
    · obtain ⟨st', hz, hq⟩ := eWay b day hday st hc
      rw [if_neg h] at hq
      exact ⟨st', hz, fun _ => hq⟩
    · exact ⟨c0, c0_ok.1, fun q => absurd q hc⟩
  exact ⟨fun st => Classical.choose (h0 st), fun st => Classical.choose_spec (h0 st)⟩
theorem ePathd (b : Bod) (day : Int) : ∃ L c, evTop Try.prog G T L c 23 [bD b, .int .i64 day] = some [vD (pathR b.2.1 b.2.2.1 day).1, vD (pathR b.2.1 b.2.2.1 day).2.1, .int .i64 (pathR b.2.1 b.2.2.1 day).2.2] := by
  refine ⟨day.natAbs + 1, 2, ?_⟩
  unfold evTop
  simp only [List.map, bD]
  rw [evF_s (fn := Try.f23) (msk := en23.ms) (hT := by rfl) (hb := by rfl)]
  rw [pathR]
  have i1 := in_run b.2.1
  have i2 := in_run b.2.2.1
  by_cases c1 : day < -400
  · rw [if_pos (.inl c1)]
    simp only [Try.f23, G, go_sem, Nat.reduceAdd, Nat.reduceSub, Nat.reduceMul, Nat.reduceEqDiff, Nat.reduceBEq, Nat.reduceLT, Nat.reduceLeDiff, Nat.reducePow, Int.reduceToNat, Int.reduceLT, Int.reduceLE, Int.reduceGT, Int.reduceGE, Int.reduceEq, Int.reduceNeg, Int.reduceAdd, Int.reduceSub, ↓reduceIte, reduceCtorEq, c1, vD, zV]
  by_cases c2 : day > 400
  · rw [if_pos (.inr (.inl c2))]
    simp only [Try.f23, G, go_sem, Nat.reduceAdd, Nat.reduceSub, Nat.reduceMul, Nat.reduceEqDiff, Nat.reduceBEq, Nat.reduceLT, Nat.reduceLeDiff, Nat.reducePow, Int.reduceToNat, Int.reduceLT, Int.reduceLE, Int.reduceGT, Int.reduceGE, Int.reduceEq, Int.reduceNeg, Int.reduceAdd, Int.reduceSub, ↓reduceIte, reduceCtorEq, c1, c2, vD, zV]
  by_cases c3 : okV 4194304 b.2.1 = true
  case neg =>
    rw [if_pos (.inr (.inr (.inl c3)))]
    have c3' : okV 4194304 b.2.1 = false := by simpa using c3
    simp only [Try.f23, G, go_sem, Nat.reduceAdd, Nat.reduceSub, Nat.reduceMul, Nat.reduceEqDiff, Nat.reduceBEq, Nat.reduceLT, Nat.reduceLeDiff, Nat.reducePow, Int.reduceToNat, Int.reduceLT, Int.reduceLE, Int.reduceGT, Int.reduceGE, Int.reduceEq, Int.reduceNeg, Int.reduceAdd, Int.reduceSub, ↓reduceIte, reduceCtorEq, c1, c2, c3', i1, vD, zV]
  by_cases c4 : okV 4194304 b.2.2.1 = true
  case neg =>
    rw [if_pos (.inr (.inr (.inr c4)))]
    have c4' : okV 4194304 b.2.2.1 = false := by simpa using c4
    simp only [Try.f23, G, go_sem, Nat.reduceAdd, Nat.reduceSub, Nat.reduceMul, Nat.reduceEqDiff, Nat.reduceBEq, Nat.reduceLT, Nat.reduceLeDiff, Nat.reducePow, Int.reduceToNat, Int.reduceLT, Int.reduceLE, Int.reduceGT, Int.reduceGE, Int.reduceEq, Int.reduceNeg, Int.reduceAdd, Int.reduceSub, ↓reduceIte, reduceCtorEq, c1, c2, c3, c4', i1, i2, vD, zV]
  rw [if_neg (by simp only [c1, c2, c3, c4, not_true, or_self, not_false_iff])]
  have hday : -400 ≤ day ∧ day ≤ 400 := ⟨by omega, by omega⟩
  have hwd : IntKind.i64.wrap (day - 1) = day - 1 := IntWalk.i64_in _ (by omega)
  have eX : pathS b.2.1 b.2.2.1 day = X b day := rfl
  rw [eX]
  by_cases c5 : (X b day).2.2 = 0
  · obtain ⟨W, M, hW⟩ := wayOk b day hday c5
    have hw : ∀ st, C st → evF Try.prog G T (day.natAbs + 1) 1 65 [.d (.agg 39 [.int .i64 b.1, .agg 23 [.int .i64 b.2.1.1, .int .i64 b.2.1.2.1, .int .i64 b.2.1.2.2], .agg 23 [.int .i64 b.2.2.1.1, .int .i64 b.2.2.1.2.1, .int .i64 b.2.2.1.2.2], .int .i64 b.2.2.2]), .d (.int .i64 day)] 33 st = some (.tup [mpk, .d (.int .i64 0)], W st) := fun st h => (hW st).2.2 h
    have hz4 : ∀ st, W st (0, 4) = row zV := fun st => (hW st).1.1
    have hz5 : ∀ st, W st (0, 5) = row zV := fun st => (hW st).1.2
    have hm : ∀ st, W st (33, 13) = ⟨1, mapE 103, M st, true⟩ := fun st => (hW st).2.1.1
    have hg1 : ∀ st, mget (M st) (.int .i64 (day - 1)) = some (some (vV (X b day).1)) := fun st => (hW st).2.1.2.1
    have hg2 : ∀ st, mget (M st) (.int .i64 day) = some (some (vV (X b day).2.1)) := fun st => (hW st).2.1.2.2
    unfold vV at hg1 hg2
    unfold row zV at hz4 hz5
    rw [if_pos c5]
    simp only [Try.f23, G, go_sem, Nat.reduceAdd, Nat.reduceSub, Nat.reduceMul, Nat.reduceEqDiff, Nat.reduceBEq, Nat.reduceLT, Nat.reduceLeDiff, Nat.reducePow, Int.reduceToNat, Int.reduceLT, Int.reduceLE, Int.reduceGT, Int.reduceGE, Int.reduceEq, Int.reduceNeg, Int.reduceAdd, Int.reduceSub, ↓reduceIte, reduceCtorEq, c1, c2, c3, c4, i1, i2, vD]
    have hG : ([(50, sIn), (18, sStep)] : Specs) = G := rfl
    rw [hG, hw _ ⟨⟨by simp only [go_sem, Nat.reduceAdd, Nat.reduceSub, Nat.reduceMul, Nat.reduceEqDiff, Nat.reduceBEq, Nat.reduceLT, Nat.reduceLeDiff, Nat.reducePow, Int.reduceToNat, Int.reduceLT, Int.reduceLE, Int.reduceGT, Int.reduceGE, Int.reduceEq, Int.reduceNeg, Int.reduceAdd, Int.reduceSub, ↓reduceIte, reduceCtorEq, row, zV], by simp only [go_sem, Nat.reduceAdd, Nat.reduceSub, Nat.reduceMul, Nat.reduceEqDiff, Nat.reduceBEq, Nat.reduceLT, Nat.reduceLeDiff, Nat.reducePow, Int.reduceToNat, Int.reduceLT, Int.reduceLE, Int.reduceGT, Int.reduceGE, Int.reduceEq, Int.reduceNeg, Int.reduceAdd, Int.reduceSub, ↓reduceIte, reduceCtorEq, row, zV]⟩, by simp only [go_sem, Nat.reduceAdd, Nat.reduceSub, Nat.reduceMul, Nat.reduceEqDiff, Nat.reduceBEq, Nat.reduceLT, Nat.reduceLeDiff, Nat.reducePow, Int.reduceToNat, Int.reduceLT, Int.reduceLE, Int.reduceGT, Int.reduceGE, Int.reduceEq, Int.reduceNeg, Int.reduceAdd, Int.reduceSub, ↓reduceIte, reduceCtorEq]⟩]
    simp only [go_sem, Nat.reduceAdd, Nat.reduceSub, Nat.reduceMul, Nat.reduceEqDiff, Nat.reduceBEq, Nat.reduceLT, Nat.reduceLeDiff, Nat.reducePow, Int.reduceToNat, Int.reduceLT, Int.reduceLE, Int.reduceGT, Int.reduceGE, Int.reduceEq, Int.reduceNeg, Int.reduceAdd, Int.reduceSub, ↓reduceIte, reduceCtorEq, mpk, hz4, hz5, hm, hg1, hg2, hwd, vD, c5]
  · obtain ⟨W, hW⟩ := wayNo b day hday c5
    have hw : ∀ st, C st → evF Try.prog G T (day.natAbs + 1) 1 65 [.d (.agg 39 [.int .i64 b.1, .agg 23 [.int .i64 b.2.1.1, .int .i64 b.2.1.2.1, .int .i64 b.2.1.2.2], .agg 23 [.int .i64 b.2.2.1.1, .int .i64 b.2.2.1.2.1, .int .i64 b.2.2.1.2.2], .int .i64 b.2.2.2]), .d (.int .i64 day)] 33 st = some (.tup [.jk, .d (.int .i64 (X b day).2.2)], W st) := fun st h => (hW st).2 h
    have hz4 : ∀ st, W st (0, 4) = row zV := fun st => (hW st).1.1
    have hz5 : ∀ st, W st (0, 5) = row zV := fun st => (hW st).1.2
    unfold row zV at hz4 hz5
    rw [if_neg c5]
    simp only [Try.f23, G, go_sem, Nat.reduceAdd, Nat.reduceSub, Nat.reduceMul, Nat.reduceEqDiff, Nat.reduceBEq, Nat.reduceLT, Nat.reduceLeDiff, Nat.reducePow, Int.reduceToNat, Int.reduceLT, Int.reduceLE, Int.reduceGT, Int.reduceGE, Int.reduceEq, Int.reduceNeg, Int.reduceAdd, Int.reduceSub, ↓reduceIte, reduceCtorEq, c1, c2, c3, c4, i1, i2, vD]
    have hG : ([(50, sIn), (18, sStep)] : Specs) = G := rfl
    rw [hG, hw _ ⟨⟨by simp only [go_sem, Nat.reduceAdd, Nat.reduceSub, Nat.reduceMul, Nat.reduceEqDiff, Nat.reduceBEq, Nat.reduceLT, Nat.reduceLeDiff, Nat.reducePow, Int.reduceToNat, Int.reduceLT, Int.reduceLE, Int.reduceGT, Int.reduceGE, Int.reduceEq, Int.reduceNeg, Int.reduceAdd, Int.reduceSub, ↓reduceIte, reduceCtorEq, row, zV], by simp only [go_sem, Nat.reduceAdd, Nat.reduceSub, Nat.reduceMul, Nat.reduceEqDiff, Nat.reduceBEq, Nat.reduceLT, Nat.reduceLeDiff, Nat.reducePow, Int.reduceToNat, Int.reduceLT, Int.reduceLE, Int.reduceGT, Int.reduceGE, Int.reduceEq, Int.reduceNeg, Int.reduceAdd, Int.reduceSub, ↓reduceIte, reduceCtorEq, row, zV]⟩, by simp only [go_sem, Nat.reduceAdd, Nat.reduceSub, Nat.reduceMul, Nat.reduceEqDiff, Nat.reduceBEq, Nat.reduceLT, Nat.reduceLeDiff, Nat.reducePow, Int.reduceToNat, Int.reduceLT, Int.reduceLE, Int.reduceGT, Int.reduceGE, Int.reduceEq, Int.reduceNeg, Int.reduceAdd, Int.reduceSub, ↓reduceIte, reduceCtorEq]⟩]
    simp only [go_sem, Nat.reduceAdd, Nat.reduceSub, Nat.reduceMul, Nat.reduceEqDiff, Nat.reduceBEq, Nat.reduceLT, Nat.reduceLeDiff, Nat.reducePow, Int.reduceToNat, Int.reduceLT, Int.reduceLE, Int.reduceGT, Int.reduceGE, Int.reduceEq, Int.reduceNeg, Int.reduceAdd, Int.reduceSub, ↓reduceIte, reduceCtorEq, hz4, hz5, vD, zV, c5]
theorem pathd_ok : SpecOk Try.prog 23 sPath := specC_ok mixed G_ok T_ok fun x _ => ePathd x.1 x.2
#print axioms pathd_ok
end Go.Proofs.YtmhjmjodchbhlaaR.PathePath
end
section
set_option maxRecDepth 100000
namespace Go.Proofs.YtmhjmjodchbhlaaR.FxPlace
open Go.Ev
theorem tk2 : tk Try.prog 2 = .one := by kernel_rfl
theorem ik2 : intK Try.prog 2 = some .i64 := by kernel_rfl
theorem ek2 : ek Try.prog 2 = .int := by kernel_rfl
theorem zv2 : zeroV Try.prog 2 = some (.d (.int .i64 0)) := by kernel_rfl
theorem tk3 : tk Try.prog 3 = .one := by kernel_rfl
theorem ik3 : intK Try.prog 3 = some .i64 := by kernel_rfl
theorem zv3 : zeroV Try.prog 3 = some (.d (.int .i64 0)) := by kernel_rfl
theorem tk4 : tk Try.prog 4 = .one := by kernel_rfl
theorem ub4 : Try.prog.underlying 4 = some .bool := by kernel_rfl
theorem zv4 : zeroV Try.prog 4 = some (.d (.bool false)) := by kernel_rfl
theorem tk23 : tk Try.prog 23 = .agg 3 false := by kernel_rfl
theorem ct23 : compTs Try.prog 23 = [2, 2, 2] := by kernel_rfl
theorem ek23 : ek Try.prog 23 = .agg := by kernel_rfl
theorem zv23 : zeroV Try.prog 23 = some (.d (.agg 23 [.int .i64 0, .int .i64 0, .int .i64 0])) := by kernel_rfl
theorem tk27 : tk Try.prog 27 = .one := by kernel_rfl
theorem ik27 : intK Try.prog 27 = some .i64 := by kernel_rfl
theorem zv27 : zeroV Try.prog 27 = some (.d (.int .i64 0)) := by kernel_rfl
theorem tk37 : tk Try.prog 37 = .one := by kernel_rfl
theorem ik37 : intK Try.prog 37 = some .i64 := by kernel_rfl
theorem zv37 : zeroV Try.prog 37 = some (.d (.int .i64 0)) := by kernel_rfl
theorem tk39 : tk Try.prog 39 = .agg 4 false := by kernel_rfl
theorem ct39 : compTs Try.prog 39 = [3, 23, 23, 37] := by kernel_rfl
theorem zv39 : zeroV Try.prog 39 = some (.d (.agg 39 [.int .i64 0, .agg 23 [.int .i64 0, .int .i64 0, .int .i64 0], .agg 23 [.int .i64 0, .int .i64 0, .int .i64 0], .int .i64 0])) := by kernel_rfl
theorem tk48 : tk Try.prog 48 = .one := by kernel_rfl
theorem ik48 : intK Try.prog 48 = some .i64 := by kernel_rfl
theorem zv48 : zeroV Try.prog 48 = some (.d (.int .i64 0)) := by kernel_rfl
theorem tk91 : tk Try.prog 91 = .one := by kernel_rfl
theorem zv91 : zeroV Try.prog 91 = some (.jk) := by kernel_rfl
noncomputable def en8 : Entry := ⟨Try.f8, [(1000000, [false, false, false, false, true, false, false, false, false, false, false, false, false, false, false, false, false, false, false, false, false, false, false, false, false, false, false, false, false, false, false, false])]⟩
theorem mk8_1000000 (vs : List V) : mask (maskOf en8.ms 1000000) vs = mask [false, false, false, false, true, false, false, false, false, false, false, false, false, false, false, false, false, false, false, false, false, false, false, false, false, false, false, false, false, false, false, false] vs := nr rfl
def hr8 (t4 : V) : List V := [.und, .und, .und, .und, t4, .und, .und, .und, .und, .und, .und, .und, .und, .und, .und, .und, .und, .und, .und, .und, .und, .und, .und, .und, .und, .und, .und, .und, .und, .und, .und, .und]
noncomputable def en26 : Entry := ⟨Try.f26, [(1000000, [false, false, false, false, true, true, false, false, false, false, false, false, false, false, false, false, false, false, false, false, false, false, false, false, false, false, false, false, false, false, false, false, false, false, false, false, false, false, false, false, false, false, false, false, false, false, false, false, false, false, false, false, false, false, false, false, false, false, false, false, false, false, false, false, false, false, false]), (2000012, [true])]⟩
theorem dw26_12 (env : List V) (o : Option (List V × Store)) : drawR en26.ms 12 env o = o := nr rfl
theorem nc26_12 : ncOf en26.ms 12 = true := nr rfl
theorem mk26_1000000 (vs : List V) : mask (maskOf en26.ms 1000000) vs = mask [false, false, false, false, true, true, false, false, false, false, false, false, false, false, false, false, false, false, false, false, false, false, false, false, false, false, false, false, false, false, false, false, false, false, false, false, false, false, false, false, false, false, false, false, false, false, false, false, false, false, false, false, false, false, false, false, false, false, false, false, false, false, false, false, false, false, false] vs := nr rfl
def hr26 (t4 t5 : V) : List V := [.und, .und, .und, .und, t4, t5, .und, .und, .und, .und, .und, .und, .und, .und, .und, .und, .und, .und, .und, .und, .und, .und, .und, .und, .und, .und, .und, .und, .und, .und, .und, .und, .und, .und, .und, .und, .und, .und, .und, .und, .und, .und, .und, .und, .und, .und, .und, .und, .und, .und, .und, .und, .und, .und, .und, .und, .und, .und, .und, .und, .und, .und, .und, .und, .und, .und, .und]
noncomputable def en27 : Entry := ⟨Try.f27, [(1000000, [false, false, false, false, true, true, false, false, false, false, false, false, false, false, false, false, false, false, false, false, false, false, false, false, false, false, false, false, false, false, false, false, false, false, false, false, false, false, false, false, false, false, false, false, false, false, false, false, false, false, false, false, false, false, false, false, false, false, false, false, false, false, false, false, false, false, false, false, false, false, false, false, false, false]), (2000013, [true])]⟩
theorem dw27_3 (env : List V) (o : Option (List V × Store)) : drawR en27.ms 3 env o = o := nr rfl
theorem nc27_3 : ncOf en27.ms 3 = false := nr rfl
theorem dw27_13 (env : List V) (o : Option (List V × Store)) : drawR en27.ms 13 env o = o := nr rfl
theorem nc27_13 : ncOf en27.ms 13 = true := nr rfl
theorem mk27_1000000 (vs : List V) : mask (maskOf en27.ms 1000000) vs = mask [false, false, false, false, true, true, false, false, false, false, false, false, false, false, false, false, false, false, false, false, false, false, false, false, false, false, false, false, false, false, false, false, false, false, false, false, false, false, false, false, false, false, false, false, false, false, false, false, false, false, false, false, false, false, false, false, false, false, false, false, false, false, false, false, false, false, false, false, false, false, false, false, false, false] vs := nr rfl
def hr27 (t4 t5 : V) : List V := [.und, .und, .und, .und, t4, t5, .und, .und, .und, .und, .und, .und, .und, .und, .und, .und, .und, .und, .und, .und, .und, .und, .und, .und, .und, .und, .und, .und, .und, .und, .und, .und, .und, .und, .und, .und, .und, .und, .und, .und, .und, .und, .und, .und, .und, .und, .und, .und, .und, .und, .und, .und, .und, .und, .und, .und, .und, .und, .und, .und, .und, .und, .und, .und, .und, .und, .und, .und, .und, .und, .und, .und, .und, .und]
noncomputable def en69 : Entry := ⟨Try.f69, [(1000000, [false, false, false, false, true, false, false, false, false, false, false, false, false, false, false, false, false, false])]⟩
theorem mk69_1000000 (vs : List V) : mask (maskOf en69.ms 1000000) vs = mask [false, false, false, false, true, false, false, false, false, false, false, false, false, false, false, false, false, false] vs := nr rfl
def hr69 (t4 : V) : List V := [.und, .und, .und, .und, t4, .und, .und, .und, .und, .und, .und, .und, .und, .und, .und, .und, .und, .und]
noncomputable def en70 : Entry := ⟨Try.f70, [(1000000, [false, false, false, false, false, true, false, false, false, false, false, false, false, false])]⟩
theorem mk70_1000000 (vs : List V) : mask (maskOf en70.ms 1000000) vs = mask [false, false, false, false, false, true, false, false, false, false, false, false, false, false] vs := nr rfl
def hr70 (t5 : V) : List V := [.und, .und, .und, .und, .und, t5, .und, .und, .und, .und, .und, .und, .und, .und]
noncomputable def en71 : Entry := ⟨Try.f71, [(0, [true, false, false, false, false, false, true, false, false, false, false, false, false, false, false, false, false, false, false, false, false, false, false, false, false]), (1000001, [true, false, false, false, false, false, true, false, false, false, false, false, false, false, false, false, false, false, false, false, false, false, false, false, false]), (1000002, [true, false, false, false, false, false, true, false, false, false, false, false, false, false, false, false, false, false, false, false, false, false, false, false, false]), (1000000, [false, false, false, false, false, true, false, false, false, false, false, false, false, false, false, false, false, false, false, false, false, false, false, false, false])]⟩
theorem mk71_0 (vs : List V) : mask (maskOf en71.ms 0) vs = mask [true, false, false, false, false, false, true, false, false, false, false, false, false, false, false, false, false, false, false, false, false, false, false, false, false] vs := nr rfl
theorem mk71_1000001 (vs : List V) : mask (maskOf en71.ms 1000001) vs = mask [true, false, false, false, false, false, true, false, false, false, false, false, false, false, false, false, false, false, false, false, false, false, false, false, false] vs := nr rfl
theorem mk71_1000002 (vs : List V) : mask (maskOf en71.ms 1000002) vs = mask [true, false, false, false, false, false, true, false, false, false, false, false, false, false, false, false, false, false, false, false, false, false, false, false, false] vs := nr rfl
theorem mk71_1000000 (vs : List V) : mask (maskOf en71.ms 1000000) vs = mask [false, false, false, false, false, true, false, false, false, false, false, false, false, false, false, false, false, false, false, false, false, false, false, false, false] vs := nr rfl
noncomputable def lb71_0 : Code := loopN Try.f71 0
def hd71_0 (t0 t6 : V) : List V := [t0, .und, .und, .und, .und, .und, t6, .und, .und, .und, .und, .und, .und, .und, .und, .und, .und, .und, .und, .und, .und, .und, .und, .und, .und]
def hx71_0 (t0 t6 : V) : List V := [t0, .und, .und, .und, .und, .und, t6, .und, .und, .und, .und, .und, .und, .und, .und, .und, .und, .und, .und, .und, .und, .und, .und, .und, .und]
def hx71_1 (t0 t6 : V) : List V := [t0, .und, .und, .und, .und, .und, t6, .und, .und, .und, .und, .und, .und, .und, .und, .und, .und, .und, .und, .und, .und, .und, .und, .und, .und]
def hr71 (t5 : V) : List V := [.und, .und, .und, .und, .und, t5, .und, .und, .und, .und, .und, .und, .und, .und, .und, .und, .und, .und, .und, .und, .und, .und, .und, .und, .und]
theorem mixed : Try.prog.follows .mixedOrders = true := by kernel_rfl
end Go.Proofs.YtmhjmjodchbhlaaR.FxPlace
end
section
set_option linter.unusedVariables false
set_option linter.unusedSimpArgs false
set_option maxRecDepth 100000
namespace Go.Proofs.YtmhjmjodchbhlaaR.FloorPlace
open Go.Ev Go.Ari Go.Proofs.YtmhjmjodchbhlaaR.FxPlace Go.Proofs.YtmhjmjodchbhlaaR.PullPull Go.Proofs.YtmhjmjodchbhlaaR.Pull2Pull
attribute [local go_sem] Ev.putR_s Ev.putR_0 Ev.thenO_s Ev.thenO_0 Ev.seqR_n Ev.seqR_e Ev.seqR_r Ev.seqR_0 Ev.blkR_e Ev.blkR_n Ev.blkR_r Ev.blkR_0 Ev.normR_s Ev.normR_0 Ev.outR_r Ev.outR_n Ev.outR_0 Ev.retS_s Ev.retS_0 Ev.pureO_s Ev.pureO_0 Ev.topR_0 Ev.topR_t Ev.topR_t0 Ev.oneL_0 Ev.oneL_s Ev.topR_d Ev.topR_nils Ev.topR_agg Ev.topR_rs Ev.evOp_move Ev.evOp_assign Ev.evOp_pick Ev.evOp_alloc Ev.evOp_box Ev.evOp_build Ev.evOp_buildSlice Ev.evOp_load Ev.evOp_store Ev.evOp_makeMap Ev.evOp_lookup Ev.evOp_mapUpdate Ev.evOp_insert Ev.evOp_nilCheck Ev.evOp_binOp Ev.evOp_unOp Ev.evOp_convert Ev.evOp_makeFunc Ev.evOp_makeSlice Ev.evOp_slice Ev.evOp_fieldAddr Ev.evOp_field Ev.evOp_indexAddr Ev.evOp_index Ev.evOp_extract Ev.evOp_call Ev.evOp_append Ev.evOp_len Ev.evOp_min Ev.evOp_max Ev.condR_b Ev.condR_t Ev.evOps_nil Ev.evOps_plain Ev.evOps_guard Ev.runG_eq Ev.skipG_eq Ev.condL_tt Ev.condL_ff Ev.condL_tf Ev.condL_ft Ev.condL_u Ev.condC_t Ev.condC_f Ev.evC_skip Ev.evC_ret Ev.evC_exit Ev.evC_label Ev.evC_region Ev.evC_draw Ev.evC_seq Ev.evC_cond Ev.evC_block Ev.evC_loop Ev.fin_d Ev.fin_nils Ev.fin_agg_ Ev.fin_rs Ev.finS_s Ev.mapO_fin Ev.upd_upd Ev.argv_d Ev.argv_nils Ev.argv_agg Ev.argv_rs Ev.argv_p Ev.appendTo_nils Ev.appendTo_rs Ev.consV_d Ev.consV_agg Ev.consV_p Ev.consV_rs Ev.consV_nils Ev.consV_fn Ev.consV_und Ev.consV_jk Ev.consV_grown Ev.topR_grown Ev.len_grown Ev.consV_mp Ev.sameK_i Ev.sameK_s Ev.mget_0 Ev.mget_hit Ev.mget_miss Ev.mput_0 Ev.mput_hit Ev.mput_miss Ev.apartAll Ev.apartL Ev.apartV Ev.freeAll Ev.sel Ev.keyOfV Ev.evLookup Ev.evPut Ev.hintOk Ev.keyOk Ev.consP Ev.lookV Ev.guardV Ev.dstAt Ev.evPure Ev.evStore Ev.evPureB Ev.evBin Ev.evBinO Ev.evNil Ev.isNilC Ev.evUn Ev.evConv Ev.evSlice Ev.optI Ev.lenV Ev.elemT Ev.foldI Ev.capsOk Ev.noTup Ev.nth Ev.setN Ev.pad Ev.V.get Ev.V.put Ev.putD Ev.hasT Ev.newBlk Ev.upd Ev.keq Ev.empty Ev.evCall Ev.V.args Ev.argP Ev.callOf Ev.evNilP Ev.isNilP Ev.look Ev.V.view.views Ev.V.view Ev.V.toD Ev.V.toD.V.toDs Ev.V.pure.pures Ev.V.pure Ev.D.flat.flats Ev.D.flat Ev.mkAgg Ev.allD Ev.aggParts Ev.setParts Ev.setElems Ev.getPath Ev.setPath Ev.subL Ev.eqD Ev.eqD.eqDs Ev.and2 Ev.strCut Ev.evalT Ev.constT Ev.evArgs Ev.mask Ev.maskOf Ev.tableOf Ev.compT Ev.resV Ev.retV Ev.mapO Ev.elemsOf Int.cast_ofNat_Int IntWalk.i64_in IntWalk.u64_in IntWalk.u8_in beq_self_eq_true Bool.true_beq Bool.false_beq Bool.and_true Bool.true_and Bool.false_and Bool.and_false Bool.and_self Bool.not_true Bool.not_false Bool.not_eq_true cond_true cond_false if_true if_false and_true true_and and_self decide_true decide_false Bool.or_true Bool.true_or Bool.or_false Bool.false_or List.isEmpty List.isEmpty_nil List.size_toArray List.map List.length_map List.length_cons List.length_nil Option.map Option.bind Option.getD Option.isSome List.replicate Bool.false_eq_true implies_true forall_const Array.toList Array.isEmpty List.append List.nil_append List.cons_append List.drop_zero List.take_length List.take_succ_cons List.take_zero List.take_nil List.getElem?_map List.getElem?_cons_zero List.getElem?_cons_succ List.getElem?_nil List.append_nil
attribute [local go_sem] FxPlace.tk2 FxPlace.ik2 FxPlace.ek2 FxPlace.zv2 FxPlace.tk3 FxPlace.ik3 FxPlace.zv3 FxPlace.tk4 FxPlace.ub4 FxPlace.zv4 FxPlace.tk23 FxPlace.ct23 FxPlace.ek23 FxPlace.zv23 FxPlace.tk27 FxPlace.ik27 FxPlace.zv27 FxPlace.tk37 FxPlace.ik37 FxPlace.zv37 FxPlace.tk39 FxPlace.ct39 FxPlace.zv39 FxPlace.tk48 FxPlace.ik48 FxPlace.zv48 FxPlace.tk91 FxPlace.zv91 FxPlace.mk8_1000000 FxPlace.dw26_12 FxPlace.nc26_12 FxPlace.mk26_1000000 FxPlace.dw27_3 FxPlace.nc27_3 FxPlace.dw27_13 FxPlace.nc27_13 FxPlace.mk27_1000000 FxPlace.mk69_1000000 FxPlace.mk70_1000000 FxPlace.mk71_0 FxPlace.mk71_1000001 FxPlace.mk71_1000002 FxPlace.mk71_1000000
noncomputable def G0 : Specs := []
noncomputable def T0 : Table := tableOf [(69, en69)]
theorem T0_ok : TableOk Try.prog (([] : Specs).map (·.1)) T0 := (table_cons Try.func69 (by kernel_rfl) (by kernel_rfl) table_nil)
def sFloor : Ev.Spec := ⟨fun xs => match xs with | [.int .i64 a, .int .i64 86400000] => if -9223372036854775808 ≤ a ∧ a < 9223372036854775808 then some [.int .i64 (a / 86400000)] else none | _ => none⟩
theorem sFloor_run (a : Int) (h : -9223372036854775808 ≤ a ∧ a < 9223372036854775808) : sFloor.run [.int .i64 a, .int .i64 86400000] = some [.int .i64 (a / 86400000)] := by
  simp only [sFloor]; rw [if_pos h]
theorem tdm (a : Int) : (a.tmod 86400000 < 0 → a.tdiv 86400000 - 1 = a / 86400000) ∧ (¬ a.tmod 86400000 < 0 → a.tdiv 86400000 = a / 86400000) := by
  have h1 := Int.mul_tdiv_add_tmod a 86400000
  have h2 := Int.tmod_lt_of_pos a (show (0 : Int) < 86400000 by decide)
  have h3 : -86400000 < a.tmod 86400000 := by
    have := Int.lt_tmod_of_pos a (show (0 : Int) < 86400000 by decide)
    exact this
  constructor <;> intro h <;> omega
theorem eFloor (a : Int) (h : -9223372036854775808 ≤ a ∧ a < 9223372036854775808) : evTop Try.prog [] T0 0 1 69 [.int .i64 a, .int .i64 86400000] = some [.int .i64 (a / 86400000)] := by
  unfold evTop
  simp only [List.map]
  rw [evF_s (fn := Try.f69) (msk := en69.ms) (hT := by rfl) (hb := by rfl)]
  obtain ⟨t1, t2⟩ := tdm a
  have w1 : IntKind.i64.wrap (a / 86400000) = a / 86400000 := wi_in (by omega) (by omega)
  by_cases hm : a.tmod 86400000 < 0
  · have e := t1 hm
    have w0 : IntKind.i64.wrap (a.tdiv 86400000) = a.tdiv 86400000 := wi_in (by omega) (by omega)
    simp only [Try.f69, go_sem, Nat.reduceAdd, Nat.reduceSub, Nat.reduceMul, Nat.reduceEqDiff, Nat.reduceBEq, Nat.reduceLT, Nat.reduceLeDiff, Nat.reducePow, Int.reduceToNat, Int.reduceLT, Int.reduceLE, Int.reduceGT, Int.reduceGE, Int.reduceEq, Int.reduceNeg, Int.reduceAdd, Int.reduceSub, ↓reduceIte, reduceCtorEq, w0, hm, e, w1]
  · have e := t2 hm
    simp only [Try.f69, go_sem, Nat.reduceAdd, Nat.reduceSub, Nat.reduceMul, Nat.reduceEqDiff, Nat.reduceBEq, Nat.reduceLT, Nat.reduceLeDiff, Nat.reducePow, Int.reduceToNat, Int.reduceLT, Int.reduceLE, Int.reduceGT, Int.reduceGE, Int.reduceEq, Int.reduceNeg, Int.reduceAdd, Int.reduceSub, ↓reduceIte, reduceCtorEq, e, hm, w1]
theorem floor_ok : SpecOk Try.prog 69 sFloor := spec_of_ev mixed specs_nil T0_ok fun xs rs hr => by
  simp only [sFloor] at hr
  split at hr
  · split at hr
    · rename_i hp; cases hr; exact ⟨0, 1, eFloor _ hp⟩
    · cases hr
  · cases hr
/-! ### between two places -/
def mid (r a b : Int) : Int := a + (b - a) * r / 86400000
def MM (r a b : Int) : Prop := -4194304 ≤ a ∧ a ≤ 4194304 ∧ -4194304 ≤ b ∧ b ≤ 4194304 ∧ 0 ≤ r ∧ r < 86400000
def cR : Cod Int := ⟨fun x => .ptr (.int .i64 x), fun x y h => by cases h; rfl⟩
noncomputable def sMid : Ev.Spec := specC (cCons (cI .i64) (cCons (cI .i64) (cOne cR))) (fun x => MM x.2.2 x.1 x.2.1) fun x => [.int .i64 (mid x.2.2 x.1 x.2.1)]
theorem sMid_run (r a b : Int) (h : MM r a b) : sMid.run [.int .i64 a, .int .i64 b, .ptr (.int .i64 r)] = some [.int .i64 (mid r a b)] := specC_run (cCons (cI .i64) (cCons (cI .i64) (cOne cR))) _ _ (a, b, r) h
theorem mid_bounds {r a b : Int} (h : MM r a b) : -724775731200000 ≤ (b - a) * r ∧ (b - a) * r ≤ 724775731200000 := by
  obtain ⟨a0, a1, b0, b1, r0, r1⟩ := h
  have p1 : (b - a) * r ≤ 8388608 * r := Int.mul_le_mul_of_nonneg_right (by omega) r0
  have p2 : -8388608 * r ≤ (b - a) * r := Int.mul_le_mul_of_nonneg_right (by omega) r0
  omega
noncomputable def G1 : Specs := [(69, sFloor)]
noncomputable def T1 : Table := tableOf [(70, en70), (71, en71)]
theorem G1_ok : ∀ g s, Ev.look G1 g = some s → SpecOk Try.prog g s := specs_cons floor_ok specs_nil
theorem T1_ok : TableOk Try.prog (G1.map (·.1)) T1 := (table_cons Try.func70 (by kernel_rfl) (by kernel_rfl) (table_cons Try.func71 (by kernel_rfl) (by kernel_rfl) table_nil))
theorem eMidA (r a b : Int) (h : MM r a b) : evTop Try.prog G1 T1 0 1 70 [.int .i64 a, .int .i64 b, .ptr (.int .i64 r)] = some [.int .i64 (mid r a b)] := by
  unfold evTop
  simp only [List.map]
  rw [evF_s (fn := Try.f70) (msk := en70.ms) (hT := by rfl) (hb := by rfl)]
  have hb := mid_bounds h
  obtain ⟨a0, a1, b0, b1, r0, r1⟩ := h
  have w1 : IntKind.i64.wrap (b - a) = b - a := wi_in (by omega) (by omega)
  have w2 : IntKind.i64.wrap ((b - a) * r) = (b - a) * r := wi_in (by omega) (by omega)
  have w3 : IntKind.i64.wrap (a + (b - a) * r / 86400000) = a + (b - a) * r / 86400000 := wi_in (by omega) (by omega)
  have rf := sFloor_run ((b - a) * r) ⟨by omega, by omega⟩
  simp only [Try.f70, G1, go_sem, Nat.reduceAdd, Nat.reduceSub, Nat.reduceMul, Nat.reduceEqDiff, Nat.reduceBEq, Nat.reduceLT, Nat.reduceLeDiff, Nat.reducePow, Int.reduceToNat, Int.reduceLT, Int.reduceLE, Int.reduceGT, Int.reduceGE, Int.reduceEq, Int.reduceNeg, Int.reduceAdd, Int.reduceSub, ↓reduceIte, reduceCtorEq, w1, w2, rf, w3, mid]
theorem midA_ok : SpecOk Try.prog 70 sMid := specC_ok mixed G1_ok T1_ok fun x hp => ⟨0, 1, eMidA x.2.2 x.1 x.2.1 hp⟩
theorem down (n : Int) : (n - (n.tmod 86400000 + 86400000).tmod 86400000).tmod 86400000 = 0 ∧ (n - (n.tmod 86400000 + 86400000).tmod 86400000).tdiv 86400000 = n / 86400000 ∧ (n.tmod 86400000 = 0 → n.tdiv 86400000 = n / 86400000) ∧
    0 ≤ (n.tmod 86400000 + 86400000).tmod 86400000 ∧ (n.tmod 86400000 + 86400000).tmod 86400000 < 86400000 ∧ -86400000 < n.tmod 86400000 ∧ n.tmod 86400000 < 86400000 := by
  have h1 := Int.mul_tdiv_add_tmod n 86400000
  have h2 := Int.tmod_lt_of_pos n (show (0 : Int) < 86400000 by decide)
  have h3 := Int.lt_tmod_of_pos n (show (0 : Int) < 86400000 by decide)
  have e : (n.tmod 86400000 + 86400000).tmod 86400000 = (n.tmod 86400000 + 86400000) % 86400000 := Int.tmod_eq_emod_of_nonneg (by omega)
  rw [e]
  have f : (n.tmod 86400000 + 86400000) % 86400000 = n % 86400000 := by omega
  rw [f]
  have g : n - n % 86400000 = 86400000 * (n / 86400000) := by omega
  rw [g]
  refine ⟨Int.mul_tmod_right _ _, Int.mul_tdiv_cancel_left _ (by decide), fun h => by omega, by omega, by omega, h3, h2⟩
theorem eMidB (r a b : Int) (h : MM r a b) : evTop Try.prog G1 T1 2 1 71 [.int .i64 a, .int .i64 b, .ptr (.int .i64 r)] = some [.int .i64 (mid r a b)] := by
  unfold evTop
  simp only [List.map]
  rw [evF_s (fn := Try.f71) (msk := en71.ms) (hT := by rfl) (hb := by rfl)]
  have hb := mid_bounds h
  obtain ⟨a0, a1, b0, b1, r0, r1⟩ := h
  have w1 : IntKind.i64.wrap (b - a) = b - a := wi_in (by omega) (by omega)
  have w3 : IntKind.i64.wrap (a + (b - a) * r / 86400000) = a + (b - a) * r / 86400000 := wi_in (by omega) (by omega)
  unfold mid
  obtain ⟨n, hn0⟩ : ∃ n, n = (b - a) * r := ⟨_, rfl⟩
  have w2 : IntKind.i64.wrap ((b - a) * r) = n := by rw [hn0]; exact wi_in (by omega) (by omega)
  rw [← hn0] at w3 hb ⊢
  obtain ⟨d1, d2, d3, d4, d5, d6, d7⟩ := down n
  have w5 : IntKind.i64.wrap (n / 86400000) = n / 86400000 := wi_in (by omega) (by omega)
  by_cases hn : n.tmod 86400000 = 0
  · have := d3 hn
    simp only [Try.f71, go_sem, Nat.reduceAdd, Nat.reduceSub, Nat.reduceMul, Nat.reduceEqDiff, Nat.reduceBEq, Nat.reduceLT, Nat.reduceLeDiff, Nat.reducePow, Int.reduceToNat, Int.reduceLT, Int.reduceLE, Int.reduceGT, Int.reduceGE, Int.reduceEq, Int.reduceNeg, Int.reduceAdd, Int.reduceSub, ↓reduceIte, reduceCtorEq, iter_s, w1, w2, hn, this, w5, w3]
  · have w4 : IntKind.i64.wrap (n.tmod 86400000 + 86400000) = n.tmod 86400000 + 86400000 := wi_in (by omega) (by omega)
    have w6 : IntKind.i64.wrap (n - (n.tmod 86400000 + 86400000).tmod 86400000) = n - (n.tmod 86400000 + 86400000).tmod 86400000 := wi_in (by omega) (by omega)
    simp only [Try.f71, go_sem, Nat.reduceAdd, Nat.reduceSub, Nat.reduceMul, Nat.reduceEqDiff, Nat.reduceBEq, Nat.reduceLT, Nat.reduceLeDiff, Nat.reducePow, Int.reduceToNat, Int.reduceLT, Int.reduceLE, Int.reduceGT, Int.reduceGE, Int.reduceEq, Int.reduceNeg, Int.reduceAdd, Int.reduceSub, ↓reduceIte, reduceCtorEq, iter_s, w1, w2, hn, w4, w6, d1, d2, w5, w3]
theorem midB_ok : SpecOk Try.prog 71 sMid := specC_ok mixed G1_ok T1_ok fun x hp => ⟨2, 1, eMidB x.2.2 x.1 x.2.1 hp⟩
#print axioms midA_ok
#print axioms midB_ok
end Go.Proofs.YtmhjmjodchbhlaaR.FloorPlace
end
