/- Parts of one proof, joined: SkyCRate, SkyInRate, RateARate, SkiesPull. -/
import Derived.Test.YtmhjmjodchbhlaaRMSkyChecks12
section
set_option linter.unusedVariables false
set_option linter.unusedSimpArgs false
set_option maxRecDepth 100000
namespace Go.Proofs.YtmhjmjodchbhlaaR.SkyCRate
open Go.Ev Go.Ari Go.Proofs.YtmhjmjodchbhlaaR.FxRate Go.Proofs.YtmhjmjodchbhlaaR.PullPull Go.Proofs.YtmhjmjodchbhlaaR.TypesRate Go.Proofs.YtmhjmjodchbhlaaR.FaultRate Go.Proofs.YtmhjmjodchbhlaaR.OwnRate
open Go.Proofs.YtmhjmjodchbhlaaR.PathPath (Bod bD cBod sMov sMov_run mov_ok)
open Go.Proofs.YtmhjmjodchbhlaaR.ThingsRate (small loop_then th_st th_ga th_bo)
open Go.Proofs.YtmhjmjodchbhlaaR.StarRate (sStar sStar_run okStar star_ok)
open Go.Proofs.YtmhjmjodchbhlaaR.SkyFRate (okSky sFault box p1 headF_1 headF_2 headF_3 headF_0 one_h one_o)
attribute [local go_sem] Ev.putR_s Ev.putR_0 Ev.thenO_s Ev.thenO_0 Ev.seqR_n Ev.seqR_e Ev.seqR_r Ev.seqR_0 Ev.blkR_e Ev.blkR_n Ev.blkR_r Ev.blkR_0 Ev.normR_s Ev.normR_0 Ev.outR_r Ev.outR_n Ev.outR_0 Ev.retS_s Ev.retS_0 Ev.pureO_s Ev.pureO_0 Ev.topR_0 Ev.topR_t Ev.topR_t0 Ev.oneL_0 Ev.oneL_s Ev.topR_d Ev.topR_nils Ev.topR_agg Ev.topR_rs Ev.evOp_move Ev.evOp_assign Ev.evOp_pick Ev.evOp_alloc Ev.evOp_box Ev.evOp_build Ev.evOp_buildSlice Ev.evOp_load Ev.evOp_store Ev.evOp_makeMap Ev.evOp_lookup Ev.evOp_mapUpdate Ev.evOp_insert Ev.evOp_nilCheck Ev.evOp_binOp Ev.evOp_unOp Ev.evOp_convert Ev.evOp_makeFunc Ev.evOp_makeSlice Ev.evOp_slice Ev.evOp_fieldAddr Ev.evOp_field Ev.evOp_indexAddr Ev.evOp_index Ev.evOp_extract Ev.evOp_call Ev.evOp_append Ev.evOp_len Ev.evOp_min Ev.evOp_max Ev.condR_b Ev.condR_t Ev.evOps_nil Ev.evOps_plain Ev.evOps_guard Ev.runG_eq Ev.skipG_eq Ev.condL_tt Ev.condL_ff Ev.condL_tf Ev.condL_ft Ev.condL_u Ev.condC_t Ev.condC_f Ev.evC_skip Ev.evC_ret Ev.evC_exit Ev.evC_label Ev.evC_region Ev.evC_draw Ev.evC_seq Ev.evC_cond Ev.evC_block Ev.evC_loop Ev.fin_d Ev.fin_nils Ev.fin_agg_ Ev.fin_rs Ev.finS_s Ev.mapO_fin Ev.upd_upd Ev.argv_d Ev.argv_nils Ev.argv_agg Ev.argv_rs Ev.argv_p Ev.appendTo_nils Ev.appendTo_rs Ev.consV_d Ev.consV_agg Ev.consV_p Ev.consV_rs Ev.consV_nils Ev.consV_fn Ev.consV_und Ev.consV_jk Ev.consV_grown Ev.topR_grown Ev.len_grown Ev.consV_mp Ev.sameK_i Ev.sameK_s Ev.mget_0 Ev.mget_hit Ev.mget_miss Ev.mput_0 Ev.mput_hit Ev.mput_miss Ev.apartAll Ev.apartL Ev.apartV Ev.freeAll Ev.sel Ev.keyOfV Ev.evLookup Ev.evPut Ev.hintOk Ev.keyOk Ev.consP Ev.lookV Ev.guardV Ev.dstAt Ev.evPure Ev.evStore Ev.evPureB Ev.evBin Ev.evBinO Ev.evNil Ev.isNilC Ev.evUn Ev.evConv Ev.evSlice Ev.optI Ev.lenV Ev.elemT Ev.foldI Ev.capsOk Ev.noTup Ev.nth Ev.setN Ev.pad Ev.V.get Ev.V.put Ev.putD Ev.hasT Ev.newBlk Ev.upd Ev.keq Ev.empty Ev.evCall Ev.V.args Ev.argP Ev.callOf Ev.evNilP Ev.isNilP Ev.look Ev.V.view.views Ev.V.view Ev.V.toD Ev.V.toD.V.toDs Ev.V.pure.pures Ev.V.pure Ev.D.flat.flats Ev.D.flat Ev.mkAgg Ev.allD Ev.aggParts Ev.setParts Ev.setElems Ev.getPath Ev.setPath Ev.subL Ev.eqD Ev.eqD.eqDs Ev.and2 Ev.strCut Ev.evalT Ev.constT Ev.evArgs Ev.mask Ev.maskOf Ev.tableOf Ev.compT Ev.resV Ev.retV Ev.mapO Ev.elemsOf Int.cast_ofNat_Int IntWalk.i64_in IntWalk.u64_in IntWalk.u8_in beq_self_eq_true Bool.true_beq Bool.false_beq Bool.and_true Bool.true_and Bool.false_and Bool.and_false Bool.and_self Bool.not_true Bool.not_false Bool.not_eq_true cond_true cond_false if_true if_false and_true true_and and_self decide_true decide_false Bool.or_true Bool.true_or Bool.or_false Bool.false_or List.isEmpty List.isEmpty_nil List.size_toArray List.map List.length_map List.length_cons List.length_nil Option.map Option.bind Option.getD Option.isSome List.replicate Bool.false_eq_true implies_true forall_const Array.toList Array.isEmpty List.append List.nil_append List.cons_append List.drop_zero List.take_length List.take_succ_cons List.take_zero List.take_nil List.getElem?_map List.getElem?_cons_zero List.getElem?_cons_succ List.getElem?_nil List.append_nil
attribute [local go_sem] FxRate.tk2 FxRate.ik2 FxRate.ek2 FxRate.zv2 FxRate.tk3 FxRate.ik3 FxRate.ek3 FxRate.zv3 FxRate.by3 FxRate.so3 FxRate.tk4 FxRate.ub4 FxRate.zv4 FxRate.tk23 FxRate.ct23 FxRate.ek23 FxRate.zv23 FxRate.tk27 FxRate.ik27 FxRate.zv27 FxRate.tk37 FxRate.ik37 FxRate.zv37 FxRate.by37 FxRate.so37 FxRate.tk39 FxRate.ct39 FxRate.zv39 FxRate.by39 FxRate.so39 FxRate.tk43 FxRate.zv43 FxRate.tk44 FxRate.zv44 FxRate.tk45 FxRate.zv45 FxRate.tk47 FxRate.ct47 FxRate.zv47 FxRate.tk48 FxRate.ik48 FxRate.zv48 FxRate.by48 FxRate.so48 FxRate.tk74 FxRate.zv74 FxRate.tk76 FxRate.ct76 FxRate.zv76 FxRate.by76 FxRate.so76 FxRate.tk77 FxRate.zv77 FxRate.tk79 FxRate.ct79 FxRate.zv79 FxRate.by79 FxRate.so79 FxRate.tk108 FxRate.zv108 FxRate.tk110 FxRate.ek110 FxRate.zv110 FxRate.tk111 FxRate.ek111 FxRate.zv111 FxRate.tk112 FxRate.zv112 FxRate.tk114 FxRate.ct114 FxRate.zv114 FxRate.by114 FxRate.so114 FxRate.tk136 FxRate.mt136 FxRate.sm136 FxRate.zw4 FxRate.zv136 FxRate.tk141 FxRate.zv141 FxRate.tk145 FxRate.zv145 FxRate.tk161 FxRate.ct161 FxRate.zv161 FxRate.tk182 FxRate.zv182 FxRate.mk7_1000000 FxRate.mk24_0 FxRate.mk24_2 FxRate.mk24_4 FxRate.mk24_1000001 FxRate.mk24_1000002 FxRate.mk24_1000003 FxRate.mk24_1000004 FxRate.mk24_1000005 FxRate.mk24_1000006 FxRate.mk24_1000000 FxRate.dw25_19 FxRate.nc25_19 FxRate.mk25_0 FxRate.mk25_2 FxRate.mk25_1000001 FxRate.mk25_1000002 FxRate.mk25_1000003 FxRate.mk25_1000004 FxRate.mk25_1000000 FxRate.mk40_0 FxRate.mk40_2 FxRate.mk40_4 FxRate.mk40_1000001 FxRate.mk40_1000002 FxRate.mk40_1000003 FxRate.mk40_1000004 FxRate.mk40_1000005 FxRate.mk40_1000006 FxRate.mk40_1000007 FxRate.mk40_1000000 FxRate.mk41_0 FxRate.mk41_1000001 FxRate.mk41_1000002 FxRate.mk41_1000003 FxRate.mk41_1000004 FxRate.mk41_1000000 FxRate.mk66_1000000 FxRate.dw67_9 FxRate.nc67_9 FxRate.mk67_1000000 FxRate.dw68_5 FxRate.nc68_5 FxRate.dw68_10 FxRate.nc68_10 FxRate.dw68_15 FxRate.nc68_15 FxRate.mk68_0 FxRate.mk68_2 FxRate.mk68_4 FxRate.mk68_1000001 FxRate.mk68_1000002 FxRate.mk68_1000003 FxRate.mk68_1000004 FxRate.mk68_1000005 FxRate.mk68_1000006 FxRate.mk68_1000000 FxRate.mk87_1000001 FxRate.mk87_1000000 FxRate.mk88_1000001 FxRate.mk88_1000000 FxRate.mk89_0 FxRate.mk89_1000001 FxRate.mk89_1000002 FxRate.mk89_1000000 FxRate.mk90_1000000 FxRate.mk91_1000000 FxRate.dw92_10 FxRate.nc92_10 FxRate.mk92_0 FxRate.mk92_2 FxRate.mk92_1000001 FxRate.mk92_1000002 FxRate.mk92_1000003 FxRate.mk92_1000004 FxRate.mk92_1000000 FxRate.mk93_1000001 FxRate.mk93_1000000 FxRate.mk94_1000000 FxRate.mk95_1000000 FxRate.mk128_1000000 FxRate.mk129_0 FxRate.mk129_1000001 FxRate.mk129_1000002 FxRate.mk129_1000000 FxRate.mk130_1000000 FxRate.mk131_0 FxRate.mk131_1000001 FxRate.mk131_1000002 FxRate.mk131_1000000 FxRate.mk150_0 FxRate.mk150_1000001 FxRate.mk150_1000002 FxRate.mk150_1000000
noncomputable def G : Specs := [(88, sStar), (89, sGal), (64, sMov)]
noncomputable def T : Table := tableOf [(40, en40), (87, en87)]
theorem G_ok : ∀ g s, Ev.look G g = some s → SpecOk Try.prog g s := specs_cons star_ok (specs_cons gal_ok (specs_cons mov_ok specs_nil))
theorem T_ok : TableOk Try.prog (G.map (·.1)) T := (table_cons Try.func40 (by kernel_rfl) (by kernel_rfl) (table_cons Try.func87 (by kernel_rfl) (by kernel_rfl) table_nil))
/-! ### head and the map of what was seen -/
def mpk : V := .mp (0, 31) 1
def Has (m : List V) (ids : List Int) : Prop := keysI .i64 m ∧ ∀ j, mget m (.int .i64 j) = some (if j ∈ ids then some (.d (.bool true)) else none)
theorem Has_put {m : List V} {ids : List Int} (h : Has m ids) (id : Int) : ∃ m', mput m (.int .i64 id) (.d (.bool true)) = some m' ∧ Has m' (ids ++ [id]) := by
  obtain ⟨hk, hg⟩ := h
  obtain ⟨m', hp, hk', hget⟩ := keysI_put (n := id) (v := .d (.bool true)) hk
  refine ⟨m', hp, hk', fun j => ?_⟩
  rw [hget, hg]
  by_cases hj : j = id
  · simp [hj]
  · simp [hj]
theorem head_bad (L lv : Nat) (st : Store) (m : List V) (ids : List Int) (id rate : Int) (h : Has m ids) (hst : st (0, 31) = ⟨1, mapE 136, m, true⟩) (hf : ¬ headF ids id rate = 0) :
    evF Try.prog G T L 1 87 [.d (.int .i64 id), .d (.int .i64 rate), .mp (0, 31) 1] lv st = some (.d (.int .i64 (headF ids id rate)), st) := by
  obtain ⟨hk, hg⟩ := h
  have hm := hg id
  rw [evF_s (fn := Try.f87) (msk := en87.ms) (hT := by rfl) (hb := by rfl)]
  by_cases c1 : id < 1
  · rw [headF_1 (.inl c1)]
    simp only [Try.f87, G, go_sem, Nat.reduceAdd, Nat.reduceSub, Nat.reduceMul, Nat.reduceEqDiff, Nat.reduceBEq, Nat.reduceLT, Nat.reduceLeDiff, Nat.reducePow, Int.reduceToNat, Int.reduceLT, Int.reduceLE, Int.reduceGT, Int.reduceGE, Int.reduceEq, Int.reduceNeg, Int.reduceAdd, Int.reduceSub, ↓reduceIte, reduceCtorEq, c1]
  by_cases c2 : id > 1073741824
  · rw [headF_1 (.inr c2)]
    simp only [Try.f87, G, go_sem, Nat.reduceAdd, Nat.reduceSub, Nat.reduceMul, Nat.reduceEqDiff, Nat.reduceBEq, Nat.reduceLT, Nat.reduceLeDiff, Nat.reducePow, Int.reduceToNat, Int.reduceLT, Int.reduceLE, Int.reduceGT, Int.reduceGE, Int.reduceEq, Int.reduceNeg, Int.reduceAdd, Int.reduceSub, ↓reduceIte, reduceCtorEq, c1, c2]
  by_cases c3 : id ∈ ids
  · rw [if_pos c3] at hm
    rw [headF_2 (by omega) c3]
    simp only [Try.f87, G, go_sem, Nat.reduceAdd, Nat.reduceSub, Nat.reduceMul, Nat.reduceEqDiff, Nat.reduceBEq, Nat.reduceLT, Nat.reduceLeDiff, Nat.reducePow, Int.reduceToNat, Int.reduceLT, Int.reduceLE, Int.reduceGT, Int.reduceGE, Int.reduceEq, Int.reduceNeg, Int.reduceAdd, Int.reduceSub, ↓reduceIte, reduceCtorEq, c1, c2, hst, hm]
  rw [if_neg c3] at hm
  by_cases c4 : rate < 0
  · rw [headF_3 (by omega) c3 (.inl c4)]
    simp only [Try.f87, G, go_sem, Nat.reduceAdd, Nat.reduceSub, Nat.reduceMul, Nat.reduceEqDiff, Nat.reduceBEq, Nat.reduceLT, Nat.reduceLeDiff, Nat.reducePow, Int.reduceToNat, Int.reduceLT, Int.reduceLE, Int.reduceGT, Int.reduceGE, Int.reduceEq, Int.reduceNeg, Int.reduceAdd, Int.reduceSub, ↓reduceIte, reduceCtorEq, c1, c2, hst, hm, c4]
  by_cases c5 : rate > 1048576
  · rw [headF_3 (by omega) c3 (.inr c5)]
    simp only [Try.f87, G, go_sem, Nat.reduceAdd, Nat.reduceSub, Nat.reduceMul, Nat.reduceEqDiff, Nat.reduceBEq, Nat.reduceLT, Nat.reduceLeDiff, Nat.reducePow, Int.reduceToNat, Int.reduceLT, Int.reduceLE, Int.reduceGT, Int.reduceGE, Int.reduceEq, Int.reduceNeg, Int.reduceAdd, Int.reduceSub, ↓reduceIte, reduceCtorEq, c1, c2, hst, hm, c4, c5]
  exact absurd (headF_0 (by omega) c3 (by omega)) hf
theorem head_good (L lv : Nat) (st : Store) (m m' : List V) (ids : List Int) (id rate : Int) (h : Has m ids) (hp : mput m (.int .i64 id) (.d (.bool true)) = some m') (hst : st (0, 31) = ⟨1, mapE 136, m, true⟩) (hf : headF ids id rate = 0) :
    evF Try.prog G T L 1 87 [.d (.int .i64 id), .d (.int .i64 rate), .mp (0, 31) 1] lv st = some (.d (.int .i64 0), upd st (0, 31) ⟨1, mapE 136, m', true⟩) := by
  obtain ⟨hk, hg⟩ := h
  have hm := hg id
  rw [evF_s (fn := Try.f87) (msk := en87.ms) (hT := by rfl) (hb := by rfl)]
  by_cases c1 : id < 1
  · rw [headF_1 (.inl c1)] at hf; cases hf
  by_cases c2 : id > 1073741824
  · rw [headF_1 (.inr c2)] at hf; cases hf
  by_cases c3 : id ∈ ids
  · rw [headF_2 (by omega) c3] at hf; cases hf
  rw [if_neg c3] at hm
  by_cases c4 : rate < 0
  · rw [headF_3 (by omega) c3 (.inl c4)] at hf; cases hf
  by_cases c5 : rate > 1048576
  · rw [headF_3 (by omega) c3 (.inr c5)] at hf; cases hf
  simp only [Try.f87, G, go_sem, Nat.reduceAdd, Nat.reduceSub, Nat.reduceMul, Nat.reduceEqDiff, Nat.reduceBEq, Nat.reduceLT, Nat.reduceLeDiff, Nat.reducePow, Int.reduceToNat, Int.reduceLT, Int.reduceLE, Int.reduceGT, Int.reduceGE, Int.reduceEq, Int.reduceNeg, Int.reduceAdd, Int.reduceSub, ↓reduceIte, reduceCtorEq, c1, c2, hst, hm, c4, c5, hp]
theorem rate_of {seen : List Int} {id rate : Int} (h : headF seen id rate = 0) : 0 ≤ rate ∧ rate ≤ 1048576 := by
  unfold headF at h
  split at h
  · cases h
  · split at h
    · cases h
    · split at h
      · cases h
      · omega
theorem take_ids {l : List Thing} {n : Nat} {x : Thing} (h : l[n]? = some x) : (l.take (n + 1)).map Thing.id = (l.take n).map Thing.id ++ [x.id] := by
  rw [List.take_add_one, h]; simp
theorem take_at {l : List Thing} {n : Nat} {x : Thing} (h : l[n]? = some x) (hf : faults [] (l.take n) = 0) : (one ((l.take n).map Thing.id) x = 0 → faults [] (l.take (n + 1)) = 0) ∧ (¬ one ((l.take n).map Thing.id) x = 0 → faults [] l = one ((l.take n).map Thing.id) x) := by
  obtain ⟨h1, h2⟩ := List.getElem?_eq_some_iff.1 h
  have := faults_take h1 hf
  rw [h2] at this
  exact this
/-- The store of the loops, when n objects are behind. -/
def Ok (s : Sky) (n : Nat) (st : Store) : Prop := st (0, 1) = box s ∧ faults [] ((things s).take n) = 0 ∧ ∃ m, st (0, 31) = ⟨1, mapE 136, m, true⟩ ∧ Has m (((things s).take n).map Thing.id)
/-! ### stars -/
def h0 (s : Sky) (i : Nat) : List V := hd40_0 p1 mpk (.d (.sl 79 (s.stars.map Star.D))) (.d (.int .i64 s.stars.length)) (.d (.int .i64 i))
def J0 (s : Sky) (x : Nat × Store) : Prop := x.1 ≤ s.stars.length ∧ Ok s (x.1) x.2
def Q0 (s : Sky) (x : Nat × Store) (o : Out) : Prop := ∃ st', (o = some (.exit 0, hx40_0 p1 mpk, st') ∧ Ok s (s.stars.length) st') ∨ (o = some (.ret, hr40 (.d (.int .i64 (faults [] (things s)))), st') ∧ ¬ faults [] (things s) = 0)
theorem loop0 (L : Nat) (s : Sky) (hs : okSky s) :
    ∀ (m : Nat) (x : Nat × Store) (env : List V), J0 s x → s.stars.length - x.1 < m → mask (maskOf en40.ms 0) env = h0 s x.1 →
      Q0 s x (iter (evC Try.prog G (evF Try.prog G T L 1) L en40.ms 0 0 lb40_0) (maskOf en40.ms 0) m env x.2) := by
  refine iter_rel _ _ (J0 s) (fun x => h0 s x.1) (fun x => x.2) (Q0 s) (fun x => s.stars.length - x.1) ?_
  rintro ⟨i, st⟩ ⟨hi, hok⟩ k hk
  simp only at hi hok
  by_cases hin : i < s.stars.length
  case neg =>
    obtain rfl : i = s.stars.length := by omega
    have hlt : ¬ (s.stars.length : Int) < s.stars.length := by omega
    refine ⟨st, .inl ⟨?_, hok⟩⟩
    simp only [lb40_0, loopN, loops, h0, p1, mpk, hd40_0, hx40_0, Try.f40, go_sem, Nat.reduceAdd, Nat.reduceSub, Nat.reduceMul, Nat.reduceEqDiff, Nat.reduceBEq, Nat.reduceLT, Nat.reduceLeDiff, Nat.reducePow, Int.reduceToNat, Int.reduceLT, Int.reduceLE, Int.reduceGT, Int.reduceGE, Int.reduceEq, Int.reduceNeg, Int.reduceAdd, Int.reduceSub, ↓reduceIte, reduceCtorEq, hlt]
  obtain ⟨q1, qf, m, q31, hm⟩ := hok
  have hlt : (i : Int) < s.stars.length := by omega
  obtain ⟨hs1, hs2⟩ := hs
  obtain ⟨hs1, hs3, hs4⟩ := hs1
  have hx : s.stars[i]? = some s.stars[i] := by simp [hin]
  have hmem : s.stars[i] ∈ s.stars := List.getElem_mem _
  have hth := th_st hin
  have g0 : (0 : Int) ≤ (i : Int) := by omega
  have ht : ((i : Int)).toNat = i := by omega
  have hw1 : IntKind.i64.wrap ((i : Int) + 1) = ((i + 1 : Nat) : Int) := by rw [IntWalk.i64_in _ (by omega)]; rfl
  obtain ⟨ht0, ht1⟩ := take_at hth qf
  have hids := take_ids hth
  generalize s.stars[i] = x at *
  have hret : ∀ e : Int, one (((things s).take (i)).map Thing.id) (.st x) = e → ¬ e = 0 → ∀ st1, Q0 s (i, st) (some (.ret, hr40 (.d (.int .i64 e)), st1)) := fun e h1 h2 st1 => by
    have h3 := ht1 (by rw [h1]; exact h2)
    rw [h1] at h3
    exact ⟨st1, .inr ⟨by rw [h3], by rw [h3]; exact h2⟩⟩
  have hgo : one (((things s).take (i)).map Thing.id) (.st x) = 0 → ∀ st1 env m', st1 (0, 1) = box s → st1 (0, 31) = ⟨1, mapE 136, m', true⟩ → Has m' (((things s).take (i)).map Thing.id ++ [Thing.id (.st x)]) → mask (maskOf en40.ms 0) env = h0 s (i + 1) → Q0 s (i, st) (k env st1) := fun h1 st1 env m' h2 h3 h5 h4 =>
    (hk (i + 1, st1) env ⟨by simp only; omega, h2, ht0 h1, m', h3, (hids ▸ h5 : Has m' (((things s).take (i + 1)).map Thing.id))⟩ (by simp only; omega) h4 : Q0 s (i + 1, st1) _)
  obtain ⟨m', hp, hm'⟩ := Has_put hm (Thing.id (.st x))
  obtain ⟨id, ⟨u, v, w⟩, r, wv, p, f, t⟩ := x
  simp only [Thing.id] at hp hm'
  by_cases c1 : headF (((things s).take (i)).map Thing.id) id r = 0
  case neg =>
    have hq := hret _ (one_h rfl c1) c1
    have hh := fun lv st hst => head_bad L lv st m _ id r hm hst c1
    simp only [G] at hh
    simp only [Thing.id, Thing.rate] at hq
    generalize headF (((things s).take (i)).map Thing.id) id r = F at *
    simp only [lb40_0, loopN, loops, h0, p1, mpk, hd40_0, Try.f40, G, go_sem, Nat.reduceAdd, Nat.reduceSub, Nat.reduceMul, Nat.reduceEqDiff, Nat.reduceBEq, Nat.reduceLT, Nat.reduceLeDiff, Nat.reducePow, Int.reduceToNat, Int.reduceLT, Int.reduceLE, Int.reduceGT, Int.reduceGE, Int.reduceEq, Int.reduceNeg, Int.reduceAdd, Int.reduceSub, ↓reduceIte, reduceCtorEq, hlt, hx, g0, ht, q31, hw1, Star.D, vD, hh, c1]
    exact hq _
  have ho := one_o (x := .st ⟨id, ⟨u, v, w⟩, r, wv, p, f, t⟩) c1
  rw [ho] at hgo hret
  have hh := fun lv st hst => head_good L lv st m m' _ id r hm hp hst c1
  simp only [G] at hh
  have rs := sStar_run ⟨id, (u, v, w), r, wv, p, f, t⟩ ⟨rate_of c1, by have := hs2 _ hmem; simp only at this ⊢; omega⟩
  simp only [own] at hgo hret
  generalize starF ⟨id, (u, v, w), r, wv, p, f, t⟩ = F at *
  simp only [Star.D, vD] at rs
  by_cases c2 : F = 0
  · have hq := hgo c2
    simp only [lb40_0, loopN, loops, h0, p1, mpk, hd40_0, Try.f40, G, go_sem, Nat.reduceAdd, Nat.reduceSub, Nat.reduceMul, Nat.reduceEqDiff, Nat.reduceBEq, Nat.reduceLT, Nat.reduceLeDiff, Nat.reducePow, Int.reduceToNat, Int.reduceLT, Int.reduceLE, Int.reduceGT, Int.reduceGE, Int.reduceEq, Int.reduceNeg, Int.reduceAdd, Int.reduceSub, ↓reduceIte, reduceCtorEq, hlt, hx, g0, ht, q31, hw1, Star.D, vD, hh, rs, c2]
    exact hq _ _ m' (by simp only [go_sem, Nat.reduceAdd, Nat.reduceSub, Nat.reduceMul, Nat.reduceEqDiff, Nat.reduceBEq, Nat.reduceLT, Nat.reduceLeDiff, Nat.reducePow, Int.reduceToNat, Int.reduceLT, Int.reduceLE, Int.reduceGT, Int.reduceGE, Int.reduceEq, Int.reduceNeg, Int.reduceAdd, Int.reduceSub, ↓reduceIte, reduceCtorEq, q1]) (by simp only [go_sem, Nat.reduceAdd, Nat.reduceSub, Nat.reduceMul, Nat.reduceEqDiff, Nat.reduceBEq, Nat.reduceLT, Nat.reduceLeDiff, Nat.reducePow, Int.reduceToNat, Int.reduceLT, Int.reduceLE, Int.reduceGT, Int.reduceGE, Int.reduceEq, Int.reduceNeg, Int.reduceAdd, Int.reduceSub, ↓reduceIte, reduceCtorEq]) hm' (by simp only [h0, p1, mpk, hd40_0, Star.D, vD, go_sem, Nat.reduceAdd, Nat.reduceSub, Nat.reduceMul, Nat.reduceEqDiff, Nat.reduceBEq, Nat.reduceLT, Nat.reduceLeDiff, Nat.reducePow, Int.reduceToNat, Int.reduceLT, Int.reduceLE, Int.reduceGT, Int.reduceGE, Int.reduceEq, Int.reduceNeg, Int.reduceAdd, Int.reduceSub, ↓reduceIte, reduceCtorEq, hw1])
  · have hq := hret F rfl c2
    simp only [lb40_0, loopN, loops, h0, p1, mpk, hd40_0, Try.f40, G, go_sem, Nat.reduceAdd, Nat.reduceSub, Nat.reduceMul, Nat.reduceEqDiff, Nat.reduceBEq, Nat.reduceLT, Nat.reduceLeDiff, Nat.reducePow, Int.reduceToNat, Int.reduceLT, Int.reduceLE, Int.reduceGT, Int.reduceGE, Int.reduceEq, Int.reduceNeg, Int.reduceAdd, Int.reduceSub, ↓reduceIte, reduceCtorEq, hlt, hx, g0, ht, q31, hw1, Star.D, vD, hh, rs, c2]
    exact hq _
/-! ### gals -/
def h1 (s : Sky) (i : Nat) : List V := hd40_2 p1 mpk (.d (.sl 76 (s.gals.map Gal.D))) (.d (.int .i64 s.gals.length)) (.d (.int .i64 i))
def J1 (s : Sky) (x : Nat × Store) : Prop := x.1 ≤ s.gals.length ∧ Ok s (s.stars.length + x.1) x.2
def Q1 (s : Sky) (x : Nat × Store) (o : Out) : Prop := ∃ st', (o = some (.exit 2, hx40_2 p1 mpk, st') ∧ Ok s (s.stars.length + s.gals.length) st') ∨ (o = some (.ret, hr40 (.d (.int .i64 (faults [] (things s)))), st') ∧ ¬ faults [] (things s) = 0)
theorem loop1 (L : Nat) (s : Sky) (hs : okSky s) :
    ∀ (m : Nat) (x : Nat × Store) (env : List V), J1 s x → s.gals.length - x.1 < m → mask (maskOf en40.ms 2) env = h1 s x.1 →
      Q1 s x (iter (evC Try.prog G (evF Try.prog G T L 1) L en40.ms 0 2 lb40_2) (maskOf en40.ms 2) m env x.2) := by
  refine iter_rel _ _ (J1 s) (fun x => h1 s x.1) (fun x => x.2) (Q1 s) (fun x => s.gals.length - x.1) ?_
  rintro ⟨i, st⟩ ⟨hi, hok⟩ k hk
  simp only at hi hok
  by_cases hin : i < s.gals.length
  case neg =>
    obtain rfl : i = s.gals.length := by omega
    have hlt : ¬ (s.gals.length : Int) < s.gals.length := by omega
    refine ⟨st, .inl ⟨?_, hok⟩⟩
    simp only [lb40_2, loopN, loops, h1, p1, mpk, hd40_2, hx40_2, Try.f40, go_sem, Nat.reduceAdd, Nat.reduceSub, Nat.reduceMul, Nat.reduceEqDiff, Nat.reduceBEq, Nat.reduceLT, Nat.reduceLeDiff, Nat.reducePow, Int.reduceToNat, Int.reduceLT, Int.reduceLE, Int.reduceGT, Int.reduceGE, Int.reduceEq, Int.reduceNeg, Int.reduceAdd, Int.reduceSub, ↓reduceIte, reduceCtorEq, hlt]
  obtain ⟨q1, qf, m, q31, hm⟩ := hok
  have hlt : (i : Int) < s.gals.length := by omega
  obtain ⟨hs1, hs2⟩ := hs
  obtain ⟨hs1, hs3, hs4⟩ := hs1
  have hx : s.gals[i]? = some s.gals[i] := by simp [hin]
  have hmem : s.gals[i] ∈ s.gals := List.getElem_mem _
  have hth := th_ga hin
  have g0 : (0 : Int) ≤ (i : Int) := by omega
  have ht : ((i : Int)).toNat = i := by omega
  have hw1 : IntKind.i64.wrap ((i : Int) + 1) = ((i + 1 : Nat) : Int) := by rw [IntWalk.i64_in _ (by omega)]; rfl
  obtain ⟨ht0, ht1⟩ := take_at hth qf
  have hids := take_ids hth
  generalize s.gals[i] = x at *
  have hret : ∀ e : Int, one (((things s).take (s.stars.length + i)).map Thing.id) (.ga x) = e → ¬ e = 0 → ∀ st1, Q1 s (i, st) (some (.ret, hr40 (.d (.int .i64 e)), st1)) := fun e h1 h2 st1 => by
    have h3 := ht1 (by rw [h1]; exact h2)
    rw [h1] at h3
    exact ⟨st1, .inr ⟨by rw [h3], by rw [h3]; exact h2⟩⟩
  have hgo : one (((things s).take (s.stars.length + i)).map Thing.id) (.ga x) = 0 → ∀ st1 env m', st1 (0, 1) = box s → st1 (0, 31) = ⟨1, mapE 136, m', true⟩ → Has m' (((things s).take (s.stars.length + i)).map Thing.id ++ [Thing.id (.ga x)]) → mask (maskOf en40.ms 2) env = h1 s (i + 1) → Q1 s (i, st) (k env st1) := fun h1 st1 env m' h2 h3 h5 h4 =>
    (hk (i + 1, st1) env ⟨by simp only; omega, h2, ht0 h1, m', h3, (hids ▸ h5 : Has m' (((things s).take (s.stars.length + i + 1)).map Thing.id))⟩ (by simp only; omega) h4 : Q1 s (i + 1, st1) _)
  obtain ⟨m', hp, hm'⟩ := Has_put hm (Thing.id (.ga x))
  obtain ⟨id, ⟨u, v, w⟩, r, wide, high⟩ := x
  simp only [Thing.id] at hp hm'
  by_cases c1 : headF (((things s).take (s.stars.length + i)).map Thing.id) id r = 0
  case neg =>
    have hq := hret _ (one_h rfl c1) c1
    have hh := fun lv st hst => head_bad L lv st m _ id r hm hst c1
    simp only [G] at hh
    simp only [Thing.id, Thing.rate] at hq
    generalize headF (((things s).take (s.stars.length + i)).map Thing.id) id r = F at *
    simp only [lb40_2, loopN, loops, h1, p1, mpk, hd40_2, Try.f40, G, go_sem, Nat.reduceAdd, Nat.reduceSub, Nat.reduceMul, Nat.reduceEqDiff, Nat.reduceBEq, Nat.reduceLT, Nat.reduceLeDiff, Nat.reducePow, Int.reduceToNat, Int.reduceLT, Int.reduceLE, Int.reduceGT, Int.reduceGE, Int.reduceEq, Int.reduceNeg, Int.reduceAdd, Int.reduceSub, ↓reduceIte, reduceCtorEq, hlt, hx, g0, ht, q31, hw1, Gal.D, vD, hh, c1]
    exact hq _
  have ho := one_o (x := .ga ⟨id, ⟨u, v, w⟩, r, wide, high⟩) c1
  rw [ho] at hgo hret
  have hh := fun lv st hst => head_good L lv st m m' _ id r hm hp hst c1
  simp only [G] at hh
  have rs := sGal_run id u v w r wide high
  simp only [own] at hgo hret
  generalize galF ⟨id, (u, v, w), r, wide, high⟩ = F at *
  by_cases c2 : F = 0
  · have hq := hgo c2
    simp only [lb40_2, loopN, loops, h1, p1, mpk, hd40_2, Try.f40, G, go_sem, Nat.reduceAdd, Nat.reduceSub, Nat.reduceMul, Nat.reduceEqDiff, Nat.reduceBEq, Nat.reduceLT, Nat.reduceLeDiff, Nat.reducePow, Int.reduceToNat, Int.reduceLT, Int.reduceLE, Int.reduceGT, Int.reduceGE, Int.reduceEq, Int.reduceNeg, Int.reduceAdd, Int.reduceSub, ↓reduceIte, reduceCtorEq, hlt, hx, g0, ht, q31, hw1, Gal.D, vD, hh, rs, c2]
    exact hq _ _ m' (by simp only [go_sem, Nat.reduceAdd, Nat.reduceSub, Nat.reduceMul, Nat.reduceEqDiff, Nat.reduceBEq, Nat.reduceLT, Nat.reduceLeDiff, Nat.reducePow, Int.reduceToNat, Int.reduceLT, Int.reduceLE, Int.reduceGT, Int.reduceGE, Int.reduceEq, Int.reduceNeg, Int.reduceAdd, Int.reduceSub, ↓reduceIte, reduceCtorEq, q1]) (by simp only [go_sem, Nat.reduceAdd, Nat.reduceSub, Nat.reduceMul, Nat.reduceEqDiff, Nat.reduceBEq, Nat.reduceLT, Nat.reduceLeDiff, Nat.reducePow, Int.reduceToNat, Int.reduceLT, Int.reduceLE, Int.reduceGT, Int.reduceGE, Int.reduceEq, Int.reduceNeg, Int.reduceAdd, Int.reduceSub, ↓reduceIte, reduceCtorEq]) hm' (by simp only [h1, p1, mpk, hd40_2, Gal.D, vD, go_sem, Nat.reduceAdd, Nat.reduceSub, Nat.reduceMul, Nat.reduceEqDiff, Nat.reduceBEq, Nat.reduceLT, Nat.reduceLeDiff, Nat.reducePow, Int.reduceToNat, Int.reduceLT, Int.reduceLE, Int.reduceGT, Int.reduceGE, Int.reduceEq, Int.reduceNeg, Int.reduceAdd, Int.reduceSub, ↓reduceIte, reduceCtorEq, hw1])
  · have hq := hret F rfl c2
    simp only [lb40_2, loopN, loops, h1, p1, mpk, hd40_2, Try.f40, G, go_sem, Nat.reduceAdd, Nat.reduceSub, Nat.reduceMul, Nat.reduceEqDiff, Nat.reduceBEq, Nat.reduceLT, Nat.reduceLeDiff, Nat.reducePow, Int.reduceToNat, Int.reduceLT, Int.reduceLE, Int.reduceGT, Int.reduceGE, Int.reduceEq, Int.reduceNeg, Int.reduceAdd, Int.reduceSub, ↓reduceIte, reduceCtorEq, hlt, hx, g0, ht, q31, hw1, Gal.D, vD, hh, rs, c2]
    exact hq _
/-! ### bods -/
def h2 (s : Sky) (i : Nat) : List V := hd40_4 p1 mpk (.d (.sl 39 (s.bods.map bD))) (.d (.int .i64 s.bods.length)) (.d (.int .i64 i))
def J2 (s : Sky) (x : Nat × Store) : Prop := x.1 ≤ s.bods.length ∧ Ok s (s.stars.length + s.gals.length + x.1) x.2
def Q2 (s : Sky) (x : Nat × Store) (o : Out) : Prop := ∃ st', (o = some (.exit 4, hx40_4 p1, st') ∧ Ok s (s.stars.length + s.gals.length + s.bods.length) st') ∨ (o = some (.ret, hr40 (.d (.int .i64 (faults [] (things s)))), st') ∧ ¬ faults [] (things s) = 0)
theorem loop2 (L : Nat) (s : Sky) (hs : okSky s) :
    ∀ (m : Nat) (x : Nat × Store) (env : List V), J2 s x → s.bods.length - x.1 < m → mask (maskOf en40.ms 4) env = h2 s x.1 →
      Q2 s x (iter (evC Try.prog G (evF Try.prog G T L 1) L en40.ms 0 4 lb40_4) (maskOf en40.ms 4) m env x.2) := by
  refine iter_rel _ _ (J2 s) (fun x => h2 s x.1) (fun x => x.2) (Q2 s) (fun x => s.bods.length - x.1) ?_
  rintro ⟨i, st⟩ ⟨hi, hok⟩ k hk
  simp only at hi hok
  by_cases hin : i < s.bods.length
  case neg =>
    obtain rfl : i = s.bods.length := by omega
    have hlt : ¬ (s.bods.length : Int) < s.bods.length := by omega
    refine ⟨st, .inl ⟨?_, hok⟩⟩
    simp only [lb40_4, loopN, loops, h2, p1, mpk, hd40_4, hx40_4, Try.f40, go_sem, Nat.reduceAdd, Nat.reduceSub, Nat.reduceMul, Nat.reduceEqDiff, Nat.reduceBEq, Nat.reduceLT, Nat.reduceLeDiff, Nat.reducePow, Int.reduceToNat, Int.reduceLT, Int.reduceLE, Int.reduceGT, Int.reduceGE, Int.reduceEq, Int.reduceNeg, Int.reduceAdd, Int.reduceSub, ↓reduceIte, reduceCtorEq, hlt]
  obtain ⟨q1, qf, m, q31, hm⟩ := hok
  have hlt : (i : Int) < s.bods.length := by omega
  obtain ⟨hs1, hs2⟩ := hs
  obtain ⟨hs1, hs3, hs4⟩ := hs1
  have hx : s.bods[i]? = some s.bods[i] := by simp [hin]
  have hmem : s.bods[i] ∈ s.bods := List.getElem_mem _
  have hth := th_bo hin
  have g0 : (0 : Int) ≤ (i : Int) := by omega
  have ht : ((i : Int)).toNat = i := by omega
  have hw1 : IntKind.i64.wrap ((i : Int) + 1) = ((i + 1 : Nat) : Int) := by rw [IntWalk.i64_in _ (by omega)]; rfl
  obtain ⟨ht0, ht1⟩ := take_at hth qf
  have hids := take_ids hth
  generalize s.bods[i] = x at *
  have hret : ∀ e : Int, one (((things s).take (s.stars.length + s.gals.length + i)).map Thing.id) (.bo x) = e → ¬ e = 0 → ∀ st1, Q2 s (i, st) (some (.ret, hr40 (.d (.int .i64 e)), st1)) := fun e h1 h2 st1 => by
    have h3 := ht1 (by rw [h1]; exact h2)
    rw [h1] at h3
    exact ⟨st1, .inr ⟨by rw [h3], by rw [h3]; exact h2⟩⟩
  have hgo : one (((things s).take (s.stars.length + s.gals.length + i)).map Thing.id) (.bo x) = 0 → ∀ st1 env m', st1 (0, 1) = box s → st1 (0, 31) = ⟨1, mapE 136, m', true⟩ → Has m' (((things s).take (s.stars.length + s.gals.length + i)).map Thing.id ++ [Thing.id (.bo x)]) → mask (maskOf en40.ms 4) env = h2 s (i + 1) → Q2 s (i, st) (k env st1) := fun h1 st1 env m' h2 h3 h5 h4 =>
    (hk (i + 1, st1) env ⟨by simp only; omega, h2, ht0 h1, m', h3, (hids ▸ h5 : Has m' (((things s).take (s.stars.length + s.gals.length + i + 1)).map Thing.id))⟩ (by simp only; omega) h4 : Q2 s (i + 1, st1) _)
  obtain ⟨m', hp, hm'⟩ := Has_put hm (Thing.id (.bo x))
  obtain ⟨id, ⟨u, v, w⟩, ⟨u2, v2, w2⟩, r⟩ := x
  simp only [Thing.id] at hp hm'
  by_cases c1 : headF (((things s).take (s.stars.length + s.gals.length + i)).map Thing.id) id r = 0
  case neg =>
    have hq := hret _ (one_h rfl c1) c1
    have hh := fun lv st hst => head_bad L lv st m _ id r hm hst c1
    simp only [G] at hh
    simp only [Thing.id, Thing.rate] at hq
    generalize headF (((things s).take (s.stars.length + s.gals.length + i)).map Thing.id) id r = F at *
    simp only [lb40_4, loopN, loops, h2, p1, mpk, hd40_4, Try.f40, G, go_sem, Nat.reduceAdd, Nat.reduceSub, Nat.reduceMul, Nat.reduceEqDiff, Nat.reduceBEq, Nat.reduceLT, Nat.reduceLeDiff, Nat.reducePow, Int.reduceToNat, Int.reduceLT, Int.reduceLE, Int.reduceGT, Int.reduceGE, Int.reduceEq, Int.reduceNeg, Int.reduceAdd, Int.reduceSub, ↓reduceIte, reduceCtorEq, hlt, hx, g0, ht, q31, hw1, bD, vD, hh, c1]
    exact hq _
  have ho := one_o (x := .bo ⟨id, ⟨u, v, w⟩, ⟨u2, v2, w2⟩, r⟩) c1
  rw [ho] at hgo hret
  have hh := fun lv st hst => head_good L lv st m m' _ id r hm hp hst c1
  simp only [G] at hh
  have rs := sMov_run (id, (u, v, w), (u2, v2, w2), r)
  simp only at rs
  simp only [own, bodF] at hgo hret
  by_cases c2 : okV 4194304 (u, v, w) = true ∧ okV 4194304 (u2, v2, w2) = true
  · rw [if_pos c2] at hgo
    have hq := hgo rfl
    rw [c2.1, c2.2] at rs
    simp only [lb40_4, loopN, loops, h2, p1, mpk, hd40_4, Try.f40, G, go_sem, Nat.reduceAdd, Nat.reduceSub, Nat.reduceMul, Nat.reduceEqDiff, Nat.reduceBEq, Nat.reduceLT, Nat.reduceLeDiff, Nat.reducePow, Int.reduceToNat, Int.reduceLT, Int.reduceLE, Int.reduceGT, Int.reduceGE, Int.reduceEq, Int.reduceNeg, Int.reduceAdd, Int.reduceSub, ↓reduceIte, reduceCtorEq, hlt, hx, g0, ht, q31, hw1, bD, vD, hh, rs]
    exact hq _ _ m' (by simp only [go_sem, Nat.reduceAdd, Nat.reduceSub, Nat.reduceMul, Nat.reduceEqDiff, Nat.reduceBEq, Nat.reduceLT, Nat.reduceLeDiff, Nat.reducePow, Int.reduceToNat, Int.reduceLT, Int.reduceLE, Int.reduceGT, Int.reduceGE, Int.reduceEq, Int.reduceNeg, Int.reduceAdd, Int.reduceSub, ↓reduceIte, reduceCtorEq, q1]) (by simp only [go_sem, Nat.reduceAdd, Nat.reduceSub, Nat.reduceMul, Nat.reduceEqDiff, Nat.reduceBEq, Nat.reduceLT, Nat.reduceLeDiff, Nat.reducePow, Int.reduceToNat, Int.reduceLT, Int.reduceLE, Int.reduceGT, Int.reduceGE, Int.reduceEq, Int.reduceNeg, Int.reduceAdd, Int.reduceSub, ↓reduceIte, reduceCtorEq]) hm' (by simp only [h2, p1, mpk, hd40_4, bD, vD, go_sem, Nat.reduceAdd, Nat.reduceSub, Nat.reduceMul, Nat.reduceEqDiff, Nat.reduceBEq, Nat.reduceLT, Nat.reduceLeDiff, Nat.reducePow, Int.reduceToNat, Int.reduceLT, Int.reduceLE, Int.reduceGT, Int.reduceGE, Int.reduceEq, Int.reduceNeg, Int.reduceAdd, Int.reduceSub, ↓reduceIte, reduceCtorEq, hw1])
  · rw [if_neg c2] at hret
    have hq := hret 4 rfl (by decide)
    have c3 : (okV 4194304 (u, v, w) && okV 4194304 (u2, v2, w2)) = false := by
      cases h1 : okV 4194304 (u, v, w) <;> cases h2 : okV 4194304 (u2, v2, w2) <;> simp_all
    rw [c3] at rs
    simp only [lb40_4, loopN, loops, h2, p1, mpk, hd40_4, Try.f40, G, go_sem, Nat.reduceAdd, Nat.reduceSub, Nat.reduceMul, Nat.reduceEqDiff, Nat.reduceBEq, Nat.reduceLT, Nat.reduceLeDiff, Nat.reducePow, Int.reduceToNat, Int.reduceLT, Int.reduceLE, Int.reduceGT, Int.reduceGE, Int.reduceEq, Int.reduceNeg, Int.reduceAdd, Int.reduceSub, ↓reduceIte, reduceCtorEq, hlt, hx, g0, ht, q31, hw1, bD, vD, hh, rs]
    exact hq _
/-! ### as a whole -/
theorem eCheck (s : Sky) (hs : okSky s) : evTop Try.prog G T 41 2 40 [s.D] = some [.int .i64 (fault s)] := by
  have hlen := things_len s
  have l0 := loop0 41 s hs
  have l1 := loop1 41 s hs
  have l2 := loop2 41 s hs
  obtain ⟨⟨hs1, hs3, hs4⟩, hs2⟩ := hs
  have hB : box s = ⟨1, 47, [.d s.D], true⟩ := rfl
  have hwl : IntKind.i64.wrap ((s.stars.length : Int) + s.gals.length) = (s.stars.length : Int) + s.gals.length := wi_in (by omega) (by omega)
  have hwm : IntKind.i64.wrap ((s.stars.length : Int) + s.gals.length + s.bods.length) = (s.stars.length : Int) + s.gals.length + s.bods.length := wi_in (by omega) (by omega)
  have hSD : s.D = .agg 47 [.int .i64 s.back, .sl 79 (s.stars.map Star.D), .sl 76 (s.gals.map Gal.D), .sl 39 (s.bods.map bD), bD s.home] := rfl
  have hmv := sMov_run s.home
  rw [hSD] at hB ⊢
  unfold fault
  unfold evTop
  simp only [List.map]
  rw [evF_s (fn := Try.f40) (msk := en40.ms) (hT := by rfl) (hb := by rfl)]
  by_cases c1 : s.stars.length + s.gals.length + s.bods.length > 40
  · have c1' : (s.stars.length : Int) + s.gals.length + s.bods.length > 40 := by omega
    rw [if_pos c1]
    simp only [Try.f40, G, go_sem, Nat.reduceAdd, Nat.reduceSub, Nat.reduceMul, Nat.reduceEqDiff, Nat.reduceBEq, Nat.reduceLT, Nat.reduceLeDiff, Nat.reducePow, Int.reduceToNat, Int.reduceLT, Int.reduceLE, Int.reduceGT, Int.reduceGE, Int.reduceEq, Int.reduceNeg, Int.reduceAdd, Int.reduceSub, ↓reduceIte, reduceCtorEq, hwl, hwm, c1']
  have c1' : ¬ (s.stars.length : Int) + s.gals.length + s.bods.length > 40 := by omega
  rw [if_neg c1]
  by_cases c2 : s.back < 0
  · rw [if_pos (.inl c2)]
    simp only [Try.f40, G, go_sem, Nat.reduceAdd, Nat.reduceSub, Nat.reduceMul, Nat.reduceEqDiff, Nat.reduceBEq, Nat.reduceLT, Nat.reduceLeDiff, Nat.reducePow, Int.reduceToNat, Int.reduceLT, Int.reduceLE, Int.reduceGT, Int.reduceGE, Int.reduceEq, Int.reduceNeg, Int.reduceAdd, Int.reduceSub, ↓reduceIte, reduceCtorEq, hwl, hwm, c1', c2]
  by_cases c3 : s.back > 1048576
  · rw [if_pos (.inr c3)]
    simp only [Try.f40, G, go_sem, Nat.reduceAdd, Nat.reduceSub, Nat.reduceMul, Nat.reduceEqDiff, Nat.reduceBEq, Nat.reduceLT, Nat.reduceLeDiff, Nat.reducePow, Int.reduceToNat, Int.reduceLT, Int.reduceLE, Int.reduceGT, Int.reduceGE, Int.reduceEq, Int.reduceNeg, Int.reduceAdd, Int.reduceSub, ↓reduceIte, reduceCtorEq, hwl, hwm, c1', c2, c3]
  rw [if_neg (by omega)]
  simp only [Try.f40, G, go_sem, Nat.reduceAdd, Nat.reduceSub, Nat.reduceMul, Nat.reduceEqDiff, Nat.reduceBEq, Nat.reduceLT, Nat.reduceLeDiff, Nat.reducePow, Int.reduceToNat, Int.reduceLT, Int.reduceLE, Int.reduceGT, Int.reduceGE, Int.reduceEq, Int.reduceNeg, Int.reduceAdd, Int.reduceSub, ↓reduceIte, reduceCtorEq, hwl, hwm, c1', c2, c3]
  refine loop_then (R := Q0 s (0, _)) (l0 _ (0, _) _ ⟨by simp only; omega, by simp only [go_sem, Nat.reduceAdd, Nat.reduceSub, Nat.reduceMul, Nat.reduceEqDiff, Nat.reduceBEq, Nat.reduceLT, Nat.reduceLeDiff, Nat.reducePow, Int.reduceToNat, Int.reduceLT, Int.reduceLE, Int.reduceGT, Int.reduceGE, Int.reduceEq, Int.reduceNeg, Int.reduceAdd, Int.reduceSub, ↓reduceIte, reduceCtorEq, hB], rfl, [], by simp only [go_sem, Nat.reduceAdd, Nat.reduceSub, Nat.reduceMul, Nat.reduceEqDiff, Nat.reduceBEq, Nat.reduceLT, Nat.reduceLeDiff, Nat.reducePow, Int.reduceToNat, Int.reduceLT, Int.reduceLE, Int.reduceGT, Int.reduceGE, Int.reduceEq, Int.reduceNeg, Int.reduceAdd, Int.reduceSub, ↓reduceIte, reduceCtorEq, empty], trivial, fun j => rfl⟩ (by simp only; omega) (by simp only [h0, p1, mpk, hd40_0, go_sem, Nat.reduceAdd, Nat.reduceSub, Nat.reduceMul, Nat.reduceEqDiff, Nat.reduceBEq, Nat.reduceLT, Nat.reduceLeDiff, Nat.reducePow, Int.reduceToNat, Int.reduceLT, Int.reduceLE, Int.reduceGT, Int.reduceGE, Int.reduceEq, Int.reduceNeg, Int.reduceAdd, Int.reduceSub, ↓reduceIte, reduceCtorEq])) ?_
  rintro o ⟨st1, ⟨rfl, hok⟩ | ⟨rfl, hne⟩⟩
  case inr =>
    rw [if_neg hne]
    simp only [hr40, go_sem, Nat.reduceAdd, Nat.reduceSub, Nat.reduceMul, Nat.reduceEqDiff, Nat.reduceBEq, Nat.reduceLT, Nat.reduceLeDiff, Nat.reducePow, Int.reduceToNat, Int.reduceLT, Int.reduceLE, Int.reduceGT, Int.reduceGE, Int.reduceEq, Int.reduceNeg, Int.reduceAdd, Int.reduceSub, ↓reduceIte, reduceCtorEq]
  have q1 := hok.1
  rw [hB] at q1
  simp only [hx40_0, p1, mpk, go_sem, Nat.reduceAdd, Nat.reduceSub, Nat.reduceMul, Nat.reduceEqDiff, Nat.reduceBEq, Nat.reduceLT, Nat.reduceLeDiff, Nat.reducePow, Int.reduceToNat, Int.reduceLT, Int.reduceLE, Int.reduceGT, Int.reduceGE, Int.reduceEq, Int.reduceNeg, Int.reduceAdd, Int.reduceSub, ↓reduceIte, reduceCtorEq, q1]
  refine loop_then (R := Q1 s (0, _)) (l1 _ (0, _) _ ⟨by simp only; omega, hok⟩ (by simp only; omega) (by simp only [h1, p1, mpk, hd40_2, go_sem, Nat.reduceAdd, Nat.reduceSub, Nat.reduceMul, Nat.reduceEqDiff, Nat.reduceBEq, Nat.reduceLT, Nat.reduceLeDiff, Nat.reducePow, Int.reduceToNat, Int.reduceLT, Int.reduceLE, Int.reduceGT, Int.reduceGE, Int.reduceEq, Int.reduceNeg, Int.reduceAdd, Int.reduceSub, ↓reduceIte, reduceCtorEq])) ?_
  rintro o ⟨st2, ⟨rfl, hok⟩ | ⟨rfl, hne⟩⟩
  case inr =>
    rw [if_neg hne]
    simp only [hr40, go_sem, Nat.reduceAdd, Nat.reduceSub, Nat.reduceMul, Nat.reduceEqDiff, Nat.reduceBEq, Nat.reduceLT, Nat.reduceLeDiff, Nat.reducePow, Int.reduceToNat, Int.reduceLT, Int.reduceLE, Int.reduceGT, Int.reduceGE, Int.reduceEq, Int.reduceNeg, Int.reduceAdd, Int.reduceSub, ↓reduceIte, reduceCtorEq]
  have q1 := hok.1
  rw [hB] at q1
  simp only [hx40_2, p1, mpk, go_sem, Nat.reduceAdd, Nat.reduceSub, Nat.reduceMul, Nat.reduceEqDiff, Nat.reduceBEq, Nat.reduceLT, Nat.reduceLeDiff, Nat.reducePow, Int.reduceToNat, Int.reduceLT, Int.reduceLE, Int.reduceGT, Int.reduceGE, Int.reduceEq, Int.reduceNeg, Int.reduceAdd, Int.reduceSub, ↓reduceIte, reduceCtorEq, q1]
  refine loop_then (R := Q2 s (0, _)) (l2 _ (0, _) _ ⟨by simp only; omega, hok⟩ (by simp only; omega) (by simp only [h2, p1, mpk, hd40_4, go_sem, Nat.reduceAdd, Nat.reduceSub, Nat.reduceMul, Nat.reduceEqDiff, Nat.reduceBEq, Nat.reduceLT, Nat.reduceLeDiff, Nat.reducePow, Int.reduceToNat, Int.reduceLT, Int.reduceLE, Int.reduceGT, Int.reduceGE, Int.reduceEq, Int.reduceNeg, Int.reduceAdd, Int.reduceSub, ↓reduceIte, reduceCtorEq])) ?_
  rintro o ⟨st3, ⟨rfl, hok⟩ | ⟨rfl, hne⟩⟩
  case inr =>
    rw [if_neg hne]
    simp only [hr40, go_sem, Nat.reduceAdd, Nat.reduceSub, Nat.reduceMul, Nat.reduceEqDiff, Nat.reduceBEq, Nat.reduceLT, Nat.reduceLeDiff, Nat.reducePow, Int.reduceToNat, Int.reduceLT, Int.reduceLE, Int.reduceGT, Int.reduceGE, Int.reduceEq, Int.reduceNeg, Int.reduceAdd, Int.reduceSub, ↓reduceIte, reduceCtorEq]
  have q1 := hok.1
  have hz := hok.2.1
  rw [← hlen, List.take_length] at hz
  rw [if_pos hz]
  rw [hB] at q1
  unfold bodF
  generalize s.home = b at *
  obtain ⟨hid, ⟨a, b, c⟩, ⟨u, v, w⟩, hr⟩ := b
  simp only at hmv
  simp only [bD, vD] at q1
  simp only
  by_cases c5 : hid = 0
  case neg =>
    rw [if_pos (.inl c5)]
    simp only [hx40_4, p1, Try.f40, G, go_sem, Nat.reduceAdd, Nat.reduceSub, Nat.reduceMul, Nat.reduceEqDiff, Nat.reduceBEq, Nat.reduceLT, Nat.reduceLeDiff, Nat.reducePow, Int.reduceToNat, Int.reduceLT, Int.reduceLE, Int.reduceGT, Int.reduceGE, Int.reduceEq, Int.reduceNeg, Int.reduceAdd, Int.reduceSub, ↓reduceIte, reduceCtorEq, q1, decide_eq_false c5]
  by_cases c6 : hr = 0
  case neg =>
    rw [if_pos (.inr c6)]
    simp only [hx40_4, p1, Try.f40, G, go_sem, Nat.reduceAdd, Nat.reduceSub, Nat.reduceMul, Nat.reduceEqDiff, Nat.reduceBEq, Nat.reduceLT, Nat.reduceLeDiff, Nat.reducePow, Int.reduceToNat, Int.reduceLT, Int.reduceLE, Int.reduceGT, Int.reduceGE, Int.reduceEq, Int.reduceNeg, Int.reduceAdd, Int.reduceSub, ↓reduceIte, reduceCtorEq, q1, decide_eq_true c5, decide_eq_false c6]
  rw [if_neg (by simp [c5, c6])]
  by_cases c7 : okV 4194304 (a, b, c) = true ∧ okV 4194304 (u, v, w) = true
  · rw [if_pos c7]
    rw [c7.1, c7.2] at hmv
    simp only [hx40_4, p1, Try.f40, G, go_sem, Nat.reduceAdd, Nat.reduceSub, Nat.reduceMul, Nat.reduceEqDiff, Nat.reduceBEq, Nat.reduceLT, Nat.reduceLeDiff, Nat.reducePow, Int.reduceToNat, Int.reduceLT, Int.reduceLE, Int.reduceGT, Int.reduceGE, Int.reduceEq, Int.reduceNeg, Int.reduceAdd, Int.reduceSub, ↓reduceIte, reduceCtorEq, q1, decide_eq_true c5, decide_eq_true c6, hmv]
  · rw [if_neg c7]
    have c8 : (okV 4194304 (a, b, c) && okV 4194304 (u, v, w)) = false := by
      cases h1 : okV 4194304 (a, b, c) <;> cases h2 : okV 4194304 (u, v, w) <;> simp_all
    rw [c8] at hmv
    simp only [hx40_4, p1, Try.f40, G, go_sem, Nat.reduceAdd, Nat.reduceSub, Nat.reduceMul, Nat.reduceEqDiff, Nat.reduceBEq, Nat.reduceLT, Nat.reduceLeDiff, Nat.reducePow, Int.reduceToNat, Int.reduceLT, Int.reduceLE, Int.reduceGT, Int.reduceGE, Int.reduceEq, Int.reduceNeg, Int.reduceAdd, Int.reduceSub, ↓reduceIte, reduceCtorEq, q1, decide_eq_true c5, decide_eq_true c6, hmv]
theorem check_ok : SpecOk Try.prog 40 sFault := specC_ok mixed G_ok T_ok fun s h => ⟨_, 2, eCheck s h⟩
#print axioms check_ok
end Go.Proofs.YtmhjmjodchbhlaaR.SkyCRate
end
section
set_option linter.unusedVariables false
set_option linter.unusedSimpArgs false
namespace Go.Proofs.YtmhjmjodchbhlaaR.SkyInRate
open Go.Ev Go.Proofs.YtmhjmjodchbhlaaR.PullPull Go.Proofs.YtmhjmjodchbhlaaR.TypesRate Go.Proofs.YtmhjmjodchbhlaaR.FaultRate
open Go.Proofs.YtmhjmjodchbhlaaR.PathPath (Bod bD)
open Go.Proofs.YtmhjmjodchbhlaaR.SkyFRate (okSky)
abbrev V3 := Int × Int × Int × Unit
abbrev TS := Int × V3 × Int × List Int × Int × Int × Int × Unit
abbrev TG := Int × V3 × Int × Int × Int × Unit
abbrev TB := Int × V3 × V3 × Int × Unit
def toStar (y : TS) : Star := ⟨y.1, (y.2.1.1, y.2.1.2.1, y.2.1.2.2.1), y.2.2.1, y.2.2.2.1, y.2.2.2.2.1, y.2.2.2.2.2.1, y.2.2.2.2.2.2.1⟩
def toGal (y : TG) : Gal := ⟨y.1, (y.2.1.1, y.2.1.2.1, y.2.1.2.2.1), y.2.2.1, y.2.2.2.1, y.2.2.2.2.1⟩
def toBod (y : TB) : Bod := (y.1, (y.2.1.1, y.2.1.2.1, y.2.1.2.2.1), (y.2.2.1.1, y.2.2.1.2.1, y.2.2.1.2.2.1), y.2.2.2.1)
theorem st_map (l : List TS) : l.map (fun y : TS => D.agg 79 [.int .i64 y.1, D.agg 23 [.int .i64 y.2.1.1, .int .i64 y.2.1.2.1, .int .i64 y.2.1.2.2.1], .int .i64 y.2.2.1, D.sl 37 (y.2.2.2.1.map (.int .i64)), .int .i64 y.2.2.2.2.1, .int .i64 y.2.2.2.2.2.1, .int .i64 y.2.2.2.2.2.2.1]) = (l.map toStar).map Star.D := by rw [List.map_map]; rfl
theorem ga_map (l : List TG) : l.map (fun y : TG => D.agg 76 [.int .i64 y.1, D.agg 23 [.int .i64 y.2.1.1, .int .i64 y.2.1.2.1, .int .i64 y.2.1.2.2.1], .int .i64 y.2.2.1, .int .i64 y.2.2.2.1, .int .i64 y.2.2.2.2.1]) = (l.map toGal).map Gal.D := by rw [List.map_map]; rfl
theorem bo_map (l : List TB) : l.map (fun y : TB => D.agg 39 [.int .i64 y.1, D.agg 23 [.int .i64 y.2.1.1, .int .i64 y.2.1.2.1, .int .i64 y.2.1.2.2.1], D.agg 23 [.int .i64 y.2.2.1.1, .int .i64 y.2.2.1.2.1, .int .i64 y.2.2.1.2.2.1], .int .i64 y.2.2.2.1]) = (l.map toBod).map bD := by rw [List.map_map]; rfl
theorem ok_in {b : Int} {l : List TS} {g : List TG} {o : List TB} {h : Bod} (h1 : l.length ≤ 1048576) (h2 : ∀ y ∈ l, y.2.2.2.1.length ≤ 1048576) (h3 : g.length ≤ 1048576) (h4 : o.length ≤ 1048576) : okSky ⟨b, l.map toStar, g.map toGal, o.map toBod, h⟩ := by
  refine ⟨⟨by simpa using h1, by simpa using h3, by simpa using h4⟩, fun x hx => ?_⟩
  obtain ⟨y, hy, rfl⟩ := List.mem_map.1 hx
  exact h2 y hy
end Go.Proofs.YtmhjmjodchbhlaaR.SkyInRate
end
section
set_option linter.unusedVariables false
set_option linter.unusedSimpArgs false
set_option maxRecDepth 100000
namespace Go.Proofs.YtmhjmjodchbhlaaR.RateARate
open Go.Ev Go.Ari Go.Proofs.YtmhjmjodchbhlaaR.FxRate Go.Proofs.YtmhjmjodchbhlaaR.PullPull Go.Proofs.YtmhjmjodchbhlaaR.TypesRate Go.Proofs.YtmhjmjodchbhlaaR.FaultRate
open Go.Proofs.YtmhjmjodchbhlaaR.PathPath (Bod bD cBod)
open Go.Proofs.YtmhjmjodchbhlaaR.ThingsRate (small loop_then th_st th_ga th_bo)
open Go.Proofs.YtmhjmjodchbhlaaR.SkyFRate (okSky sFault)
open Go.Proofs.YtmhjmjodchbhlaaR.SkyCRate (check_ok)
attribute [local go_sem] Ev.putR_s Ev.putR_0 Ev.thenO_s Ev.thenO_0 Ev.seqR_n Ev.seqR_e Ev.seqR_r Ev.seqR_0 Ev.blkR_e Ev.blkR_n Ev.blkR_r Ev.blkR_0 Ev.normR_s Ev.normR_0 Ev.outR_r Ev.outR_n Ev.outR_0 Ev.retS_s Ev.retS_0 Ev.pureO_s Ev.pureO_0 Ev.topR_0 Ev.topR_t Ev.topR_t0 Ev.oneL_0 Ev.oneL_s Ev.topR_d Ev.topR_nils Ev.topR_agg Ev.topR_rs Ev.evOp_move Ev.evOp_assign Ev.evOp_pick Ev.evOp_alloc Ev.evOp_box Ev.evOp_build Ev.evOp_buildSlice Ev.evOp_load Ev.evOp_store Ev.evOp_makeMap Ev.evOp_lookup Ev.evOp_mapUpdate Ev.evOp_insert Ev.evOp_nilCheck Ev.evOp_binOp Ev.evOp_unOp Ev.evOp_convert Ev.evOp_makeFunc Ev.evOp_makeSlice Ev.evOp_slice Ev.evOp_fieldAddr Ev.evOp_field Ev.evOp_indexAddr Ev.evOp_index Ev.evOp_extract Ev.evOp_call Ev.evOp_append Ev.evOp_len Ev.evOp_min Ev.evOp_max Ev.condR_b Ev.condR_t Ev.evOps_nil Ev.evOps_plain Ev.evOps_guard Ev.runG_eq Ev.skipG_eq Ev.condL_tt Ev.condL_ff Ev.condL_tf Ev.condL_ft Ev.condL_u Ev.condC_t Ev.condC_f Ev.evC_skip Ev.evC_ret Ev.evC_exit Ev.evC_label Ev.evC_region Ev.evC_draw Ev.evC_seq Ev.evC_cond Ev.evC_block Ev.evC_loop Ev.fin_d Ev.fin_nils Ev.fin_agg_ Ev.fin_rs Ev.finS_s Ev.mapO_fin Ev.upd_upd Ev.argv_d Ev.argv_nils Ev.argv_agg Ev.argv_rs Ev.argv_p Ev.appendTo_nils Ev.appendTo_rs Ev.consV_d Ev.consV_agg Ev.consV_p Ev.consV_rs Ev.consV_nils Ev.consV_fn Ev.consV_und Ev.consV_jk Ev.consV_grown Ev.topR_grown Ev.len_grown Ev.consV_mp Ev.sameK_i Ev.sameK_s Ev.mget_0 Ev.mget_hit Ev.mget_miss Ev.mput_0 Ev.mput_hit Ev.mput_miss Ev.apartAll Ev.apartL Ev.apartV Ev.freeAll Ev.sel Ev.keyOfV Ev.evLookup Ev.evPut Ev.hintOk Ev.keyOk Ev.consP Ev.lookV Ev.guardV Ev.dstAt Ev.evPure Ev.evStore Ev.evPureB Ev.evBin Ev.evBinO Ev.evNil Ev.isNilC Ev.evUn Ev.evConv Ev.evSlice Ev.optI Ev.lenV Ev.elemT Ev.foldI Ev.capsOk Ev.noTup Ev.nth Ev.setN Ev.pad Ev.V.get Ev.V.put Ev.putD Ev.hasT Ev.newBlk Ev.upd Ev.keq Ev.empty Ev.evCall Ev.V.args Ev.argP Ev.callOf Ev.evNilP Ev.isNilP Ev.look Ev.V.view.views Ev.V.view Ev.V.toD Ev.V.toD.V.toDs Ev.V.pure.pures Ev.V.pure Ev.D.flat.flats Ev.D.flat Ev.mkAgg Ev.allD Ev.aggParts Ev.setParts Ev.setElems Ev.getPath Ev.setPath Ev.subL Ev.eqD Ev.eqD.eqDs Ev.and2 Ev.strCut Ev.evalT Ev.constT Ev.evArgs Ev.mask Ev.maskOf Ev.tableOf Ev.compT Ev.resV Ev.retV Ev.mapO Ev.elemsOf Int.cast_ofNat_Int IntWalk.i64_in IntWalk.u64_in IntWalk.u8_in beq_self_eq_true Bool.true_beq Bool.false_beq Bool.and_true Bool.true_and Bool.false_and Bool.and_false Bool.and_self Bool.not_true Bool.not_false Bool.not_eq_true cond_true cond_false if_true if_false and_true true_and and_self decide_true decide_false Bool.or_true Bool.true_or Bool.or_false Bool.false_or List.isEmpty List.isEmpty_nil List.size_toArray List.map List.length_map List.length_cons List.length_nil Option.map Option.bind Option.getD Option.isSome List.replicate Bool.false_eq_true implies_true forall_const Array.toList Array.isEmpty List.append List.nil_append List.cons_append List.drop_zero List.take_length List.take_succ_cons List.take_zero List.take_nil List.getElem?_map List.getElem?_cons_zero List.getElem?_cons_succ List.getElem?_nil List.append_nil
attribute [local go_sem] FxRate.tk2 FxRate.ik2 FxRate.ek2 FxRate.zv2 FxRate.tk3 FxRate.ik3 FxRate.ek3 FxRate.zv3 FxRate.by3 FxRate.so3 FxRate.tk4 FxRate.ub4 FxRate.zv4 FxRate.tk23 FxRate.ct23 FxRate.ek23 FxRate.zv23 FxRate.tk27 FxRate.ik27 FxRate.zv27 FxRate.tk37 FxRate.ik37 FxRate.zv37 FxRate.by37 FxRate.so37 FxRate.tk39 FxRate.ct39 FxRate.zv39 FxRate.by39 FxRate.so39 FxRate.tk43 FxRate.zv43 FxRate.tk44 FxRate.zv44 FxRate.tk45 FxRate.zv45 FxRate.tk47 FxRate.ct47 FxRate.zv47 FxRate.tk48 FxRate.ik48 FxRate.zv48 FxRate.by48 FxRate.so48 FxRate.tk74 FxRate.zv74 FxRate.tk76 FxRate.ct76 FxRate.zv76 FxRate.by76 FxRate.so76 FxRate.tk77 FxRate.zv77 FxRate.tk79 FxRate.ct79 FxRate.zv79 FxRate.by79 FxRate.so79 FxRate.tk108 FxRate.zv108 FxRate.tk110 FxRate.ek110 FxRate.zv110 FxRate.tk111 FxRate.ek111 FxRate.zv111 FxRate.tk112 FxRate.zv112 FxRate.tk114 FxRate.ct114 FxRate.zv114 FxRate.by114 FxRate.so114 FxRate.tk136 FxRate.mt136 FxRate.sm136 FxRate.zw4 FxRate.zv136 FxRate.tk141 FxRate.zv141 FxRate.tk145 FxRate.zv145 FxRate.tk161 FxRate.ct161 FxRate.zv161 FxRate.tk182 FxRate.zv182 FxRate.mk7_1000000 FxRate.mk24_0 FxRate.mk24_2 FxRate.mk24_4 FxRate.mk24_1000001 FxRate.mk24_1000002 FxRate.mk24_1000003 FxRate.mk24_1000004 FxRate.mk24_1000005 FxRate.mk24_1000006 FxRate.mk24_1000000 FxRate.dw25_19 FxRate.nc25_19 FxRate.mk25_0 FxRate.mk25_2 FxRate.mk25_1000001 FxRate.mk25_1000002 FxRate.mk25_1000003 FxRate.mk25_1000004 FxRate.mk25_1000000 FxRate.mk40_0 FxRate.mk40_2 FxRate.mk40_4 FxRate.mk40_1000001 FxRate.mk40_1000002 FxRate.mk40_1000003 FxRate.mk40_1000004 FxRate.mk40_1000005 FxRate.mk40_1000006 FxRate.mk40_1000007 FxRate.mk40_1000000 FxRate.mk41_0 FxRate.mk41_1000001 FxRate.mk41_1000002 FxRate.mk41_1000003 FxRate.mk41_1000004 FxRate.mk41_1000000 FxRate.mk66_1000000 FxRate.dw67_9 FxRate.nc67_9 FxRate.mk67_1000000 FxRate.dw68_5 FxRate.nc68_5 FxRate.dw68_10 FxRate.nc68_10 FxRate.dw68_15 FxRate.nc68_15 FxRate.mk68_0 FxRate.mk68_2 FxRate.mk68_4 FxRate.mk68_1000001 FxRate.mk68_1000002 FxRate.mk68_1000003 FxRate.mk68_1000004 FxRate.mk68_1000005 FxRate.mk68_1000006 FxRate.mk68_1000000 FxRate.mk87_1000001 FxRate.mk87_1000000 FxRate.mk88_1000001 FxRate.mk88_1000000 FxRate.mk89_0 FxRate.mk89_1000001 FxRate.mk89_1000002 FxRate.mk89_1000000 FxRate.mk90_1000000 FxRate.mk91_1000000 FxRate.dw92_10 FxRate.nc92_10 FxRate.mk92_0 FxRate.mk92_2 FxRate.mk92_1000001 FxRate.mk92_1000002 FxRate.mk92_1000003 FxRate.mk92_1000004 FxRate.mk92_1000000 FxRate.mk93_1000001 FxRate.mk93_1000000 FxRate.mk94_1000000 FxRate.mk95_1000000 FxRate.mk128_1000000 FxRate.mk129_0 FxRate.mk129_1000001 FxRate.mk129_1000002 FxRate.mk129_1000000 FxRate.mk130_1000000 FxRate.mk131_0 FxRate.mk131_1000001 FxRate.mk131_1000002 FxRate.mk131_1000000 FxRate.mk150_0 FxRate.mk150_1000001 FxRate.mk150_1000002 FxRate.mk150_1000000
theorem sFault_run (s : Sky) (h : okSky s) : sFault.run [s.D] = some [.int .i64 (fault s)] := specC_run (cOne cSky) _ _ s h
/-! ### how bright an object is -/
def shineR (s : Star) (t : Int) : Int := if t < s.start ∨ t ≥ s.stop then 0 else if s.wave.length = 0 then s.rate else s.rate + s.wave.getD (t % s.period / (s.period / s.wave.length)).toNat 0
def bright (t : Int) : Thing → Int
  | .st s => shineR s t
  | .ga g => g.rate
  | .bo b => b.2.2.2
def rateT (id t : Int) : List Thing → Int × Int
  | [] => (0, 8)
  | x :: r => if x.id = id then (bright t x, 0) else rateT id t r
def timedR (s : Sky) (t : Int) : Int := if fault s = 0 then (if tickBad t = true then 4 else 0) else fault s
def rateR (s : Sky) (id t : Int) : Int × Int := if timedR s t = 0 then rateT id t (things s) else (0, timedR s t)
theorem ph {t p : Int} (hp : 0 < p) : (t.tmod p < 0 → t % p = t.tmod p + p) ∧ (¬ t.tmod p < 0 → t % p = t.tmod p) := by
  have e := Int.mul_tdiv_add_tmod t p
  have l := Int.lt_tmod_of_pos t hp
  have u := Int.tmod_lt_of_pos t hp
  have e1 : t % p = t.tmod p % p := by
    conv => lhs; rw [← e]
    rw [Int.mul_add_emod_self_left]
  refine ⟨fun h => ?_, fun h => ?_⟩
  · rw [e1, ← Int.add_emod_right]
    exact Int.emod_eq_of_lt (by omega) (by omega)
  · rw [e1]
    exact Int.emod_eq_of_lt (by omega) (by omega)
/-- The phase of a star at a time. -/
theorem phase_at {s : Star} (hs : starF s = 0) (t : Int) (hn : 0 < s.wave.length) : 1 ≤ s.period ∧ s.period ≤ 17592186044416 ∧ s.wave.length ≤ 16 ∧ s.period.tdiv s.wave.length = s.period / s.wave.length ∧ 1 ≤ s.period / s.wave.length ∧ s.period / s.wave.length * s.wave.length = s.period ∧ 0 ≤ t % s.period ∧ t % s.period < s.period ∧ 0 ≤ t % s.period / (s.period / s.wave.length) ∧ t % s.period / (s.period / s.wave.length) < s.wave.length ∧
    ∃ w, s.wave[(t % s.period / (s.period / s.wave.length)).toNat]? = some w ∧ 0 ≤ w ∧ w ≤ 1048576 - s.rate := by
  obtain ⟨h1, h2, h3⟩ := starF_zero hs
  obtain ⟨p1, p2, p3⟩ := h2 hn
  have e := Int.tdiv_mul_add_tmod s.period s.wave.length
  rw [p3, Int.add_zero] at e
  have d : s.period.tdiv s.wave.length = s.period / s.wave.length := Int.tdiv_eq_ediv_of_nonneg (by omega)
  rw [d] at e
  have l : 1 ≤ s.period / s.wave.length := by
    rcases Int.lt_or_le 0 (s.period / s.wave.length) with h | h
    · omega
    · have := Int.mul_nonpos_of_nonpos_of_nonneg h (show (0 : Int) ≤ s.wave.length by omega)
      omega
  have m0 : 0 ≤ t % s.period := Int.emod_nonneg _ (by omega)
  have m1 : t % s.period < s.period := Int.emod_lt_of_pos _ (by omega)
  have q0 : 0 ≤ t % s.period / (s.period / s.wave.length) := Int.ediv_nonneg m0 (by omega)
  have q1 : t % s.period / (s.period / s.wave.length) < s.wave.length := Int.ediv_lt_of_lt_mul (by omega) (by rw [Int.mul_comm, e]; exact m1)
  refine ⟨p1, p2, h1, d, l, e, m0, m1, q0, q1, ?_⟩
  have hi : (t % s.period / (s.period / s.wave.length)).toNat < s.wave.length := by omega
  refine ⟨_, List.getElem?_eq_getElem hi, ?_⟩
  have hb : waveBad s.rate s.wave[(t % s.period / (s.period / s.wave.length)).toNat] = false := by
    cases hb : waveBad s.rate s.wave[(t % s.period / (s.period / s.wave.length)).toNat] with
    | false => rfl
    | true =>
      have := List.any_eq_true.2 ⟨_, List.getElem_mem hi, hb⟩
      rw [h3] at this; cases this
  simp only [waveBad, Bool.or_eq_false_iff, decide_eq_false_iff_not] at hb
  omega
def okShine (x : Star × Int) : Prop := starF x.1 = 0 ∧ (0 ≤ x.1.rate ∧ x.1.rate ≤ 1048576) ∧ -17592186044416 ≤ x.2 ∧ x.2 ≤ 17592186044416
noncomputable def sShine : Ev.Spec := specC (cCons cStar (cOne (cI .i64))) okShine fun x => [.int .i64 (shineR x.1 x.2)]
theorem sShine_run (s : Star) (t : Int) (h : okShine (s, t)) : sShine.run [s.D, .int .i64 t] = some [.int .i64 (shineR s t)] := specC_run (cCons cStar (cOne (cI .i64))) _ _ (s, t) h
noncomputable def T1 : Table := tableOf [(67, en67)]
theorem T1_ok : TableOk Try.prog (([] : Specs).map (·.1)) T1 := (table_cons Try.func67 (by kernel_rfl) (by kernel_rfl) table_nil)
theorem eShine (s : Star) (t : Int) (h : okShine (s, t)) : evTop Try.prog [] T1 0 1 67 [s.D, .int .i64 t] = some [.int .i64 (shineR s t)] := by
  obtain ⟨h1, h2, h3, h4⟩ := h
  simp only at h1 h2 h3 h4
  have hph := phase_at h1 t
  obtain ⟨i, ⟨x, y, z⟩, r, wv, p, f, to⟩ := s
  simp only at h2 hph
  have hS : Star.D ⟨i, (x, y, z), r, wv, p, f, to⟩ = .agg 79 [.int .i64 i, .agg 23 [.int .i64 x, .int .i64 y, .int .i64 z], .int .i64 r, .sl 37 (wv.map (.int .i64)), .int .i64 p, .int .i64 f, .int .i64 to] := rfl
  rw [hS]
  unfold shineR
  simp only
  unfold evTop
  simp only [List.map]
  rw [evF_s (fn := Try.f67) (msk := en67.ms) (hT := by rfl) (hb := by rfl)]
  by_cases c1 : t < f
  · rw [if_pos (.inl c1)]
    simp only [Try.f67, go_sem, Nat.reduceAdd, Nat.reduceSub, Nat.reduceMul, Nat.reduceEqDiff, Nat.reduceBEq, Nat.reduceLT, Nat.reduceLeDiff, Nat.reducePow, Int.reduceToNat, Int.reduceLT, Int.reduceLE, Int.reduceGT, Int.reduceGE, Int.reduceEq, Int.reduceNeg, Int.reduceAdd, Int.reduceSub, ↓reduceIte, reduceCtorEq, c1]
  by_cases c2 : t ≥ to
  · rw [if_pos (.inr c2)]
    simp only [Try.f67, go_sem, Nat.reduceAdd, Nat.reduceSub, Nat.reduceMul, Nat.reduceEqDiff, Nat.reduceBEq, Nat.reduceLT, Nat.reduceLeDiff, Nat.reducePow, Int.reduceToNat, Int.reduceLT, Int.reduceLE, Int.reduceGT, Int.reduceGE, Int.reduceEq, Int.reduceNeg, Int.reduceAdd, Int.reduceSub, ↓reduceIte, reduceCtorEq, c1, c2]
  rw [if_neg (by simp only [c1, c2, or_self, not_false_iff])]
  by_cases c3 : wv.length = 0
  · have c3' : (wv.length : Int) = 0 := by omega
    rw [if_pos c3]
    simp only [Try.f67, go_sem, Nat.reduceAdd, Nat.reduceSub, Nat.reduceMul, Nat.reduceEqDiff, Nat.reduceBEq, Nat.reduceLT, Nat.reduceLeDiff, Nat.reducePow, Int.reduceToNat, Int.reduceLT, Int.reduceLE, Int.reduceGT, Int.reduceGE, Int.reduceEq, Int.reduceNeg, Int.reduceAdd, Int.reduceSub, ↓reduceIte, reduceCtorEq, c1, c2, decide_eq_true c3']
  rw [if_neg c3]
  have c3' : ¬ (wv.length : Int) = 0 := by omega
  obtain ⟨p1, p2, n1, d1, l1, e1, m0, m1, q0, q1, w, hw, w0, w1⟩ := hph (by omega)
  have hp0 : ¬ p = 0 := by omega
  have hl0 : ¬ p / (wv.length : Int) = 0 := by omega
  have l2 : p / (wv.length : Int) ≤ p := by
    have := Int.mul_le_mul_of_nonneg_left (show (1 : Int) ≤ wv.length by omega) (show 0 ≤ p / (wv.length : Int) by omega)
    omega
  have v1 : IntKind.i64.wrap (p.tdiv wv.length) = p / wv.length := by rw [d1]; exact wi_in (by omega) (by omega)
  have t1 : (t % p).tdiv (p / wv.length) = t % p / (p / wv.length) := Int.tdiv_eq_ediv_of_nonneg m0
  have v2 : IntKind.i64.wrap (t % p / (p / wv.length)) = t % p / (p / wv.length) := wi_in (by omega) (by omega)
  have v3 : IntKind.i64.wrap (r + w) = r + w := wi_in (by omega) (by omega)
  have hx : (wv.map (D.int .i64))[(t % p / (p / wv.length)).toNat]? = some (.int .i64 w) := by simp [hw]
  have hgd : wv.getD (t % p / (p / wv.length)).toNat 0 = w := by rw [List.getD_eq_getElem?_getD, hw]; rfl
  rw [hgd]
  obtain ⟨h5, h6⟩ := ph (t := t) (p := p) (by omega)
  by_cases c4 : t.tmod p < 0
  · have v0 : IntKind.i64.wrap (t.tmod p + p) = t % p := by rw [← h5 c4]; exact wi_in (by omega) (by omega)
    simp only [Try.f67, go_sem, Nat.reduceAdd, Nat.reduceSub, Nat.reduceMul, Nat.reduceEqDiff, Nat.reduceBEq, Nat.reduceLT, Nat.reduceLeDiff, Nat.reducePow, Int.reduceToNat, Int.reduceLT, Int.reduceLE, Int.reduceGT, Int.reduceGE, Int.reduceEq, Int.reduceNeg, Int.reduceAdd, Int.reduceSub, ↓reduceIte, reduceCtorEq, c1, c2, c3', hp0, hl0, c4, v0, v1, t1, v2, q0, q1, hw, v3]
  · have v0 : t.tmod p = t % p := (h6 c4).symm
    have c4' : ¬ t % p < 0 := by omega
    simp only [Try.f67, go_sem, Nat.reduceAdd, Nat.reduceSub, Nat.reduceMul, Nat.reduceEqDiff, Nat.reduceBEq, Nat.reduceLT, Nat.reduceLeDiff, Nat.reducePow, Int.reduceToNat, Int.reduceLT, Int.reduceLE, Int.reduceGT, Int.reduceGE, Int.reduceEq, Int.reduceNeg, Int.reduceAdd, Int.reduceSub, ↓reduceIte, reduceCtorEq, c1, c2, c3', hp0, hl0, c4', v0, v1, t1, v2, q0, q1, hw, v3]
theorem shine_ok : SpecOk Try.prog 67 sShine := specC_ok mixed specs_nil T1_ok fun x h => ⟨0, 1, eShine x.1 x.2 h⟩
#print axioms shine_ok
/-! ### timed -/
noncomputable def sTimed : Ev.Spec := specC (cCons cSky (cOne (cI .i64))) (fun x => okSky x.1) fun x => [.int .i64 (timedR x.1 x.2)]
theorem sTimed_run (s : Sky) (t : Int) (h : okSky s) : sTimed.run [s.D, .int .i64 t] = some [.int .i64 (timedR s t)] := specC_run (cCons cSky (cOne (cI .i64))) _ _ (s, t) h
noncomputable def G2 : Specs := [(40, sFault)]
noncomputable def T2 : Table := tableOf [(66, en66)]
theorem G2_ok : ∀ g s, Ev.look G2 g = some s → SpecOk Try.prog g s := specs_cons check_ok specs_nil
theorem T2_ok : TableOk Try.prog (G2.map (·.1)) T2 := (table_cons Try.func66 (by kernel_rfl) (by kernel_rfl) table_nil)
def skyD (s : Sky) : D := .agg 47 [.int .i64 s.back, .sl 79 (s.stars.map Star.D), .sl 76 (s.gals.map Gal.D), .sl 39 (s.bods.map bD), bD s.home]
theorem sky_D (s : Sky) : s.D = .agg 47 [.int .i64 s.back, .sl 79 (s.stars.map Star.D), .sl 76 (s.gals.map Gal.D), .sl 39 (s.bods.map bD), bD s.home] := rfl
theorem eTimed (s : Sky) (t : Int) (h : okSky s) : evTop Try.prog G2 T2 0 1 66 [s.D, .int .i64 t] = some [.int .i64 (timedR s t)] := by
  have hf := sFault_run s h
  rw [sky_D] at hf ⊢
  unfold timedR
  generalize fault s = e at *
  unfold evTop
  simp only [List.map]
  rw [evF_s (fn := Try.f66) (msk := en66.ms) (hT := by rfl) (hb := by rfl)]
  by_cases c1 : e = 0
  case neg =>
    rw [if_neg c1]
    simp only [Try.f66, G2, go_sem, Nat.reduceAdd, Nat.reduceSub, Nat.reduceMul, Nat.reduceEqDiff, Nat.reduceBEq, Nat.reduceLT, Nat.reduceLeDiff, Nat.reducePow, Int.reduceToNat, Int.reduceLT, Int.reduceLE, Int.reduceGT, Int.reduceGE, Int.reduceEq, Int.reduceNeg, Int.reduceAdd, Int.reduceSub, ↓reduceIte, reduceCtorEq, hf, c1]
  rw [if_pos c1]
  by_cases c2 : t < -17592186044416
  · rw [if_pos (by simp [tickBad, c2])]
    simp only [Try.f66, G2, go_sem, Nat.reduceAdd, Nat.reduceSub, Nat.reduceMul, Nat.reduceEqDiff, Nat.reduceBEq, Nat.reduceLT, Nat.reduceLeDiff, Nat.reducePow, Int.reduceToNat, Int.reduceLT, Int.reduceLE, Int.reduceGT, Int.reduceGE, Int.reduceEq, Int.reduceNeg, Int.reduceAdd, Int.reduceSub, ↓reduceIte, reduceCtorEq, hf, c1, c2]
  by_cases c3 : t > 17592186044416
  · rw [if_pos (by simp [tickBad, c3])]
    simp only [Try.f66, G2, go_sem, Nat.reduceAdd, Nat.reduceSub, Nat.reduceMul, Nat.reduceEqDiff, Nat.reduceBEq, Nat.reduceLT, Nat.reduceLeDiff, Nat.reducePow, Int.reduceToNat, Int.reduceLT, Int.reduceLE, Int.reduceGT, Int.reduceGE, Int.reduceEq, Int.reduceNeg, Int.reduceAdd, Int.reduceSub, ↓reduceIte, reduceCtorEq, hf, c1, c2, c3]
  rw [if_neg (by simp only [tickBad, c2, c3, decide_false, Bool.or_false, Bool.false_eq_true, not_false_iff])]
  simp only [Try.f66, G2, go_sem, Nat.reduceAdd, Nat.reduceSub, Nat.reduceMul, Nat.reduceEqDiff, Nat.reduceBEq, Nat.reduceLT, Nat.reduceLeDiff, Nat.reducePow, Int.reduceToNat, Int.reduceLT, Int.reduceLE, Int.reduceGT, Int.reduceGE, Int.reduceEq, Int.reduceNeg, Int.reduceAdd, Int.reduceSub, ↓reduceIte, reduceCtorEq, hf, c1, c2, c3]
theorem timed_ok : SpecOk Try.prog 66 sTimed := specC_ok mixed G2_ok T2_ok fun x h => ⟨0, 1, eTimed x.1 x.2 h⟩
#print axioms timed_ok
theorem timed_zero {s : Sky} {t : Int} (h : timedR s t = 0) : fault s = 0 ∧ -17592186044416 ≤ t ∧ t ≤ 17592186044416 := by
  unfold timedR at h
  split at h
  · rename_i h1
    split at h
    · cases h
    · rename_i h2
      simp only [tickBad, Bool.or_eq_true, decide_eq_true_eq] at h2
      exact ⟨h1, by omega, by omega⟩
  · rename_i h1; exact absurd h h1
/-! ### Rate -/
noncomputable def sRate : Ev.Spec := specC (cCons cSky (cCons (cI .i64) (cOne (cI .i64)))) (fun x => okSky x.1) fun x => [.int .i64 (rateR x.1 x.2.1 x.2.2).1, .int .i64 (rateR x.1 x.2.1 x.2.2).2]
noncomputable def G : Specs := [(66, sTimed), (67, sShine)]
noncomputable def T : Table := tableOf [(24, en24)]
theorem G_ok : ∀ g s, Ev.look G g = some s → SpecOk Try.prog g s := specs_cons timed_ok (specs_cons shine_ok specs_nil)
theorem T_ok : TableOk Try.prog (G.map (·.1)) T := (table_cons Try.func24 (by kernel_rfl) (by kernel_rfl) table_nil)
def box (s : Sky) : Blk := ⟨1, 47, [.d s.D], true⟩
def p3 : V := .p (0, 3) 1 0 []
theorem drop_at {l : List Thing} {n : Nat} {x : Thing} {a : Int × Int} {id t : Int} (h : l[n]? = some x) (hf : a = rateT id t (l.drop n)) : (x.id = id → a = (bright t x, 0)) ∧ (¬ x.id = id → a = rateT id t (l.drop (n + 1))) := by
  obtain ⟨h1, h2⟩ := List.getElem?_eq_some_iff.1 h
  rw [List.drop_eq_getElem_cons h1, h2, rateT] at hf
  exact ⟨fun q => by rw [hf, if_pos q], fun q => by rw [hf, if_neg q]⟩
/-! #### stars -/
def h0 (s : Sky) (id t : Int) (i : Nat) : List V := hd24_0 (.d (.int .i64 id)) (.d (.int .i64 t)) p3 (.d (.sl 79 (s.stars.map Star.D))) (.d (.int .i64 s.stars.length)) (.d (.int .i64 i))
def J0 (s : Sky) (id t : Int) (x : Nat × Store) : Prop := x.1 ≤ s.stars.length ∧ x.2 (0, 3) = box s ∧ rateT id t (things s) = rateT id t ((things s).drop (x.1))
def Q0 (s : Sky) (id t : Int) (x : Nat × Store) (o : Out) : Prop := ∃ st', (o = some (.exit 0, hx24_0 (.d (.int .i64 id)) p3, st') ∧ st' (0, 3) = box s ∧ rateT id t (things s) = rateT id t ((things s).drop (s.stars.length))) ∨ o = some (.ret, hr24 (.d (.int .i64 (rateT id t (things s)).1)) (.d (.int .i64 (rateT id t (things s)).2)), st')
theorem loop0 (L : Nat) (call : Caller) (s : Sky) (id t : Int) (hs : okSky s) (hz : timedR s t = 0) :
    ∀ (m : Nat) (x : Nat × Store) (env : List V), J0 s id t x → s.stars.length - x.1 < m → mask (maskOf en24.ms 0) env = h0 s id t x.1 →
      Q0 s id t x (iter (evC Try.prog G call L en24.ms 0 0 lb24_0) (maskOf en24.ms 0) m env x.2) := by
  refine iter_rel _ _ (J0 s id t) (fun x => h0 s id t x.1) (fun x => x.2) (Q0 s id t) (fun x => s.stars.length - x.1) ?_
  rintro ⟨i, st⟩ ⟨hi, q3, qr⟩ k hk
  simp only at hi q3 qr
  by_cases hin : i < s.stars.length
  case neg =>
    obtain rfl : i = s.stars.length := by omega
    have hlt : ¬ (s.stars.length : Int) < s.stars.length := by omega
    refine ⟨st, .inl ⟨?_, q3, qr⟩⟩
    simp only [lb24_0, loopN, loops, h0, p3, hd24_0, hx24_0, Try.f24, go_sem, Nat.reduceAdd, Nat.reduceSub, Nat.reduceMul, Nat.reduceEqDiff, Nat.reduceBEq, Nat.reduceLT, Nat.reduceLeDiff, Nat.reducePow, Int.reduceToNat, Int.reduceLT, Int.reduceLE, Int.reduceGT, Int.reduceGE, Int.reduceEq, Int.reduceNeg, Int.reduceAdd, Int.reduceSub, ↓reduceIte, reduceCtorEq, hlt]
  have hlt : (i : Int) < s.stars.length := by omega
  obtain ⟨⟨hs1, hs3, hs4⟩, hs2⟩ := hs
  have hx : s.stars[i]? = some s.stars[i] := by simp [hin]
  have hmem : s.stars[i] ∈ s.stars := List.getElem_mem _
  have hth := th_st hin
  have g0 : (0 : Int) ≤ (i : Int) := by omega
  have ht : ((i : Int)).toNat = i := by omega
  have hw1 : IntKind.i64.wrap ((i : Int) + 1) = ((i + 1 : Nat) : Int) := by rw [IntWalk.i64_in _ (by omega)]; rfl
  obtain ⟨hd0, hd1⟩ := drop_at hth qr
  generalize s.stars[i] = x at *
  have hret : Thing.id (.st x) = id → ∀ st1, Q0 s id t (i, st) (some (.ret, hr24 (.d (.int .i64 (bright t (.st x)))) (.d (.int .i64 0)), st1)) := fun h1 st1 => ⟨st1, .inr (by rw [hd0 h1])⟩
  have hgo : ¬ Thing.id (.st x) = id → ∀ st1 env, st1 (0, 3) = box s → mask (maskOf en24.ms 0) env = h0 s id t (i + 1) → Q0 s id t (i, st) (k env st1) := fun h1 st1 env h2 h4 =>
    (hk (i + 1, st1) env ⟨by simp only; omega, h2, hd1 h1⟩ (by simp only; omega) h4 : Q0 s id t (i + 1, st1) _)
  obtain ⟨z1, z2, z3⟩ := timed_zero hz
  have hst := fault_star z1 hmem
  have rs := sShine_run x t ⟨hst.1, hst.2, z2, z3⟩
  obtain ⟨i1, ⟨u, v, w⟩, r, wv, p, f, to⟩ := x
  simp only [Thing.id, bright] at hret hgo
  generalize shineR ⟨i1, ⟨u, v, w⟩, r, wv, p, f, to⟩ t = B at *
  simp only [Star.D, vD] at rs
  by_cases c1 : i1 = id
  · have hq := hret c1
    have d1 : decide (i1 = id) = true := decide_eq_true c1
    simp only [lb24_0, loopN, loops, h0, p3, hd24_0, Try.f24, G, go_sem, Nat.reduceAdd, Nat.reduceSub, Nat.reduceMul, Nat.reduceEqDiff, Nat.reduceBEq, Nat.reduceLT, Nat.reduceLeDiff, Nat.reducePow, Int.reduceToNat, Int.reduceLT, Int.reduceLE, Int.reduceGT, Int.reduceGE, Int.reduceEq, Int.reduceNeg, Int.reduceAdd, Int.reduceSub, ↓reduceIte, reduceCtorEq, hlt, hx, g0, ht, hw1, Star.D, vD, d1, rs]
    exact hq _
  · have hq := hgo c1
    have d1 : decide (i1 = id) = false := decide_eq_false c1
    simp only [lb24_0, loopN, loops, h0, p3, hd24_0, Try.f24, G, go_sem, Nat.reduceAdd, Nat.reduceSub, Nat.reduceMul, Nat.reduceEqDiff, Nat.reduceBEq, Nat.reduceLT, Nat.reduceLeDiff, Nat.reducePow, Int.reduceToNat, Int.reduceLT, Int.reduceLE, Int.reduceGT, Int.reduceGE, Int.reduceEq, Int.reduceNeg, Int.reduceAdd, Int.reduceSub, ↓reduceIte, reduceCtorEq, hlt, hx, g0, ht, hw1, Star.D, vD, d1]
    exact hq _ _ (by simp only [go_sem, Nat.reduceAdd, Nat.reduceSub, Nat.reduceMul, Nat.reduceEqDiff, Nat.reduceBEq, Nat.reduceLT, Nat.reduceLeDiff, Nat.reducePow, Int.reduceToNat, Int.reduceLT, Int.reduceLE, Int.reduceGT, Int.reduceGE, Int.reduceEq, Int.reduceNeg, Int.reduceAdd, Int.reduceSub, ↓reduceIte, reduceCtorEq, q3]) (by simp only [h0, p3, hd24_0, Star.D, vD, go_sem, Nat.reduceAdd, Nat.reduceSub, Nat.reduceMul, Nat.reduceEqDiff, Nat.reduceBEq, Nat.reduceLT, Nat.reduceLeDiff, Nat.reducePow, Int.reduceToNat, Int.reduceLT, Int.reduceLE, Int.reduceGT, Int.reduceGE, Int.reduceEq, Int.reduceNeg, Int.reduceAdd, Int.reduceSub, ↓reduceIte, reduceCtorEq, hw1])
/-! #### gals -/
def h1 (s : Sky) (id t : Int) (i : Nat) : List V := hd24_2 (.d (.int .i64 id)) p3 (.d (.sl 76 (s.gals.map Gal.D))) (.d (.int .i64 s.gals.length)) (.d (.int .i64 i))
def J1 (s : Sky) (id t : Int) (x : Nat × Store) : Prop := x.1 ≤ s.gals.length ∧ x.2 (0, 3) = box s ∧ rateT id t (things s) = rateT id t ((things s).drop (s.stars.length + x.1))
def Q1 (s : Sky) (id t : Int) (x : Nat × Store) (o : Out) : Prop := ∃ st', (o = some (.exit 2, hx24_2 (.d (.int .i64 id)) p3, st') ∧ st' (0, 3) = box s ∧ rateT id t (things s) = rateT id t ((things s).drop (s.stars.length + s.gals.length))) ∨ o = some (.ret, hr24 (.d (.int .i64 (rateT id t (things s)).1)) (.d (.int .i64 (rateT id t (things s)).2)), st')
theorem loop1 (L : Nat) (call : Caller) (s : Sky) (id t : Int) (hs : okSky s) :
    ∀ (m : Nat) (x : Nat × Store) (env : List V), J1 s id t x → s.gals.length - x.1 < m → mask (maskOf en24.ms 2) env = h1 s id t x.1 →
      Q1 s id t x (iter (evC Try.prog G call L en24.ms 0 2 lb24_2) (maskOf en24.ms 2) m env x.2) := by
  refine iter_rel _ _ (J1 s id t) (fun x => h1 s id t x.1) (fun x => x.2) (Q1 s id t) (fun x => s.gals.length - x.1) ?_
  rintro ⟨i, st⟩ ⟨hi, q3, qr⟩ k hk
  simp only at hi q3 qr
  by_cases hin : i < s.gals.length
  case neg =>
    obtain rfl : i = s.gals.length := by omega
    have hlt : ¬ (s.gals.length : Int) < s.gals.length := by omega
    refine ⟨st, .inl ⟨?_, q3, qr⟩⟩
    simp only [lb24_2, loopN, loops, h1, p3, hd24_2, hx24_2, Try.f24, go_sem, Nat.reduceAdd, Nat.reduceSub, Nat.reduceMul, Nat.reduceEqDiff, Nat.reduceBEq, Nat.reduceLT, Nat.reduceLeDiff, Nat.reducePow, Int.reduceToNat, Int.reduceLT, Int.reduceLE, Int.reduceGT, Int.reduceGE, Int.reduceEq, Int.reduceNeg, Int.reduceAdd, Int.reduceSub, ↓reduceIte, reduceCtorEq, hlt]
  have hlt : (i : Int) < s.gals.length := by omega
  obtain ⟨⟨hs1, hs3, hs4⟩, hs2⟩ := hs
  have hx : s.gals[i]? = some s.gals[i] := by simp [hin]
  have hmem : s.gals[i] ∈ s.gals := List.getElem_mem _
  have hth := th_ga hin
  have g0 : (0 : Int) ≤ (i : Int) := by omega
  have ht : ((i : Int)).toNat = i := by omega
  have hw1 : IntKind.i64.wrap ((i : Int) + 1) = ((i + 1 : Nat) : Int) := by rw [IntWalk.i64_in _ (by omega)]; rfl
  obtain ⟨hd0, hd1⟩ := drop_at hth qr
  generalize s.gals[i] = x at *
  have hret : Thing.id (.ga x) = id → ∀ st1, Q1 s id t (i, st) (some (.ret, hr24 (.d (.int .i64 (bright t (.ga x)))) (.d (.int .i64 0)), st1)) := fun h1 st1 => ⟨st1, .inr (by rw [hd0 h1])⟩
  have hgo : ¬ Thing.id (.ga x) = id → ∀ st1 env, st1 (0, 3) = box s → mask (maskOf en24.ms 2) env = h1 s id t (i + 1) → Q1 s id t (i, st) (k env st1) := fun h1 st1 env h2 h4 =>
    (hk (i + 1, st1) env ⟨by simp only; omega, h2, hd1 h1⟩ (by simp only; omega) h4 : Q1 s id t (i + 1, st1) _)
  obtain ⟨i1, ⟨u, v, w⟩, r, wide, high⟩ := x
  simp only [Thing.id, bright] at hret hgo
  by_cases c1 : i1 = id
  · have hq := hret c1
    have d1 : decide (i1 = id) = true := decide_eq_true c1
    simp only [lb24_2, loopN, loops, h1, p3, hd24_2, Try.f24, G, go_sem, Nat.reduceAdd, Nat.reduceSub, Nat.reduceMul, Nat.reduceEqDiff, Nat.reduceBEq, Nat.reduceLT, Nat.reduceLeDiff, Nat.reducePow, Int.reduceToNat, Int.reduceLT, Int.reduceLE, Int.reduceGT, Int.reduceGE, Int.reduceEq, Int.reduceNeg, Int.reduceAdd, Int.reduceSub, ↓reduceIte, reduceCtorEq, hlt, hx, g0, ht, hw1, Gal.D, vD, d1]
    exact hq _
  · have hq := hgo c1
    have d1 : decide (i1 = id) = false := decide_eq_false c1
    simp only [lb24_2, loopN, loops, h1, p3, hd24_2, Try.f24, G, go_sem, Nat.reduceAdd, Nat.reduceSub, Nat.reduceMul, Nat.reduceEqDiff, Nat.reduceBEq, Nat.reduceLT, Nat.reduceLeDiff, Nat.reducePow, Int.reduceToNat, Int.reduceLT, Int.reduceLE, Int.reduceGT, Int.reduceGE, Int.reduceEq, Int.reduceNeg, Int.reduceAdd, Int.reduceSub, ↓reduceIte, reduceCtorEq, hlt, hx, g0, ht, hw1, Gal.D, vD, d1]
    exact hq _ _ (by simp only [go_sem, Nat.reduceAdd, Nat.reduceSub, Nat.reduceMul, Nat.reduceEqDiff, Nat.reduceBEq, Nat.reduceLT, Nat.reduceLeDiff, Nat.reducePow, Int.reduceToNat, Int.reduceLT, Int.reduceLE, Int.reduceGT, Int.reduceGE, Int.reduceEq, Int.reduceNeg, Int.reduceAdd, Int.reduceSub, ↓reduceIte, reduceCtorEq, q3]) (by simp only [h1, p3, hd24_2, Gal.D, vD, go_sem, Nat.reduceAdd, Nat.reduceSub, Nat.reduceMul, Nat.reduceEqDiff, Nat.reduceBEq, Nat.reduceLT, Nat.reduceLeDiff, Nat.reducePow, Int.reduceToNat, Int.reduceLT, Int.reduceLE, Int.reduceGT, Int.reduceGE, Int.reduceEq, Int.reduceNeg, Int.reduceAdd, Int.reduceSub, ↓reduceIte, reduceCtorEq, hw1])
/-! #### bods -/
def h2 (s : Sky) (id t : Int) (i : Nat) : List V := hd24_4 (.d (.int .i64 id)) (.d (.sl 39 (s.bods.map bD))) (.d (.int .i64 s.bods.length)) (.d (.int .i64 i))
def J2 (s : Sky) (id t : Int) (x : Nat × Store) : Prop := x.1 ≤ s.bods.length ∧ x.2 (0, 3) = box s ∧ rateT id t (things s) = rateT id t ((things s).drop (s.stars.length + s.gals.length + x.1))
def Q2 (s : Sky) (id t : Int) (x : Nat × Store) (o : Out) : Prop := ∃ st', (o = some (.exit 4, hx24_4, st') ∧ st' (0, 3) = box s ∧ rateT id t (things s) = rateT id t ((things s).drop (s.stars.length + s.gals.length + s.bods.length))) ∨ o = some (.ret, hr24 (.d (.int .i64 (rateT id t (things s)).1)) (.d (.int .i64 (rateT id t (things s)).2)), st')
theorem loop2 (L : Nat) (call : Caller) (s : Sky) (id t : Int) (hs : okSky s) :
    ∀ (m : Nat) (x : Nat × Store) (env : List V), J2 s id t x → s.bods.length - x.1 < m → mask (maskOf en24.ms 4) env = h2 s id t x.1 →
      Q2 s id t x (iter (evC Try.prog G call L en24.ms 0 4 lb24_4) (maskOf en24.ms 4) m env x.2) := by
  refine iter_rel _ _ (J2 s id t) (fun x => h2 s id t x.1) (fun x => x.2) (Q2 s id t) (fun x => s.bods.length - x.1) ?_
  rintro ⟨i, st⟩ ⟨hi, q3, qr⟩ k hk
  simp only at hi q3 qr
  by_cases hin : i < s.bods.length
  case neg =>
    obtain rfl : i = s.bods.length := by omega
    have hlt : ¬ (s.bods.length : Int) < s.bods.length := by omega
    refine ⟨st, .inl ⟨?_, q3, qr⟩⟩
    simp only [lb24_4, loopN, loops, h2, p3, hd24_4, hx24_4, Try.f24, go_sem, Nat.reduceAdd, Nat.reduceSub, Nat.reduceMul, Nat.reduceEqDiff, Nat.reduceBEq, Nat.reduceLT, Nat.reduceLeDiff, Nat.reducePow, Int.reduceToNat, Int.reduceLT, Int.reduceLE, Int.reduceGT, Int.reduceGE, Int.reduceEq, Int.reduceNeg, Int.reduceAdd, Int.reduceSub, ↓reduceIte, reduceCtorEq, hlt]
  have hlt : (i : Int) < s.bods.length := by omega
  obtain ⟨⟨hs1, hs3, hs4⟩, hs2⟩ := hs
  have hx : s.bods[i]? = some s.bods[i] := by simp [hin]
  have hmem : s.bods[i] ∈ s.bods := List.getElem_mem _
  have hth := th_bo hin
  have g0 : (0 : Int) ≤ (i : Int) := by omega
  have ht : ((i : Int)).toNat = i := by omega
  have hw1 : IntKind.i64.wrap ((i : Int) + 1) = ((i + 1 : Nat) : Int) := by rw [IntWalk.i64_in _ (by omega)]; rfl
  obtain ⟨hd0, hd1⟩ := drop_at hth qr
  generalize s.bods[i] = x at *
  have hret : Thing.id (.bo x) = id → ∀ st1, Q2 s id t (i, st) (some (.ret, hr24 (.d (.int .i64 (bright t (.bo x)))) (.d (.int .i64 0)), st1)) := fun h1 st1 => ⟨st1, .inr (by rw [hd0 h1])⟩
  have hgo : ¬ Thing.id (.bo x) = id → ∀ st1 env, st1 (0, 3) = box s → mask (maskOf en24.ms 4) env = h2 s id t (i + 1) → Q2 s id t (i, st) (k env st1) := fun h1 st1 env h2 h4 =>
    (hk (i + 1, st1) env ⟨by simp only; omega, h2, hd1 h1⟩ (by simp only; omega) h4 : Q2 s id t (i + 1, st1) _)
  obtain ⟨i1, ⟨u, v, w⟩, ⟨u2, v2, w2⟩, r⟩ := x
  simp only [Thing.id, bright] at hret hgo
  by_cases c1 : i1 = id
  · have hq := hret c1
    have d1 : decide (i1 = id) = true := decide_eq_true c1
    simp only [lb24_4, loopN, loops, h2, p3, hd24_4, Try.f24, G, go_sem, Nat.reduceAdd, Nat.reduceSub, Nat.reduceMul, Nat.reduceEqDiff, Nat.reduceBEq, Nat.reduceLT, Nat.reduceLeDiff, Nat.reducePow, Int.reduceToNat, Int.reduceLT, Int.reduceLE, Int.reduceGT, Int.reduceGE, Int.reduceEq, Int.reduceNeg, Int.reduceAdd, Int.reduceSub, ↓reduceIte, reduceCtorEq, hlt, hx, g0, ht, hw1, bD, vD, d1]
    exact hq _
  · have hq := hgo c1
    have d1 : decide (i1 = id) = false := decide_eq_false c1
    simp only [lb24_4, loopN, loops, h2, p3, hd24_4, Try.f24, G, go_sem, Nat.reduceAdd, Nat.reduceSub, Nat.reduceMul, Nat.reduceEqDiff, Nat.reduceBEq, Nat.reduceLT, Nat.reduceLeDiff, Nat.reducePow, Int.reduceToNat, Int.reduceLT, Int.reduceLE, Int.reduceGT, Int.reduceGE, Int.reduceEq, Int.reduceNeg, Int.reduceAdd, Int.reduceSub, ↓reduceIte, reduceCtorEq, hlt, hx, g0, ht, hw1, bD, vD, d1]
    exact hq _ _ (by simp only [go_sem, Nat.reduceAdd, Nat.reduceSub, Nat.reduceMul, Nat.reduceEqDiff, Nat.reduceBEq, Nat.reduceLT, Nat.reduceLeDiff, Nat.reducePow, Int.reduceToNat, Int.reduceLT, Int.reduceLE, Int.reduceGT, Int.reduceGE, Int.reduceEq, Int.reduceNeg, Int.reduceAdd, Int.reduceSub, ↓reduceIte, reduceCtorEq, q3]) (by simp only [h2, p3, hd24_4, bD, vD, go_sem, Nat.reduceAdd, Nat.reduceSub, Nat.reduceMul, Nat.reduceEqDiff, Nat.reduceBEq, Nat.reduceLT, Nat.reduceLeDiff, Nat.reducePow, Int.reduceToNat, Int.reduceLT, Int.reduceLE, Int.reduceGT, Int.reduceGE, Int.reduceEq, Int.reduceNeg, Int.reduceAdd, Int.reduceSub, ↓reduceIte, reduceCtorEq, hw1])
/-! #### as a whole -/
theorem eRate (s : Sky) (id t : Int) (hs : okSky s) : evTop Try.prog G T (s.stars.length + s.gals.length + s.bods.length + 1) 1 24 [s.D, .int .i64 id, .int .i64 t] = some [.int .i64 (rateR s id t).1, .int .i64 (rateR s id t).2] := by
  have htm := sTimed_run s t hs
  have hlen := things_len s
  have hB : box s = ⟨1, 47, [.d s.D], true⟩ := rfl
  rw [sky_D] at htm hB ⊢
  unfold rateR
  unfold evTop
  simp only [List.map]
  rw [evF_s (fn := Try.f24) (msk := en24.ms) (hT := by rfl) (hb := by rfl)]
  by_cases c1 : timedR s t = 0
  case neg =>
    rw [if_neg c1]
    generalize timedR s t = e at *
    simp only [Try.f24, G, go_sem, Nat.reduceAdd, Nat.reduceSub, Nat.reduceMul, Nat.reduceEqDiff, Nat.reduceBEq, Nat.reduceLT, Nat.reduceLeDiff, Nat.reducePow, Int.reduceToNat, Int.reduceLT, Int.reduceLE, Int.reduceGT, Int.reduceGE, Int.reduceEq, Int.reduceNeg, Int.reduceAdd, Int.reduceSub, ↓reduceIte, reduceCtorEq, htm, c1]
  have l0 := fun L call => loop0 L call s id t hs c1
  have l1 := fun L call => loop1 L call s id t hs
  have l2 := fun L call => loop2 L call s id t hs
  rw [if_pos c1]
  simp only [Try.f24, G, go_sem, Nat.reduceAdd, Nat.reduceSub, Nat.reduceMul, Nat.reduceEqDiff, Nat.reduceBEq, Nat.reduceLT, Nat.reduceLeDiff, Nat.reducePow, Int.reduceToNat, Int.reduceLT, Int.reduceLE, Int.reduceGT, Int.reduceGE, Int.reduceEq, Int.reduceNeg, Int.reduceAdd, Int.reduceSub, ↓reduceIte, reduceCtorEq, htm, c1]
  refine loop_then (R := Q0 s id t (0, _)) (l0 _ _ _ (0, _) _ ⟨by simp only; omega, by simp only [go_sem, Nat.reduceAdd, Nat.reduceSub, Nat.reduceMul, Nat.reduceEqDiff, Nat.reduceBEq, Nat.reduceLT, Nat.reduceLeDiff, Nat.reducePow, Int.reduceToNat, Int.reduceLT, Int.reduceLE, Int.reduceGT, Int.reduceGE, Int.reduceEq, Int.reduceNeg, Int.reduceAdd, Int.reduceSub, ↓reduceIte, reduceCtorEq, hB], rfl⟩ (by simp only; omega) (by simp only [h0, p3, hd24_0, go_sem, Nat.reduceAdd, Nat.reduceSub, Nat.reduceMul, Nat.reduceEqDiff, Nat.reduceBEq, Nat.reduceLT, Nat.reduceLeDiff, Nat.reducePow, Int.reduceToNat, Int.reduceLT, Int.reduceLE, Int.reduceGT, Int.reduceGE, Int.reduceEq, Int.reduceNeg, Int.reduceAdd, Int.reduceSub, ↓reduceIte, reduceCtorEq])) ?_
  rintro o ⟨st1, ⟨rfl, q3, qr⟩ | rfl⟩
  case inr => simp only [hr24, go_sem, Nat.reduceAdd, Nat.reduceSub, Nat.reduceMul, Nat.reduceEqDiff, Nat.reduceBEq, Nat.reduceLT, Nat.reduceLeDiff, Nat.reducePow, Int.reduceToNat, Int.reduceLT, Int.reduceLE, Int.reduceGT, Int.reduceGE, Int.reduceEq, Int.reduceNeg, Int.reduceAdd, Int.reduceSub, ↓reduceIte, reduceCtorEq]
  have q3' := q3
  rw [hB] at q3'
  simp only [hx24_0, p3, go_sem, Nat.reduceAdd, Nat.reduceSub, Nat.reduceMul, Nat.reduceEqDiff, Nat.reduceBEq, Nat.reduceLT, Nat.reduceLeDiff, Nat.reducePow, Int.reduceToNat, Int.reduceLT, Int.reduceLE, Int.reduceGT, Int.reduceGE, Int.reduceEq, Int.reduceNeg, Int.reduceAdd, Int.reduceSub, ↓reduceIte, reduceCtorEq, q3']
  refine loop_then (R := Q1 s id t (0, _)) (l1 _ _ _ (0, _) _ ⟨by simp only; omega, q3, qr⟩ (by simp only; omega) (by simp only [h1, p3, hd24_2, go_sem, Nat.reduceAdd, Nat.reduceSub, Nat.reduceMul, Nat.reduceEqDiff, Nat.reduceBEq, Nat.reduceLT, Nat.reduceLeDiff, Nat.reducePow, Int.reduceToNat, Int.reduceLT, Int.reduceLE, Int.reduceGT, Int.reduceGE, Int.reduceEq, Int.reduceNeg, Int.reduceAdd, Int.reduceSub, ↓reduceIte, reduceCtorEq])) ?_
  rintro o ⟨st2, ⟨rfl, q3, qr⟩ | rfl⟩
  case inr => simp only [hr24, go_sem, Nat.reduceAdd, Nat.reduceSub, Nat.reduceMul, Nat.reduceEqDiff, Nat.reduceBEq, Nat.reduceLT, Nat.reduceLeDiff, Nat.reducePow, Int.reduceToNat, Int.reduceLT, Int.reduceLE, Int.reduceGT, Int.reduceGE, Int.reduceEq, Int.reduceNeg, Int.reduceAdd, Int.reduceSub, ↓reduceIte, reduceCtorEq]
  have q3' := q3
  rw [hB] at q3'
  simp only [hx24_2, p3, go_sem, Nat.reduceAdd, Nat.reduceSub, Nat.reduceMul, Nat.reduceEqDiff, Nat.reduceBEq, Nat.reduceLT, Nat.reduceLeDiff, Nat.reducePow, Int.reduceToNat, Int.reduceLT, Int.reduceLE, Int.reduceGT, Int.reduceGE, Int.reduceEq, Int.reduceNeg, Int.reduceAdd, Int.reduceSub, ↓reduceIte, reduceCtorEq, q3']
  refine loop_then (R := Q2 s id t (0, _)) (l2 _ _ _ (0, _) _ ⟨by simp only; omega, q3, qr⟩ (by simp only; omega) (by simp only [h2, p3, hd24_4, go_sem, Nat.reduceAdd, Nat.reduceSub, Nat.reduceMul, Nat.reduceEqDiff, Nat.reduceBEq, Nat.reduceLT, Nat.reduceLeDiff, Nat.reducePow, Int.reduceToNat, Int.reduceLT, Int.reduceLE, Int.reduceGT, Int.reduceGE, Int.reduceEq, Int.reduceNeg, Int.reduceAdd, Int.reduceSub, ↓reduceIte, reduceCtorEq])) ?_
  rintro o ⟨st3, ⟨rfl, q3, qr⟩ | rfl⟩
  case inr => simp only [hr24, go_sem, Nat.reduceAdd, Nat.reduceSub, Nat.reduceMul, Nat.reduceEqDiff, Nat.reduceBEq, Nat.reduceLT, Nat.reduceLeDiff, Nat.reducePow, Int.reduceToNat, Int.reduceLT, Int.reduceLE, Int.reduceGT, Int.reduceGE, Int.reduceEq, Int.reduceNeg, Int.reduceAdd, Int.reduceSub, ↓reduceIte, reduceCtorEq]
  rw [← hlen, List.drop_length] at qr
  rw [qr]
  simp only [hx24_4, p3, go_sem, Nat.reduceAdd, Nat.reduceSub, Nat.reduceMul, Nat.reduceEqDiff, Nat.reduceBEq, Nat.reduceLT, Nat.reduceLeDiff, Nat.reducePow, Int.reduceToNat, Int.reduceLT, Int.reduceLE, Int.reduceGT, Int.reduceGE, Int.reduceEq, Int.reduceNeg, Int.reduceAdd, Int.reduceSub, ↓reduceIte, reduceCtorEq, rateT]
theorem rate_ok : SpecOk Try.prog 24 sRate := specC_ok mixed G_ok T_ok fun x h => ⟨_, 1, eRate x.1 x.2.1 x.2.2 h⟩
#print axioms rate_ok
end Go.Proofs.YtmhjmjodchbhlaaR.RateARate
end
section
set_option linter.unusedVariables false
set_option maxRecDepth 1000000
namespace Go.Proofs.YtmhjmjodchbhlaaR.SkiesPull
open Go.Ev Go.Proofs.YtmhjmjodchbhlaaR.FxPull Go.Proofs.YtmhjmjodchbhlaaR.PullPull
/-- A function of no arguments whose answer is known. -/
def known (r : List D) : Ev.Spec := ⟨fun xs => match xs with | [] => some r | _ => none⟩
theorem known_run (r : List D) : (known r).run [] = some r := rfl
theorem known_ok {G : Specs} {T : Table} {f : FuncId} {r : List D} (L c : Nat) (hG : ∀ g s, Ev.look G g = some s → SpecOk Try.prog g s) (hT : TableOk Try.prog (G.map (·.1)) T) (h : evTop Try.prog G T L c f [] = some r) : SpecOk Try.prog f (known r) :=
  spec_of_ev mixed hG hT fun xs rs hr => by
    simp only [known] at hr
    split at hr
    · cases hr; exact ⟨L, c, h⟩
    · cases hr
/-- The part's contract, as the kernel can run it. -/
def sPartC : Ev.Spec := ⟨fun xs => match xs with | [.int .i64 x, .ptr (.int .i64 r)] => if -4194304 ≤ x ∧ x ≤ 4194304 ∧ 65536 ≤ r ∧ r < 1073741824 then some [.int .i64 (plx r x)] else none | _ => none⟩
theorem sPartC_ok : SpecOk Try.prog 48 sPartC := sPart_ok.weak fun xs rs h => by
  simp only [sPartC] at h
  split at h
  · split at h
    · rename_i hp
      cases h
      exact sPart_run _ _ hp
    · cases h
  · cases h
def G0 : Specs := [(48, sPartC)]
theorem G0_ok : ∀ g s, Ev.look G0 g = some s → SpecOk Try.prog g s := specs_cons sPartC_ok specs_nil
noncomputable def T0 : Table := tableOf [(14, en14), (30, en30), (46, en46), (78, en78), (93, en93), (15, en15), (47, en47), (98, en98), (101, en101), (40, en40)]
theorem e0 : evTop Try.prog G0 T0 70 9 14 [] = some [.bool true] := by kernel_rfl
theorem T0_ok : TableOk Try.prog (G0.map (·.1)) T0 := (table_cons Try.func14 (by kernel_rfl) (by kernel_rfl) (table_cons Try.func30 (by kernel_rfl) (by kernel_rfl) (table_cons Try.func46 (by kernel_rfl) (by kernel_rfl) (table_cons Try.func78 (by kernel_rfl) (by kernel_rfl) (table_cons Try.func93 (by kernel_rfl) (by kernel_rfl) (table_cons Try.func15 (by kernel_rfl) (by kernel_rfl) (table_cons Try.func47 (by kernel_rfl) (by kernel_rfl) (table_cons Try.func98 (by kernel_rfl) (by kernel_rfl) (table_cons Try.func101 (by kernel_rfl) (by kernel_rfl) (table_cons Try.func40 (by kernel_rfl) (by kernel_rfl) table_nil))))))))))
theorem skies_ok : SpecOk Try.prog 14 (known [.bool true]) := known_ok 70 9 G0_ok T0_ok e0
#print axioms skies_ok
end Go.Proofs.YtmhjmjodchbhlaaR.SkiesPull
end
