/- Parts of one proof, joined: PlacePlace, Idx72Dir, Idx74Dir, Idx76Dir, DirDir, DirbDir, SkyInRate, SkiesPull. -/
import Derived.Test.YtmhjmjodchbhlaaRMSkyDirs14
section
set_option linter.unusedVariables false
set_option linter.unusedSimpArgs false
set_option maxRecDepth 100000
namespace Go.Proofs.YtmhjmjodchbhlaaR.PlacePlace
open Go.Ev Go.Ari Go.Proofs.YtmhjmjodchbhlaaR.FxPlace Go.Proofs.YtmhjmjodchbhlaaR.PullPull Go.Proofs.YtmhjmjodchbhlaaR.Pull2Pull Go.Proofs.YtmhjmjodchbhlaaR.FloorPlace
open Go.Proofs.YtmhjmjodchbhlaaR.PathPath (St nx tr sw tr_go tr_stop tr_back zV pathS pathR Bod bD cBod cPath sPath path_ok step_run row)
open Go.Proofs.YtmhjmjodchbhlaaR.PathePath (pathd_ok)
attribute [local go_sem] Ev.putR_s Ev.putR_0 Ev.thenO_s Ev.thenO_0 Ev.seqR_n Ev.seqR_e Ev.seqR_r Ev.seqR_0 Ev.blkR_e Ev.blkR_n Ev.blkR_r Ev.blkR_0 Ev.normR_s Ev.normR_0 Ev.outR_r Ev.outR_n Ev.outR_0 Ev.retS_s Ev.retS_0 Ev.pureO_s Ev.pureO_0 Ev.topR_0 Ev.topR_t Ev.topR_t0 Ev.oneL_0 Ev.oneL_s Ev.topR_d Ev.topR_nils Ev.topR_agg Ev.topR_rs Ev.evOp_move Ev.evOp_assign Ev.evOp_pick Ev.evOp_alloc Ev.evOp_box Ev.evOp_build Ev.evOp_buildSlice Ev.evOp_load Ev.evOp_store Ev.evOp_makeMap Ev.evOp_lookup Ev.evOp_mapUpdate Ev.evOp_insert Ev.evOp_nilCheck Ev.evOp_binOp Ev.evOp_unOp Ev.evOp_convert Ev.evOp_makeFunc Ev.evOp_makeSlice Ev.evOp_slice Ev.evOp_fieldAddr Ev.evOp_field Ev.evOp_indexAddr Ev.evOp_index Ev.evOp_extract Ev.evOp_call Ev.evOp_append Ev.evOp_len Ev.evOp_min Ev.evOp_max Ev.condR_b Ev.condR_t Ev.evOps_nil Ev.evOps_plain Ev.evOps_guard Ev.runG_eq Ev.skipG_eq Ev.condL_tt Ev.condL_ff Ev.condL_tf Ev.condL_ft Ev.condL_u Ev.condC_t Ev.condC_f Ev.evC_skip Ev.evC_ret Ev.evC_exit Ev.evC_label Ev.evC_region Ev.evC_draw Ev.evC_seq Ev.evC_cond Ev.evC_block Ev.evC_loop Ev.fin_d Ev.fin_nils Ev.fin_agg_ Ev.fin_rs Ev.finS_s Ev.mapO_fin Ev.upd_upd Ev.argv_d Ev.argv_nils Ev.argv_agg Ev.argv_rs Ev.argv_p Ev.appendTo_nils Ev.appendTo_rs Ev.consV_d Ev.consV_agg Ev.consV_p Ev.consV_rs Ev.consV_nils Ev.consV_fn Ev.consV_und Ev.consV_jk Ev.consV_grown Ev.topR_grown Ev.len_grown Ev.consV_mp Ev.sameK_i Ev.sameK_s Ev.mget_0 Ev.mget_hit Ev.mget_miss Ev.mput_0 Ev.mput_hit Ev.mput_miss Ev.apartAll Ev.apartL Ev.apartV Ev.freeAll Ev.sel Ev.keyOfV Ev.evLookup Ev.evPut Ev.hintOk Ev.keyOk Ev.consP Ev.lookV Ev.guardV Ev.dstAt Ev.evPure Ev.evStore Ev.evPureB Ev.evBin Ev.evBinO Ev.evNil Ev.isNilC Ev.evUn Ev.evConv Ev.evSlice Ev.optI Ev.lenV Ev.elemT Ev.foldI Ev.capsOk Ev.noTup Ev.nth Ev.setN Ev.pad Ev.V.get Ev.V.put Ev.putD Ev.hasT Ev.newBlk Ev.upd Ev.keq Ev.empty Ev.evCall Ev.V.args Ev.argP Ev.callOf Ev.evNilP Ev.isNilP Ev.look Ev.V.view.views Ev.V.view Ev.V.toD Ev.V.toD.V.toDs Ev.V.pure.pures Ev.V.pure Ev.D.flat.flats Ev.D.flat Ev.mkAgg Ev.allD Ev.aggParts Ev.setParts Ev.setElems Ev.getPath Ev.setPath Ev.subL Ev.eqD Ev.eqD.eqDs Ev.and2 Ev.strCut Ev.evalT Ev.constT Ev.evArgs Ev.mask Ev.maskOf Ev.tableOf Ev.compT Ev.resV Ev.retV Ev.mapO Ev.elemsOf Int.cast_ofNat_Int IntWalk.i64_in IntWalk.u64_in IntWalk.u8_in beq_self_eq_true Bool.true_beq Bool.false_beq Bool.and_true Bool.true_and Bool.false_and Bool.and_false Bool.and_self Bool.not_true Bool.not_false Bool.not_eq_true cond_true cond_false if_true if_false and_true true_and and_self decide_true decide_false Bool.or_true Bool.true_or Bool.or_false Bool.false_or List.isEmpty List.isEmpty_nil List.size_toArray List.map List.length_map List.length_cons List.length_nil Option.map Option.bind Option.getD Option.isSome List.replicate Bool.false_eq_true implies_true forall_const Array.toList Array.isEmpty List.append List.nil_append List.cons_append List.drop_zero List.take_length List.take_succ_cons List.take_zero List.take_nil List.getElem?_map List.getElem?_cons_zero List.getElem?_cons_succ List.getElem?_nil List.append_nil
attribute [local go_sem] FxPlace.tk2 FxPlace.ik2 FxPlace.ek2 FxPlace.zv2 FxPlace.tk3 FxPlace.ik3 FxPlace.zv3 FxPlace.tk4 FxPlace.ub4 FxPlace.zv4 FxPlace.tk23 FxPlace.ct23 FxPlace.ek23 FxPlace.zv23 FxPlace.tk27 FxPlace.ik27 FxPlace.zv27 FxPlace.tk37 FxPlace.ik37 FxPlace.zv37 FxPlace.tk39 FxPlace.ct39 FxPlace.zv39 FxPlace.tk48 FxPlace.ik48 FxPlace.zv48 FxPlace.tk91 FxPlace.zv91 FxPlace.mk8_1000000 FxPlace.dw26_12 FxPlace.nc26_12 FxPlace.mk26_1000000 FxPlace.dw27_3 FxPlace.nc27_3 FxPlace.dw27_13 FxPlace.nc27_13 FxPlace.mk27_1000000 FxPlace.mk69_1000000 FxPlace.mk70_1000000 FxPlace.mk71_0 FxPlace.mk71_1000001 FxPlace.mk71_1000002 FxPlace.mk71_1000000
/-! ### a day on -/
theorem step_ok {u v : Vec} (h : (stepR u v).2 = 0) : okV 4194304 u = true ∧ okV 4194304 v = true ∧ okV 4194304 (stepR u v).1 = true ∧ (stepR u v).1 = (2 * v.1 - u.1 + (pull v).1, 2 * v.2.1 - u.2.1 + (pull v).2.1, 2 * v.2.2 - u.2.2 + (pull v).2.2) := by
  unfold stepR at h ⊢
  split at h
  · rename_i h1
    split at h
    · rename_i h2
      split at h
      · rename_i h3
        rw [if_pos h1, if_pos h2, if_pos h3]
        exact ⟨h1, h2, h3, rfl⟩
      · simp at h
    · simp at h
  · simp at h
theorem step_back {u v : Vec} (h : (stepR u v).2 = 0) : stepR (stepR u v).1 v = (u, 0) := by
  obtain ⟨h1, h2, h3, h4⟩ := step_ok h
  generalize hw : (stepR u v).1 = w at *
  have e : (2 * v.1 - w.1 + (pull v).1, 2 * v.2.1 - w.2.1 + (pull v).2.1, 2 * v.2.2 - w.2.2 + (pull v).2.2) = u := by
    rw [h4]
    obtain ⟨u1, u2, u3⟩ := u
    simp only [Prod.mk.injEq]
    omega
  unfold stepR
  rw [if_pos h3, if_pos h2, e, if_pos h1]
theorem next_day {a b : Vec} {day : Int} (h : (pathS a b day).2.2 = 0) : pathS a b (day + 1) = ((pathS a b day).2.1, (stepR (pathS a b day).1 (pathS a b day).2.1).1, (stepR (pathS a b day).1 (pathS a b day).2.1).2) := by
  by_cases hp : 0 ≤ day
  · have e1 : (-day).toNat = 0 := by omega
    have e2 : (-(day + 1)).toNat = 0 := by omega
    have e3 : (day + 1).toNat = day.toNat + 1 := by omega
    have hX : pathS a b day = tr (a, b, 0) day.toNat := by unfold pathS; rw [e1]; rfl
    have hY : pathS a b (day + 1) = tr (a, b, 0) (day.toNat + 1) := by unfold pathS; rw [e2, e3]; rfl
    rw [hX] at h ⊢
    rw [hY, tr_go h]
  · obtain ⟨k, hk⟩ : ∃ k : Nat, (-day).toNat = k + 1 := ⟨(-day).toNat - 1, by omega⟩
    have e1 : day.toNat = 0 := by omega
    have e2 : (day + 1).toNat = 0 := by omega
    have e3 : (-(day + 1)).toNat = k := by omega
    have hX : pathS a b day = sw (tr (sw (a, b, 0)) (k + 1)) := by unfold pathS; rw [e1, hk]; rfl
    have hY : pathS a b (day + 1) = sw (tr (sw (a, b, 0)) k) := by unfold pathS; rw [e2, e3]; rfl
    rw [hX] at h ⊢
    have hb : (tr (sw (a, b, 0)) k).2.2 = 0 := tr_back h
    have hg := tr_go hb
    rw [hg] at h ⊢
    have hs : (stepR (tr (sw (a, b, 0)) k).1 (tr (sw (a, b, 0)) k).2.1).2 = 0 := h
    have hq := step_back hs
    simp only [sw] at hq hb ⊢
    rw [hq, hY]
    simp only [sw, hb]
noncomputable def placeR (a b : Vec) (t : Int) : Vec × Int :=
  if t / 86400000 < -400 ∨ t / 86400000 ≥ 400 then (zV, 4)
  else if ¬ (pathR a b (t / 86400000)).2.2 = 0 then (zV, (pathR a b (t / 86400000)).2.2)
  else if ¬ (stepR (pathR a b (t / 86400000)).1 (pathR a b (t / 86400000)).2.1).2 = 0 then (zV, (stepR (pathR a b (t / 86400000)).1 (pathR a b (t / 86400000)).2.1).2)
  else ((mid (t % 86400000) (pathR a b (t / 86400000)).2.1.1 (stepR (pathR a b (t / 86400000)).1 (pathR a b (t / 86400000)).2.1).1.1,
    mid (t % 86400000) (pathR a b (t / 86400000)).2.1.2.1 (stepR (pathR a b (t / 86400000)).1 (pathR a b (t / 86400000)).2.1).1.2.1,
    mid (t % 86400000) (pathR a b (t / 86400000)).2.1.2.2 (stepR (pathR a b (t / 86400000)).1 (pathR a b (t / 86400000)).2.1).1.2.2), 0)
/-- What Pathed answers a day on. -/
theorem path_next {a b : Vec} {day : Int} (h1 : -400 ≤ day) (h2 : day < 400) (h : (pathR a b day).2.2 = 0) : (pathR a b (day + 1)).2.2 = (stepR (pathR a b day).1 (pathR a b day).2.1).2 ∧
    ((stepR (pathR a b day).1 (pathR a b day).2.1).2 = 0 → (pathR a b (day + 1)).2.1 = (stepR (pathR a b day).1 (pathR a b day).2.1).1) := by
  have hc : ¬ (day < -400 ∨ day > 400 ∨ ¬ okV 4194304 a = true ∨ ¬ okV 4194304 b = true) := by
    intro hc
    unfold pathR at h
    rw [if_pos hc] at h
    exact absurd h (by decide)
  have hx : pathR a b day = pathS a b day ∧ (pathS a b day).2.2 = 0 := by
    unfold pathR at h ⊢
    rw [if_neg hc] at h ⊢
    by_cases hz : (pathS a b day).2.2 = 0
    · rw [if_pos hz]; exact ⟨rfl, hz⟩
    · rw [if_neg hz] at h; exact absurd h hz
  obtain ⟨hx, hz⟩ := hx
  have hn := next_day hz
  have hc' : ¬ (day + 1 < -400 ∨ day + 1 > 400 ∨ ¬ okV 4194304 a = true ∨ ¬ okV 4194304 b = true) := by
    intro q
    apply hc
    rcases q with q | q | q | q
    · omega
    · omega
    · exact .inr (.inr (.inl q))
    · exact .inr (.inr (.inr q))
  rw [hx]
  unfold pathR
  rw [if_neg hc', hn]
  by_cases hs : (stepR (pathS a b day).1 (pathS a b day).2.1).2 = 0
  · rw [if_pos hs]; exact ⟨rfl, fun _ => rfl⟩
  · rw [if_neg hs]; exact ⟨rfl, fun q => absurd q hs⟩
theorem path_run (b : Bod) (day : Int) : sPath.run [.agg 39 [.int .i64 b.1, .agg 23 [.int .i64 b.2.1.1, .int .i64 b.2.1.2.1, .int .i64 b.2.1.2.2], .agg 23 [.int .i64 b.2.2.1.1, .int .i64 b.2.2.1.2.1, .int .i64 b.2.2.1.2.2], .int .i64 b.2.2.2], .int .i64 day] = some [vD (pathR b.2.1 b.2.2.1 day).1, vD (pathR b.2.1 b.2.2.1 day).2.1, .int .i64 (pathR b.2.1 b.2.2.1 day).2.2] := specC_run cPath _ _ (b, day) trivial
noncomputable def sPlace : Ev.Spec := specC cPath (fun x => -9223372036854775808 ≤ x.2 ∧ x.2 < 9223372036854775808) fun x => [vD (placeR x.1.2.1 x.1.2.2.1 x.2).1, .int .i64 (placeR x.1.2.1 x.1.2.2.1 x.2).2]
noncomputable def GA : Specs := [(69, sFloor), (22, sPath), (17, sStep), (70, sMid)]
noncomputable def TA : Table := tableOf [(26, en26)]
theorem GA_ok : ∀ g s, Ev.look GA g = some s → SpecOk Try.prog g s := specs_cons floor_ok (specs_cons path_ok (specs_cons stepA_ok (specs_cons midA_ok specs_nil)))
theorem TA_ok : TableOk Try.prog (GA.map (·.1)) TA := (table_cons Try.func26 (by kernel_rfl) (by kernel_rfl) table_nil)
theorem mids {u v : Vec} {t : Int} (h : (stepR u v).2 = 0) : MM (t % 86400000) v.1 (stepR u v).1.1 ∧ MM (t % 86400000) v.2.1 (stepR u v).1.2.1 ∧ MM (t % 86400000) v.2.2 (stepR u v).1.2.2 := by
  obtain ⟨_, h2, h3, _⟩ := step_ok h
  obtain ⟨⟨x0, x1⟩, ⟨y0, y1⟩, z0, z1⟩ := okV_spec h2
  obtain ⟨⟨a0, a1⟩, ⟨b0, b1⟩, c0, c1⟩ := okV_spec h3
  exact ⟨⟨x0, x1, a0, a1, by omega, by omega⟩, ⟨y0, y1, b0, b1, by omega, by omega⟩, ⟨z0, z1, c0, c1, by omega, by omega⟩⟩
theorem ePlaceA (b : Bod) (t : Int) (ht : -9223372036854775808 ≤ t ∧ t < 9223372036854775808) : evTop Try.prog GA TA 0 1 26 [bD b, .int .i64 t] = some [vD (placeR b.2.1 b.2.2.1 t).1, .int .i64 (placeR b.2.1 b.2.2.1 t).2] := by
  unfold evTop
  simp only [List.map]
  rw [evF_s (fn := Try.f26) (msk := en26.ms) (hT := by rfl) (hb := by rfl)]
  have rf := sFloor_run t ht
  have rp := path_run b (t / 86400000)
  unfold placeR
  by_cases c1 : t / 86400000 < -400
  · rw [if_pos (.inl c1)]
    simp only [Try.f26, GA, go_sem, Nat.reduceAdd, Nat.reduceSub, Nat.reduceMul, Nat.reduceEqDiff, Nat.reduceBEq, Nat.reduceLT, Nat.reduceLeDiff, Nat.reducePow, Int.reduceToNat, Int.reduceLT, Int.reduceLE, Int.reduceGT, Int.reduceGE, Int.reduceEq, Int.reduceNeg, Int.reduceAdd, Int.reduceSub, ↓reduceIte, reduceCtorEq, bD, rf, c1, vD, zV]
  by_cases c2 : t / 86400000 ≥ 400
  · rw [if_pos (.inr c2)]
    simp only [Try.f26, GA, go_sem, Nat.reduceAdd, Nat.reduceSub, Nat.reduceMul, Nat.reduceEqDiff, Nat.reduceBEq, Nat.reduceLT, Nat.reduceLeDiff, Nat.reducePow, Int.reduceToNat, Int.reduceLT, Int.reduceLE, Int.reduceGT, Int.reduceGE, Int.reduceEq, Int.reduceNeg, Int.reduceAdd, Int.reduceSub, ↓reduceIte, reduceCtorEq, bD, rf, c1, c2, vD, zV]
  rw [if_neg (by simp only [c1, c2, or_self, not_false_iff])]
  generalize hP : pathR b.2.1 b.2.2.1 (t / 86400000) = P at *
  by_cases c3 : P.2.2 = 0
  case neg =>
    rw [if_pos c3]
    simp only [Try.f26, GA, go_sem, Nat.reduceAdd, Nat.reduceSub, Nat.reduceMul, Nat.reduceEqDiff, Nat.reduceBEq, Nat.reduceLT, Nat.reduceLeDiff, Nat.reducePow, Int.reduceToNat, Int.reduceLT, Int.reduceLE, Int.reduceGT, Int.reduceGE, Int.reduceEq, Int.reduceNeg, Int.reduceAdd, Int.reduceSub, ↓reduceIte, reduceCtorEq, bD, rf, c1, c2, rp, c3, vD, zV]
  rw [if_neg (by simp [c3])]
  have rs := step_run P.1 P.2.1
  by_cases c4 : (stepR P.1 P.2.1).2 = 0
  case neg =>
    rw [if_pos c4]
    simp only [Try.f26, GA, go_sem, Nat.reduceAdd, Nat.reduceSub, Nat.reduceMul, Nat.reduceEqDiff, Nat.reduceBEq, Nat.reduceLT, Nat.reduceLeDiff, Nat.reducePow, Int.reduceToNat, Int.reduceLT, Int.reduceLE, Int.reduceGT, Int.reduceGE, Int.reduceEq, Int.reduceNeg, Int.reduceAdd, Int.reduceSub, ↓reduceIte, reduceCtorEq, bD, rf, c1, c2, rp, c3, rs, c4, vD, zV]
  rw [if_neg (by simp [c4])]
  obtain ⟨m1, m2, m3⟩ := mids (t := t) c4
  have r1 := sMid_run _ _ _ m1
  have r2 := sMid_run _ _ _ m2
  have r3 := sMid_run _ _ _ m3
  have w1 : IntKind.i64.wrap (t / 86400000 * 86400000) = t / 86400000 * 86400000 := wi_in (by omega) (by omega)
  have w2 : IntKind.i64.wrap (t - t / 86400000 * 86400000) = t % 86400000 := by rw [wi_in (by omega) (by omega)]; omega
  simp only [Try.f26, GA, go_sem, Nat.reduceAdd, Nat.reduceSub, Nat.reduceMul, Nat.reduceEqDiff, Nat.reduceBEq, Nat.reduceLT, Nat.reduceLeDiff, Nat.reducePow, Int.reduceToNat, Int.reduceLT, Int.reduceLE, Int.reduceGT, Int.reduceGE, Int.reduceEq, Int.reduceNeg, Int.reduceAdd, Int.reduceSub, ↓reduceIte, reduceCtorEq, bD, rf, c1, c2, rp, c3, rs, c4, w1, w2, r1, r2, r3, vD]
theorem placeA_ok : SpecOk Try.prog 26 sPlace := specC_ok mixed GA_ok TA_ok fun x hp => ⟨0, 1, ePlaceA x.1 x.2 hp⟩
noncomputable def GB : Specs := [(23, sPath), (71, sMid)]
noncomputable def TB : Table := tableOf [(27, en27)]
theorem GB_ok : ∀ g s, Ev.look GB g = some s → SpecOk Try.prog g s := specs_cons pathd_ok (specs_cons midB_ok specs_nil)
theorem TB_ok : TableOk Try.prog (GB.map (·.1)) TB := (table_cons Try.func27 (by kernel_rfl) (by kernel_rfl) table_nil)
theorem ePlaceB (b : Bod) (t : Int) (ht : -9223372036854775808 ≤ t ∧ t < 9223372036854775808) : evTop Try.prog GB TB 0 1 27 [bD b, .int .i64 t] = some [vD (placeR b.2.1 b.2.2.1 t).1, .int .i64 (placeR b.2.1 b.2.2.1 t).2] := by
  unfold evTop
  simp only [List.map]
  rw [evF_s (fn := Try.f27) (msk := en27.ms) (hT := by rfl) (hb := by rfl)]
  have rp := path_run b (t / 86400000)
  have rq := path_run b (t / 86400000 + 1)
  obtain ⟨t1, t2⟩ := tdm t
  have hmt := Int.mul_tdiv_add_tmod t 86400000
  have hl := Int.lt_tmod_of_pos t (show (0 : Int) < 86400000 by decide)
  have hu := Int.tmod_lt_of_pos t (show (0 : Int) < 86400000 by decide)
  have w0 : IntKind.i64.wrap (t.tdiv 86400000) = t.tdiv 86400000 := wi_in (by omega) (by omega)
  unfold placeR
  by_cases hm : t.tmod 86400000 < 0
  · have e := t1 hm
    have w1 : IntKind.i64.wrap (t.tdiv 86400000 - 1) = t / 86400000 := by rw [wi_in (by omega) (by omega)]; exact e
    have w2 : IntKind.i64.wrap (t.tmod 86400000 + 86400000) = t % 86400000 := by rw [wi_in (by omega) (by omega)]; omega
    by_cases c1 : t / 86400000 < -400
    · rw [if_pos (.inl c1)]
      simp only [Try.f27, GB, go_sem, Nat.reduceAdd, Nat.reduceSub, Nat.reduceMul, Nat.reduceEqDiff, Nat.reduceBEq, Nat.reduceLT, Nat.reduceLeDiff, Nat.reducePow, Int.reduceToNat, Int.reduceLT, Int.reduceLE, Int.reduceGT, Int.reduceGE, Int.reduceEq, Int.reduceNeg, Int.reduceAdd, Int.reduceSub, ↓reduceIte, reduceCtorEq, bD, w0, hm, w1, w2, c1, vD, zV]
    by_cases c2 : t / 86400000 ≥ 400
    · have c2' : t / 86400000 > 399 := by omega
      rw [if_pos (.inr c2)]
      simp only [Try.f27, GB, go_sem, Nat.reduceAdd, Nat.reduceSub, Nat.reduceMul, Nat.reduceEqDiff, Nat.reduceBEq, Nat.reduceLT, Nat.reduceLeDiff, Nat.reducePow, Int.reduceToNat, Int.reduceLT, Int.reduceLE, Int.reduceGT, Int.reduceGE, Int.reduceEq, Int.reduceNeg, Int.reduceAdd, Int.reduceSub, ↓reduceIte, reduceCtorEq, bD, w0, hm, w1, w2, c1, c2', vD, zV]
    have c2' : ¬ t / 86400000 > 399 := by omega
    rw [if_neg (by simp only [c1, c2, or_self, not_false_iff])]
    have w3 : IntKind.i64.wrap (t / 86400000 + 1) = t / 86400000 + 1 := wi_in (by omega) (by omega)
    by_cases c3 : (pathR b.2.1 b.2.2.1 (t / 86400000)).2.2 = 0
    case neg =>
      rw [if_pos c3]
      simp only [Try.f27, GB, go_sem, Nat.reduceAdd, Nat.reduceSub, Nat.reduceMul, Nat.reduceEqDiff, Nat.reduceBEq, Nat.reduceLT, Nat.reduceLeDiff, Nat.reducePow, Int.reduceToNat, Int.reduceLT, Int.reduceLE, Int.reduceGT, Int.reduceGE, Int.reduceEq, Int.reduceNeg, Int.reduceAdd, Int.reduceSub, ↓reduceIte, reduceCtorEq, bD, w0, hm, w1, w2, c1, c2', rp, c3, vD, zV]
    rw [if_neg (by simp [c3])]
    obtain ⟨n1, n2⟩ := path_next (by omega) (by omega) c3
    by_cases c4 : (stepR (pathR b.2.1 b.2.2.1 (t / 86400000)).1 (pathR b.2.1 b.2.2.1 (t / 86400000)).2.1).2 = 0
    case neg =>
      rw [if_pos c4]
      simp only [Try.f27, GB, go_sem, Nat.reduceAdd, Nat.reduceSub, Nat.reduceMul, Nat.reduceEqDiff, Nat.reduceBEq, Nat.reduceLT, Nat.reduceLeDiff, Nat.reducePow, Int.reduceToNat, Int.reduceLT, Int.reduceLE, Int.reduceGT, Int.reduceGE, Int.reduceEq, Int.reduceNeg, Int.reduceAdd, Int.reduceSub, ↓reduceIte, reduceCtorEq, bD, w0, hm, w1, w2, c1, c2', rp, c3, w3, rq, n1, c4, vD, zV]
    rw [if_neg (by simp [c4])]
    obtain ⟨m1, m2, m3⟩ := mids (t := t) c4
    have r1 := sMid_run _ _ _ m1
    have r2 := sMid_run _ _ _ m2
    have r3 := sMid_run _ _ _ m3
    have n2 := n2 c4
    simp only [Try.f27, GB, go_sem, Nat.reduceAdd, Nat.reduceSub, Nat.reduceMul, Nat.reduceEqDiff, Nat.reduceBEq, Nat.reduceLT, Nat.reduceLeDiff, Nat.reducePow, Int.reduceToNat, Int.reduceLT, Int.reduceLE, Int.reduceGT, Int.reduceGE, Int.reduceEq, Int.reduceNeg, Int.reduceAdd, Int.reduceSub, ↓reduceIte, reduceCtorEq, bD, w0, hm, w1, w2, c1, c2', rp, c3, w3, rq, n1, n2, c4, r1, r2, r3, vD]
  · have e := t2 hm
    have w2 : t.tmod 86400000 = t % 86400000 := by omega
    have hm' : ¬ t % 86400000 < 0 := by omega
    have w0' : IntKind.i64.wrap (t / 86400000) = t / 86400000 := wi_in (by omega) (by omega)
    by_cases c1 : t / 86400000 < -400
    · rw [if_pos (.inl c1)]
      simp only [Try.f27, GB, go_sem, Nat.reduceAdd, Nat.reduceSub, Nat.reduceMul, Nat.reduceEqDiff, Nat.reduceBEq, Nat.reduceLT, Nat.reduceLeDiff, Nat.reducePow, Int.reduceToNat, Int.reduceLT, Int.reduceLE, Int.reduceGT, Int.reduceGE, Int.reduceEq, Int.reduceNeg, Int.reduceAdd, Int.reduceSub, ↓reduceIte, reduceCtorEq, bD, e, w0', w2, hm', c1, vD, zV]
    by_cases c2 : t / 86400000 ≥ 400
    · have c2' : t / 86400000 > 399 := by omega
      rw [if_pos (.inr c2)]
      simp only [Try.f27, GB, go_sem, Nat.reduceAdd, Nat.reduceSub, Nat.reduceMul, Nat.reduceEqDiff, Nat.reduceBEq, Nat.reduceLT, Nat.reduceLeDiff, Nat.reducePow, Int.reduceToNat, Int.reduceLT, Int.reduceLE, Int.reduceGT, Int.reduceGE, Int.reduceEq, Int.reduceNeg, Int.reduceAdd, Int.reduceSub, ↓reduceIte, reduceCtorEq, bD, e, w0', w2, hm', c1, c2', vD, zV]
    have c2' : ¬ t / 86400000 > 399 := by omega
    rw [if_neg (by simp only [c1, c2, or_self, not_false_iff])]
    have w3 : IntKind.i64.wrap (t / 86400000 + 1) = t / 86400000 + 1 := wi_in (by omega) (by omega)
    by_cases c3 : (pathR b.2.1 b.2.2.1 (t / 86400000)).2.2 = 0
    case neg =>
      rw [if_pos c3]
      simp only [Try.f27, GB, go_sem, Nat.reduceAdd, Nat.reduceSub, Nat.reduceMul, Nat.reduceEqDiff, Nat.reduceBEq, Nat.reduceLT, Nat.reduceLeDiff, Nat.reducePow, Int.reduceToNat, Int.reduceLT, Int.reduceLE, Int.reduceGT, Int.reduceGE, Int.reduceEq, Int.reduceNeg, Int.reduceAdd, Int.reduceSub, ↓reduceIte, reduceCtorEq, bD, e, w0', w2, hm', c1, c2', rp, c3, vD, zV]
    rw [if_neg (by simp [c3])]
    obtain ⟨n1, n2⟩ := path_next (by omega) (by omega) c3
    by_cases c4 : (stepR (pathR b.2.1 b.2.2.1 (t / 86400000)).1 (pathR b.2.1 b.2.2.1 (t / 86400000)).2.1).2 = 0
    case neg =>
      rw [if_pos c4]
      simp only [Try.f27, GB, go_sem, Nat.reduceAdd, Nat.reduceSub, Nat.reduceMul, Nat.reduceEqDiff, Nat.reduceBEq, Nat.reduceLT, Nat.reduceLeDiff, Nat.reducePow, Int.reduceToNat, Int.reduceLT, Int.reduceLE, Int.reduceGT, Int.reduceGE, Int.reduceEq, Int.reduceNeg, Int.reduceAdd, Int.reduceSub, ↓reduceIte, reduceCtorEq, bD, e, w0', w2, hm', c1, c2', rp, c3, w3, rq, n1, c4, vD, zV]
    rw [if_neg (by simp [c4])]
    obtain ⟨m1, m2, m3⟩ := mids (t := t) c4
    have r1 := sMid_run _ _ _ m1
    have r2 := sMid_run _ _ _ m2
    have r3 := sMid_run _ _ _ m3
    have n2 := n2 c4
    simp only [Try.f27, GB, go_sem, Nat.reduceAdd, Nat.reduceSub, Nat.reduceMul, Nat.reduceEqDiff, Nat.reduceBEq, Nat.reduceLT, Nat.reduceLeDiff, Nat.reducePow, Int.reduceToNat, Int.reduceLT, Int.reduceLE, Int.reduceGT, Int.reduceGE, Int.reduceEq, Int.reduceNeg, Int.reduceAdd, Int.reduceSub, ↓reduceIte, reduceCtorEq, bD, e, w0', w2, hm', c1, c2', rp, c3, w3, rq, n1, n2, c4, r1, r2, r3, vD]
theorem placeB_ok : SpecOk Try.prog 27 sPlace := specC_ok mixed GB_ok TB_ok fun x hp => ⟨0, 1, ePlaceB x.1 x.2 hp⟩
#print axioms placeA_ok
#print axioms placeB_ok
end Go.Proofs.YtmhjmjodchbhlaaR.PlacePlace
end
section
set_option linter.unusedVariables false
set_option linter.unusedSimpArgs false
set_option maxRecDepth 100000
namespace Go.Proofs.YtmhjmjodchbhlaaR.Idx72Dir
open Go.Ev Go.Proofs.YtmhjmjodchbhlaaR.FxDir
attribute [local go_sem] Ev.putR_s Ev.putR_0 Ev.thenO_s Ev.thenO_0 Ev.seqR_n Ev.seqR_e Ev.seqR_r Ev.seqR_0 Ev.blkR_e Ev.blkR_n Ev.blkR_r Ev.blkR_0 Ev.normR_s Ev.normR_0 Ev.outR_r Ev.outR_n Ev.outR_0 Ev.retS_s Ev.retS_0 Ev.pureO_s Ev.pureO_0 Ev.topR_0 Ev.topR_t Ev.topR_t0 Ev.oneL_0 Ev.oneL_s Ev.topR_d Ev.topR_nils Ev.topR_agg Ev.topR_rs Ev.evOp_move Ev.evOp_assign Ev.evOp_pick Ev.evOp_alloc Ev.evOp_box Ev.evOp_build Ev.evOp_buildSlice Ev.evOp_load Ev.evOp_store Ev.evOp_makeMap Ev.evOp_lookup Ev.evOp_mapUpdate Ev.evOp_insert Ev.evOp_nilCheck Ev.evOp_binOp Ev.evOp_unOp Ev.evOp_convert Ev.evOp_makeFunc Ev.evOp_makeSlice Ev.evOp_slice Ev.evOp_fieldAddr Ev.evOp_field Ev.evOp_indexAddr Ev.evOp_index Ev.evOp_extract Ev.evOp_call Ev.evOp_append Ev.evOp_len Ev.evOp_min Ev.evOp_max Ev.condR_b Ev.condR_t Ev.evOps_nil Ev.evOps_plain Ev.evOps_guard Ev.runG_eq Ev.skipG_eq Ev.condL_tt Ev.condL_ff Ev.condL_tf Ev.condL_ft Ev.condL_u Ev.condC_t Ev.condC_f Ev.evC_skip Ev.evC_ret Ev.evC_exit Ev.evC_label Ev.evC_region Ev.evC_draw Ev.evC_seq Ev.evC_cond Ev.evC_block Ev.evC_loop Ev.fin_d Ev.fin_nils Ev.fin_agg_ Ev.fin_rs Ev.finS_s Ev.mapO_fin Ev.upd_upd Ev.argv_d Ev.argv_nils Ev.argv_agg Ev.argv_rs Ev.argv_p Ev.appendTo_nils Ev.appendTo_rs Ev.consV_d Ev.consV_agg Ev.consV_p Ev.consV_rs Ev.consV_nils Ev.consV_fn Ev.consV_und Ev.consV_jk Ev.consV_grown Ev.topR_grown Ev.len_grown Ev.consV_mp Ev.sameK_i Ev.sameK_s Ev.mget_0 Ev.mget_hit Ev.mget_miss Ev.mput_0 Ev.mput_hit Ev.mput_miss Ev.apartAll Ev.apartL Ev.apartV Ev.freeAll Ev.sel Ev.keyOfV Ev.evLookup Ev.evPut Ev.hintOk Ev.keyOk Ev.consP Ev.lookV Ev.guardV Ev.dstAt Ev.evPure Ev.evStore Ev.evPureB Ev.evBin Ev.evBinO Ev.evNil Ev.isNilC Ev.evUn Ev.evConv Ev.evSlice Ev.optI Ev.lenV Ev.elemT Ev.foldI Ev.capsOk Ev.noTup Ev.nth Ev.setN Ev.pad Ev.V.get Ev.V.put Ev.putD Ev.hasT Ev.newBlk Ev.upd Ev.keq Ev.empty Ev.evCall Ev.V.args Ev.argP Ev.callOf Ev.evNilP Ev.isNilP Ev.look Ev.V.view.views Ev.V.view Ev.V.toD Ev.V.toD.V.toDs Ev.V.pure.pures Ev.V.pure Ev.D.flat.flats Ev.D.flat Ev.mkAgg Ev.allD Ev.aggParts Ev.setParts Ev.setElems Ev.getPath Ev.setPath Ev.subL Ev.eqD Ev.eqD.eqDs Ev.and2 Ev.strCut Ev.evalT Ev.constT Ev.evArgs Ev.mask Ev.maskOf Ev.tableOf Ev.compT Ev.resV Ev.retV Ev.mapO Ev.elemsOf Int.cast_ofNat_Int IntWalk.i64_in IntWalk.u64_in IntWalk.u8_in beq_self_eq_true Bool.true_beq Bool.false_beq Bool.and_true Bool.true_and Bool.false_and Bool.and_false Bool.and_self Bool.not_true Bool.not_false Bool.not_eq_true cond_true cond_false if_true if_false and_true true_and and_self decide_true decide_false Bool.or_true Bool.true_or Bool.or_false Bool.false_or List.isEmpty List.isEmpty_nil List.size_toArray List.map List.length_map List.length_cons List.length_nil Option.map Option.bind Option.getD Option.isSome List.replicate Bool.false_eq_true implies_true forall_const Array.toList Array.isEmpty List.append List.nil_append List.cons_append List.drop_zero List.take_length List.take_succ_cons List.take_zero List.take_nil List.getElem?_map List.getElem?_cons_zero List.getElem?_cons_succ List.getElem?_nil List.append_nil
attribute [local go_sem] FxDir.tk2 FxDir.ik2 FxDir.ek2 FxDir.zv2 FxDir.tk3 FxDir.ik3 FxDir.zv3 FxDir.tk4 FxDir.ub4 FxDir.zv4 FxDir.tk23 FxDir.ct23 FxDir.ek23 FxDir.zv23 FxDir.tk27 FxDir.ik27 FxDir.zv27 FxDir.tk37 FxDir.ik37 FxDir.zv37 FxDir.by37 FxDir.so37 FxDir.tk39 FxDir.ct39 FxDir.zv39 FxDir.by39 FxDir.so39 FxDir.tk43 FxDir.zv43 FxDir.tk44 FxDir.zv44 FxDir.tk45 FxDir.zv45 FxDir.tk47 FxDir.ct47 FxDir.zv47 FxDir.tk48 FxDir.ik48 FxDir.zv48 FxDir.tk76 FxDir.ct76 FxDir.zv76 FxDir.by76 FxDir.so76 FxDir.tk77 FxDir.zv77 FxDir.tk79 FxDir.ct79 FxDir.zv79 FxDir.by79 FxDir.so79 FxDir.tk102 FxDir.zv102 FxDir.tk108 FxDir.zv108 FxDir.tk110 FxDir.ek110 FxDir.zv110 FxDir.tk111 FxDir.ek111 FxDir.zv111 FxDir.tk112 FxDir.zv112 FxDir.tk114 FxDir.ct114 FxDir.zv114 FxDir.by114 FxDir.so114 FxDir.tk116 FxDir.zv116 FxDir.tk118 FxDir.zv118 FxDir.mk9_1000000 FxDir.mk28_1000000 FxDir.mk29_0 FxDir.mk29_1000001 FxDir.mk29_1000002 FxDir.mk29_1000003 FxDir.mk29_1000000 FxDir.mk30_1000000 FxDir.mk31_1000000 FxDir.mk72_0 FxDir.mk72_1000001 FxDir.mk72_1000002 FxDir.mk72_1000000 FxDir.mk73_1000000 FxDir.mk74_0 FxDir.mk74_1000001 FxDir.mk74_1000002 FxDir.mk74_1000000 FxDir.mk75_1000000 FxDir.mk76_0 FxDir.mk76_1000001 FxDir.mk76_1000002 FxDir.mk76_1000000 FxDir.mk77_1000000 FxDir.mk78_0 FxDir.mk78_1000001 FxDir.mk78_1000002 FxDir.mk78_1000000
/-- The place of the first that p takes, from i on. -/
def idx {α : Type} (p : α → Bool) : List α → Int → Int
  | [], _ => -1
  | x :: r, i => if p x = true then i else idx p r (i + 1)
theorem idx_none {α : Type} (p : α → Bool) : ∀ (l : List α) (i : Int), l.any p = false → idx p l i = -1
  | [], _, _ => rfl
  | x :: r, i, h => by
    simp only [List.any_cons, Bool.or_eq_false_iff] at h
    rw [idx, if_neg (by simp [h.1])]
    exact idx_none p r (i + 1) h.2
theorem idx_any {α : Type} (p : α → Bool) : ∀ (l : List α) (i : Int), 0 ≤ i → decide (idx p l i ≥ 0) = l.any p
  | [], i, _ => rfl
  | x :: r, i, h => by
    simp only [idx, List.any_cons]
    by_cases hp : p x = true
    · simp [hp, h]
    · simp only [hp, Bool.false_eq_true, if_false, Bool.false_or]; exact idx_any p r (i + 1) (by omega)
/-- What the closure answers at x, if its captured variable says q. -/
def Takes {α : Type} (s : Ev.Spec) (en : α → D) (q : D) (p : α → Bool) (l : List α) : Prop := ∀ x ∈ l, s.run [en x, .ptr q] = some [.bool (p x)]
def hd {α : Type} (en : α → D) (k : Key) (ver : Nat) (l : List α) (i : Nat) : List V := hd72_0 (.d (.sl 79 (l.map en))) (.fn 73 [.p k ver 0 []]) (.d (.int .i64 l.length)) (.d (.int .i64 i))
def R {α : Type} (p : α → Bool) (l : List α) (st : Store) (i : Nat) : Out := if (l.drop i).any p = true then some (.ret, hr72 (.d (.int .i64 (idx p (l.drop i) i))), st) else some (.exit 0, hx72_0, st)
theorem loop {α : Type} (en : α → D) (G : Specs) (s : Ev.Spec) (hG : Ev.look G 73 = some s) (L lv : Nat) (call : Caller) (p : α → Bool) (q : D) (k : Key) (ver : Nat) (l : List α) (st : Store) (hs : Takes s en q p l) (hty : ∀ x, hasT Try.prog 79 (.d (en x)) = true) (h1 : (st k).ver = ver) (h2 : (st k).live = true) (h3 : (st k).vs = [.d q]) (hl : l.length ≤ 4611686018427387904) :
    ∀ (n i : Nat) (env : List V), i ≤ l.length → l.length - i < n → mask (maskOf en72.ms 0) env = hd en k ver l i →
      iter (evC Try.prog G call L en72.ms lv 0 lb72_0) (maskOf en72.ms 0) n env st = R p l st i := by
  refine iter_wf _ _ (fun i => i ≤ l.length) (hd en k ver l) (fun _ => st) (R p l st) (fun i => l.length - i) ?_
  intro i hi kk hk
  by_cases hil : i < l.length
  case neg =>
    obtain rfl : i = l.length := by omega
    have hlt : ¬ (l.length : Int) < l.length := by omega
    simp only [lb72_0, loopN, loops, hd, hd72_0, R, hr72, hx72_0, Try.f72, go_sem, Nat.reduceAdd, Nat.reduceSub, Nat.reduceMul, Nat.reduceEqDiff, Nat.reduceBEq, Nat.reduceLT, Nat.reduceLeDiff, Nat.reducePow, Int.reduceToNat, Int.reduceLT, Int.reduceLE, Int.reduceGT, Int.reduceGE, Int.reduceEq, Int.reduceNeg, Int.reduceAdd, Int.reduceSub, ↓reduceIte, reduceCtorEq, hlt, List.drop_length, List.any_nil]
  have hlt : (i : Int) < l.length := by omega
  have hx : l[i]? = some l[i] := by simp [hil]
  have hdr : l.drop i = l[i] :: l.drop (i + 1) := List.drop_eq_getElem_cons hil
  have hw : IntKind.i64.wrap ((i : Int) + 1) = ((i + 1 : Nat) : Int) := by rw [IntWalk.i64_in _ (by omega)]; rfl
  have h0 : (0 : Int) ≤ (i : Int) := by omega
  have ht : ((i : Int)).toNat = i := by omega
  have hr := hs l[i] (List.getElem_mem _)
  by_cases hp : p l[i] = true
  · have hR : R p l st i = some (.ret, hr72 (.d (.int .i64 i)), st) := by
      rw [R, hdr, List.any_cons, hp, Bool.true_or, if_pos rfl, idx, if_pos hp]
    rw [hR]
    simp only [lb72_0, loopN, loops, hd, hd72_0, hr72, Try.f72, go_sem, Nat.reduceAdd, Nat.reduceSub, Nat.reduceMul, Nat.reduceEqDiff, Nat.reduceBEq, Nat.reduceLT, Nat.reduceLeDiff, Nat.reducePow, Int.reduceToNat, Int.reduceLT, Int.reduceLE, Int.reduceGT, Int.reduceGE, Int.reduceEq, Int.reduceNeg, Int.reduceAdd, Int.reduceSub, ↓reduceIte, reduceCtorEq, hlt, hx, h0, ht, hG, h1, h2, h3, hr, hp, ↓hty]
  · have hp' : p l[i] = false := by simpa using hp
    have hR : R p l st i = R p l st (i + 1) := by
      rw [R, hdr, List.any_cons, hp', Bool.false_or, idx, if_neg hp]; rfl
    rw [hR]
    simp only [lb72_0, loopN, loops, hd, hd72_0, Try.f72, go_sem, Nat.reduceAdd, Nat.reduceSub, Nat.reduceMul, Nat.reduceEqDiff, Nat.reduceBEq, Nat.reduceLT, Nat.reduceLeDiff, Nat.reducePow, Int.reduceToNat, Int.reduceLT, Int.reduceLE, Int.reduceGT, Int.reduceGE, Int.reduceEq, Int.reduceNeg, Int.reduceAdd, Int.reduceSub, ↓reduceIte, reduceCtorEq, hlt, hx, h0, ht, hG, h1, h2, h3, hr, hp', hw, ↓hty]
    exact hk (i + 1) _ (by omega) (by omega) (by simp only [hd, hd72_0, go_sem, Nat.reduceAdd, Nat.reduceSub, Nat.reduceMul, Nat.reduceEqDiff, Nat.reduceBEq, Nat.reduceLT, Nat.reduceLeDiff, Nat.reducePow, Int.reduceToNat, Int.reduceLT, Int.reduceLE, Int.reduceGT, Int.reduceGE, Int.reduceEq, Int.reduceNeg, Int.reduceAdd, Int.reduceSub, ↓reduceIte, reduceCtorEq, hw])
theorem ev {α : Type} (en : α → D) (G : Specs) (T : Table) (hT : T 72 = some en72) (s : Ev.Spec) (hG : Ev.look G 73 = some s) (c lv : Nat) (p : α → Bool) (q : D) (k : Key) (ver : Nat) (l : List α) (st : Store) (hs : Takes s en q p l) (hty : ∀ x, hasT Try.prog 79 (.d (en x)) = true) (h1 : (st k).ver = ver) (h2 : (st k).live = true) (h3 : (st k).vs = [.d q]) (hl : l.length ≤ 4611686018427387904) (L : Nat) (hL : l.length < L) :
    evF Try.prog G T L (c + 1) 72 [.d (.sl 79 (l.map en)), .fn 73 [.p k ver 0 []]] lv st = some (.d (.int .i64 (idx p l 0)), st) := by
  rw [evF_s (hT := hT) (hb := rfl)]
  simp only [Try.f72, go_sem, Nat.reduceAdd, Nat.reduceSub, Nat.reduceMul, Nat.reduceEqDiff, Nat.reduceBEq, Nat.reduceLT, Nat.reduceLeDiff, Nat.reducePow, Int.reduceToNat, Int.reduceLT, Int.reduceLE, Int.reduceGT, Int.reduceGE, Int.reduceEq, Int.reduceNeg, Int.reduceAdd, Int.reduceSub, ↓reduceIte, reduceCtorEq]
  conv in iter _ _ _ _ _ => change iter (evC _ _ _ _ en72.ms _ _ lb72_0) (maskOf en72.ms 0) _ _ _
  rw [loop en G s hG L _ _ p q k ver l st hs hty h1 h2 h3 hl L 0 _ (by omega) (by omega) (by simp only [hd, hd72_0, go_sem, Nat.reduceAdd, Nat.reduceSub, Nat.reduceMul, Nat.reduceEqDiff, Nat.reduceBEq, Nat.reduceLT, Nat.reduceLeDiff, Nat.reducePow, Int.reduceToNat, Int.reduceLT, Int.reduceLE, Int.reduceGT, Int.reduceGE, Int.reduceEq, Int.reduceNeg, Int.reduceAdd, Int.reduceSub, ↓reduceIte, reduceCtorEq])]
  rw [R, List.drop_zero]
  by_cases ha : l.any p = true
  · rw [if_pos ha]
    simp only [hr72, go_sem, Nat.reduceAdd, Nat.reduceSub, Nat.reduceMul, Nat.reduceEqDiff, Nat.reduceBEq, Nat.reduceLT, Nat.reduceLeDiff, Nat.reducePow, Int.reduceToNat, Int.reduceLT, Int.reduceLE, Int.reduceGT, Int.reduceGE, Int.reduceEq, Int.reduceNeg, Int.reduceAdd, Int.reduceSub, ↓reduceIte, reduceCtorEq]
  · rw [if_neg ha]
    have hi : idx p l 0 = -1 := idx_none _ _ _ (by simpa using ha)
    simp only [hx72_0, go_sem, Nat.reduceAdd, Nat.reduceSub, Nat.reduceMul, Nat.reduceEqDiff, Nat.reduceBEq, Nat.reduceLT, Nat.reduceLeDiff, Nat.reducePow, Int.reduceToNat, Int.reduceLT, Int.reduceLE, Int.reduceGT, Int.reduceGE, Int.reduceEq, Int.reduceNeg, Int.reduceAdd, Int.reduceSub, ↓reduceIte, reduceCtorEq, hi]
end Go.Proofs.YtmhjmjodchbhlaaR.Idx72Dir
end
section
set_option linter.unusedVariables false
set_option linter.unusedSimpArgs false
set_option maxRecDepth 100000
namespace Go.Proofs.YtmhjmjodchbhlaaR.Idx74Dir
open Go.Ev Go.Proofs.YtmhjmjodchbhlaaR.FxDir
attribute [local go_sem] Ev.putR_s Ev.putR_0 Ev.thenO_s Ev.thenO_0 Ev.seqR_n Ev.seqR_e Ev.seqR_r Ev.seqR_0 Ev.blkR_e Ev.blkR_n Ev.blkR_r Ev.blkR_0 Ev.normR_s Ev.normR_0 Ev.outR_r Ev.outR_n Ev.outR_0 Ev.retS_s Ev.retS_0 Ev.pureO_s Ev.pureO_0 Ev.topR_0 Ev.topR_t Ev.topR_t0 Ev.oneL_0 Ev.oneL_s Ev.topR_d Ev.topR_nils Ev.topR_agg Ev.topR_rs Ev.evOp_move Ev.evOp_assign Ev.evOp_pick Ev.evOp_alloc Ev.evOp_box Ev.evOp_build Ev.evOp_buildSlice Ev.evOp_load Ev.evOp_store Ev.evOp_makeMap Ev.evOp_lookup Ev.evOp_mapUpdate Ev.evOp_insert Ev.evOp_nilCheck Ev.evOp_binOp Ev.evOp_unOp Ev.evOp_convert Ev.evOp_makeFunc Ev.evOp_makeSlice Ev.evOp_slice Ev.evOp_fieldAddr Ev.evOp_field Ev.evOp_indexAddr Ev.evOp_index Ev.evOp_extract Ev.evOp_call Ev.evOp_append Ev.evOp_len Ev.evOp_min Ev.evOp_max Ev.condR_b Ev.condR_t Ev.evOps_nil Ev.evOps_plain Ev.evOps_guard Ev.runG_eq Ev.skipG_eq Ev.condL_tt Ev.condL_ff Ev.condL_tf Ev.condL_ft Ev.condL_u Ev.condC_t Ev.condC_f Ev.evC_skip Ev.evC_ret Ev.evC_exit Ev.evC_label Ev.evC_region Ev.evC_draw Ev.evC_seq Ev.evC_cond Ev.evC_block Ev.evC_loop Ev.fin_d Ev.fin_nils Ev.fin_agg_ Ev.fin_rs Ev.finS_s Ev.mapO_fin Ev.upd_upd Ev.argv_d Ev.argv_nils Ev.argv_agg Ev.argv_rs Ev.argv_p Ev.appendTo_nils Ev.appendTo_rs Ev.consV_d Ev.consV_agg Ev.consV_p Ev.consV_rs Ev.consV_nils Ev.consV_fn Ev.consV_und Ev.consV_jk Ev.consV_grown Ev.topR_grown Ev.len_grown Ev.consV_mp Ev.sameK_i Ev.sameK_s Ev.mget_0 Ev.mget_hit Ev.mget_miss Ev.mput_0 Ev.mput_hit Ev.mput_miss Ev.apartAll Ev.apartL Ev.apartV Ev.freeAll Ev.sel Ev.keyOfV Ev.evLookup Ev.evPut Ev.hintOk Ev.keyOk Ev.consP Ev.lookV Ev.guardV Ev.dstAt Ev.evPure Ev.evStore Ev.evPureB Ev.evBin Ev.evBinO Ev.evNil Ev.isNilC Ev.evUn Ev.evConv Ev.evSlice Ev.optI Ev.lenV Ev.elemT Ev.foldI Ev.capsOk Ev.noTup Ev.nth Ev.setN Ev.pad Ev.V.get Ev.V.put Ev.putD Ev.hasT Ev.newBlk Ev.upd Ev.keq Ev.empty Ev.evCall Ev.V.args Ev.argP Ev.callOf Ev.evNilP Ev.isNilP Ev.look Ev.V.view.views Ev.V.view Ev.V.toD Ev.V.toD.V.toDs Ev.V.pure.pures Ev.V.pure Ev.D.flat.flats Ev.D.flat Ev.mkAgg Ev.allD Ev.aggParts Ev.setParts Ev.setElems Ev.getPath Ev.setPath Ev.subL Ev.eqD Ev.eqD.eqDs Ev.and2 Ev.strCut Ev.evalT Ev.constT Ev.evArgs Ev.mask Ev.maskOf Ev.tableOf Ev.compT Ev.resV Ev.retV Ev.mapO Ev.elemsOf Int.cast_ofNat_Int IntWalk.i64_in IntWalk.u64_in IntWalk.u8_in beq_self_eq_true Bool.true_beq Bool.false_beq Bool.and_true Bool.true_and Bool.false_and Bool.and_false Bool.and_self Bool.not_true Bool.not_false Bool.not_eq_true cond_true cond_false if_true if_false and_true true_and and_self decide_true decide_false Bool.or_true Bool.true_or Bool.or_false Bool.false_or List.isEmpty List.isEmpty_nil List.size_toArray List.map List.length_map List.length_cons List.length_nil Option.map Option.bind Option.getD Option.isSome List.replicate Bool.false_eq_true implies_true forall_const Array.toList Array.isEmpty List.append List.nil_append List.cons_append List.drop_zero List.take_length List.take_succ_cons List.take_zero List.take_nil List.getElem?_map List.getElem?_cons_zero List.getElem?_cons_succ List.getElem?_nil List.append_nil
attribute [local go_sem] FxDir.tk2 FxDir.ik2 FxDir.ek2 FxDir.zv2 FxDir.tk3 FxDir.ik3 FxDir.zv3 FxDir.tk4 FxDir.ub4 FxDir.zv4 FxDir.tk23 FxDir.ct23 FxDir.ek23 FxDir.zv23 FxDir.tk27 FxDir.ik27 FxDir.zv27 FxDir.tk37 FxDir.ik37 FxDir.zv37 FxDir.by37 FxDir.so37 FxDir.tk39 FxDir.ct39 FxDir.zv39 FxDir.by39 FxDir.so39 FxDir.tk43 FxDir.zv43 FxDir.tk44 FxDir.zv44 FxDir.tk45 FxDir.zv45 FxDir.tk47 FxDir.ct47 FxDir.zv47 FxDir.tk48 FxDir.ik48 FxDir.zv48 FxDir.tk76 FxDir.ct76 FxDir.zv76 FxDir.by76 FxDir.so76 FxDir.tk77 FxDir.zv77 FxDir.tk79 FxDir.ct79 FxDir.zv79 FxDir.by79 FxDir.so79 FxDir.tk102 FxDir.zv102 FxDir.tk108 FxDir.zv108 FxDir.tk110 FxDir.ek110 FxDir.zv110 FxDir.tk111 FxDir.ek111 FxDir.zv111 FxDir.tk112 FxDir.zv112 FxDir.tk114 FxDir.ct114 FxDir.zv114 FxDir.by114 FxDir.so114 FxDir.tk116 FxDir.zv116 FxDir.tk118 FxDir.zv118 FxDir.mk9_1000000 FxDir.mk28_1000000 FxDir.mk29_0 FxDir.mk29_1000001 FxDir.mk29_1000002 FxDir.mk29_1000003 FxDir.mk29_1000000 FxDir.mk30_1000000 FxDir.mk31_1000000 FxDir.mk72_0 FxDir.mk72_1000001 FxDir.mk72_1000002 FxDir.mk72_1000000 FxDir.mk73_1000000 FxDir.mk74_0 FxDir.mk74_1000001 FxDir.mk74_1000002 FxDir.mk74_1000000 FxDir.mk75_1000000 FxDir.mk76_0 FxDir.mk76_1000001 FxDir.mk76_1000002 FxDir.mk76_1000000 FxDir.mk77_1000000 FxDir.mk78_0 FxDir.mk78_1000001 FxDir.mk78_1000002 FxDir.mk78_1000000
/-- The place of the first that p takes, from i on. -/
def idx {α : Type} (p : α → Bool) : List α → Int → Int
  | [], _ => -1
  | x :: r, i => if p x = true then i else idx p r (i + 1)
theorem idx_none {α : Type} (p : α → Bool) : ∀ (l : List α) (i : Int), l.any p = false → idx p l i = -1
  | [], _, _ => rfl
  | x :: r, i, h => by
    simp only [List.any_cons, Bool.or_eq_false_iff] at h
    rw [idx, if_neg (by simp [h.1])]
    exact idx_none p r (i + 1) h.2
theorem idx_any {α : Type} (p : α → Bool) : ∀ (l : List α) (i : Int), 0 ≤ i → decide (idx p l i ≥ 0) = l.any p
  | [], i, _ => rfl
  | x :: r, i, h => by
    simp only [idx, List.any_cons]
    by_cases hp : p x = true
    · simp [hp, h]
    · simp only [hp, Bool.false_eq_true, if_false, Bool.false_or]; exact idx_any p r (i + 1) (by omega)
/-- What the closure answers at x, if its captured variable says q. -/
def Takes {α : Type} (s : Ev.Spec) (en : α → D) (q : D) (p : α → Bool) (l : List α) : Prop := ∀ x ∈ l, s.run [en x, .ptr q] = some [.bool (p x)]
def hd {α : Type} (en : α → D) (k : Key) (ver : Nat) (l : List α) (i : Nat) : List V := hd74_0 (.d (.sl 76 (l.map en))) (.fn 75 [.p k ver 0 []]) (.d (.int .i64 l.length)) (.d (.int .i64 i))
def R {α : Type} (p : α → Bool) (l : List α) (st : Store) (i : Nat) : Out := if (l.drop i).any p = true then some (.ret, hr74 (.d (.int .i64 (idx p (l.drop i) i))), st) else some (.exit 0, hx74_0, st)
theorem loop {α : Type} (en : α → D) (G : Specs) (s : Ev.Spec) (hG : Ev.look G 75 = some s) (L lv : Nat) (call : Caller) (p : α → Bool) (q : D) (k : Key) (ver : Nat) (l : List α) (st : Store) (hs : Takes s en q p l) (hty : ∀ x, hasT Try.prog 76 (.d (en x)) = true) (h1 : (st k).ver = ver) (h2 : (st k).live = true) (h3 : (st k).vs = [.d q]) (hl : l.length ≤ 4611686018427387904) :
    ∀ (n i : Nat) (env : List V), i ≤ l.length → l.length - i < n → mask (maskOf en74.ms 0) env = hd en k ver l i →
      iter (evC Try.prog G call L en74.ms lv 0 lb74_0) (maskOf en74.ms 0) n env st = R p l st i := by
  refine iter_wf _ _ (fun i => i ≤ l.length) (hd en k ver l) (fun _ => st) (R p l st) (fun i => l.length - i) ?_
  intro i hi kk hk
  by_cases hil : i < l.length
  case neg =>
    obtain rfl : i = l.length := by omega
    have hlt : ¬ (l.length : Int) < l.length := by omega
    simp only [lb74_0, loopN, loops, hd, hd74_0, R, hr74, hx74_0, Try.f74, go_sem, Nat.reduceAdd, Nat.reduceSub, Nat.reduceMul, Nat.reduceEqDiff, Nat.reduceBEq, Nat.reduceLT, Nat.reduceLeDiff, Nat.reducePow, Int.reduceToNat, Int.reduceLT, Int.reduceLE, Int.reduceGT, Int.reduceGE, Int.reduceEq, Int.reduceNeg, Int.reduceAdd, Int.reduceSub, ↓reduceIte, reduceCtorEq, hlt, List.drop_length, List.any_nil]
  have hlt : (i : Int) < l.length := by omega
  have hx : l[i]? = some l[i] := by simp [hil]
  have hdr : l.drop i = l[i] :: l.drop (i + 1) := List.drop_eq_getElem_cons hil
  have hw : IntKind.i64.wrap ((i : Int) + 1) = ((i + 1 : Nat) : Int) := by rw [IntWalk.i64_in _ (by omega)]; rfl
  have h0 : (0 : Int) ≤ (i : Int) := by omega
  have ht : ((i : Int)).toNat = i := by omega
  have hr := hs l[i] (List.getElem_mem _)
  by_cases hp : p l[i] = true
  · have hR : R p l st i = some (.ret, hr74 (.d (.int .i64 i)), st) := by
      rw [R, hdr, List.any_cons, hp, Bool.true_or, if_pos rfl, idx, if_pos hp]
    rw [hR]
    simp only [lb74_0, loopN, loops, hd, hd74_0, hr74, Try.f74, go_sem, Nat.reduceAdd, Nat.reduceSub, Nat.reduceMul, Nat.reduceEqDiff, Nat.reduceBEq, Nat.reduceLT, Nat.reduceLeDiff, Nat.reducePow, Int.reduceToNat, Int.reduceLT, Int.reduceLE, Int.reduceGT, Int.reduceGE, Int.reduceEq, Int.reduceNeg, Int.reduceAdd, Int.reduceSub, ↓reduceIte, reduceCtorEq, hlt, hx, h0, ht, hG, h1, h2, h3, hr, hp, ↓hty]
  · have hp' : p l[i] = false := by simpa using hp
    have hR : R p l st i = R p l st (i + 1) := by
      rw [R, hdr, List.any_cons, hp', Bool.false_or, idx, if_neg hp]; rfl
    rw [hR]
    simp only [lb74_0, loopN, loops, hd, hd74_0, Try.f74, go_sem, Nat.reduceAdd, Nat.reduceSub, Nat.reduceMul, Nat.reduceEqDiff, Nat.reduceBEq, Nat.reduceLT, Nat.reduceLeDiff, Nat.reducePow, Int.reduceToNat, Int.reduceLT, Int.reduceLE, Int.reduceGT, Int.reduceGE, Int.reduceEq, Int.reduceNeg, Int.reduceAdd, Int.reduceSub, ↓reduceIte, reduceCtorEq, hlt, hx, h0, ht, hG, h1, h2, h3, hr, hp', hw, ↓hty]
    exact hk (i + 1) _ (by omega) (by omega) (by simp only [hd, hd74_0, go_sem, Nat.reduceAdd, Nat.reduceSub, Nat.reduceMul, Nat.reduceEqDiff, Nat.reduceBEq, Nat.reduceLT, Nat.reduceLeDiff, Nat.reducePow, Int.reduceToNat, Int.reduceLT, Int.reduceLE, Int.reduceGT, Int.reduceGE, Int.reduceEq, Int.reduceNeg, Int.reduceAdd, Int.reduceSub, ↓reduceIte, reduceCtorEq, hw])
theorem ev {α : Type} (en : α → D) (G : Specs) (T : Table) (hT : T 74 = some en74) (s : Ev.Spec) (hG : Ev.look G 75 = some s) (c lv : Nat) (p : α → Bool) (q : D) (k : Key) (ver : Nat) (l : List α) (st : Store) (hs : Takes s en q p l) (hty : ∀ x, hasT Try.prog 76 (.d (en x)) = true) (h1 : (st k).ver = ver) (h2 : (st k).live = true) (h3 : (st k).vs = [.d q]) (hl : l.length ≤ 4611686018427387904) (L : Nat) (hL : l.length < L) :
    evF Try.prog G T L (c + 1) 74 [.d (.sl 76 (l.map en)), .fn 75 [.p k ver 0 []]] lv st = some (.d (.int .i64 (idx p l 0)), st) := by
  rw [evF_s (hT := hT) (hb := rfl)]
  simp only [Try.f74, go_sem, Nat.reduceAdd, Nat.reduceSub, Nat.reduceMul, Nat.reduceEqDiff, Nat.reduceBEq, Nat.reduceLT, Nat.reduceLeDiff, Nat.reducePow, Int.reduceToNat, Int.reduceLT, Int.reduceLE, Int.reduceGT, Int.reduceGE, Int.reduceEq, Int.reduceNeg, Int.reduceAdd, Int.reduceSub, ↓reduceIte, reduceCtorEq]
  conv in iter _ _ _ _ _ => change iter (evC _ _ _ _ en74.ms _ _ lb74_0) (maskOf en74.ms 0) _ _ _
  rw [loop en G s hG L _ _ p q k ver l st hs hty h1 h2 h3 hl L 0 _ (by omega) (by omega) (by simp only [hd, hd74_0, go_sem, Nat.reduceAdd, Nat.reduceSub, Nat.reduceMul, Nat.reduceEqDiff, Nat.reduceBEq, Nat.reduceLT, Nat.reduceLeDiff, Nat.reducePow, Int.reduceToNat, Int.reduceLT, Int.reduceLE, Int.reduceGT, Int.reduceGE, Int.reduceEq, Int.reduceNeg, Int.reduceAdd, Int.reduceSub, ↓reduceIte, reduceCtorEq])]
  rw [R, List.drop_zero]
  by_cases ha : l.any p = true
  · rw [if_pos ha]
    simp only [hr74, go_sem, Nat.reduceAdd, Nat.reduceSub, Nat.reduceMul, Nat.reduceEqDiff, Nat.reduceBEq, Nat.reduceLT, Nat.reduceLeDiff, Nat.reducePow, Int.reduceToNat, Int.reduceLT, Int.reduceLE, Int.reduceGT, Int.reduceGE, Int.reduceEq, Int.reduceNeg, Int.reduceAdd, Int.reduceSub, ↓reduceIte, reduceCtorEq]
  · rw [if_neg ha]
    have hi : idx p l 0 = -1 := idx_none _ _ _ (by simpa using ha)
    simp only [hx74_0, go_sem, Nat.reduceAdd, Nat.reduceSub, Nat.reduceMul, Nat.reduceEqDiff, Nat.reduceBEq, Nat.reduceLT, Nat.reduceLeDiff, Nat.reducePow, Int.reduceToNat, Int.reduceLT, Int.reduceLE, Int.reduceGT, Int.reduceGE, Int.reduceEq, Int.reduceNeg, Int.reduceAdd, Int.reduceSub, ↓reduceIte, reduceCtorEq, hi]
end Go.Proofs.YtmhjmjodchbhlaaR.Idx74Dir
end
section
set_option linter.unusedVariables false
set_option linter.unusedSimpArgs false
set_option maxRecDepth 100000
namespace Go.Proofs.YtmhjmjodchbhlaaR.Idx76Dir
open Go.Ev Go.Proofs.YtmhjmjodchbhlaaR.FxDir
attribute [local go_sem] Ev.putR_s Ev.putR_0 Ev.thenO_s Ev.thenO_0 Ev.seqR_n Ev.seqR_e Ev.seqR_r Ev.seqR_0 Ev.blkR_e Ev.blkR_n Ev.blkR_r Ev.blkR_0 Ev.normR_s Ev.normR_0 Ev.outR_r Ev.outR_n Ev.outR_0 Ev.retS_s Ev.retS_0 Ev.pureO_s Ev.pureO_0 Ev.topR_0 Ev.topR_t Ev.topR_t0 Ev.oneL_0 Ev.oneL_s Ev.topR_d Ev.topR_nils Ev.topR_agg Ev.topR_rs Ev.evOp_move Ev.evOp_assign Ev.evOp_pick Ev.evOp_alloc Ev.evOp_box Ev.evOp_build Ev.evOp_buildSlice Ev.evOp_load Ev.evOp_store Ev.evOp_makeMap Ev.evOp_lookup Ev.evOp_mapUpdate Ev.evOp_insert Ev.evOp_nilCheck Ev.evOp_binOp Ev.evOp_unOp Ev.evOp_convert Ev.evOp_makeFunc Ev.evOp_makeSlice Ev.evOp_slice Ev.evOp_fieldAddr Ev.evOp_field Ev.evOp_indexAddr Ev.evOp_index Ev.evOp_extract Ev.evOp_call Ev.evOp_append Ev.evOp_len Ev.evOp_min Ev.evOp_max Ev.condR_b Ev.condR_t Ev.evOps_nil Ev.evOps_plain Ev.evOps_guard Ev.runG_eq Ev.skipG_eq Ev.condL_tt Ev.condL_ff Ev.condL_tf Ev.condL_ft Ev.condL_u Ev.condC_t Ev.condC_f Ev.evC_skip Ev.evC_ret Ev.evC_exit Ev.evC_label Ev.evC_region Ev.evC_draw Ev.evC_seq Ev.evC_cond Ev.evC_block Ev.evC_loop Ev.fin_d Ev.fin_nils Ev.fin_agg_ Ev.fin_rs Ev.finS_s Ev.mapO_fin Ev.upd_upd Ev.argv_d Ev.argv_nils Ev.argv_agg Ev.argv_rs Ev.argv_p Ev.appendTo_nils Ev.appendTo_rs Ev.consV_d Ev.consV_agg Ev.consV_p Ev.consV_rs Ev.consV_nils Ev.consV_fn Ev.consV_und Ev.consV_jk Ev.consV_grown Ev.topR_grown Ev.len_grown Ev.consV_mp Ev.sameK_i Ev.sameK_s Ev.mget_0 Ev.mget_hit Ev.mget_miss Ev.mput_0 Ev.mput_hit Ev.mput_miss Ev.apartAll Ev.apartL Ev.apartV Ev.freeAll Ev.sel Ev.keyOfV Ev.evLookup Ev.evPut Ev.hintOk Ev.keyOk Ev.consP Ev.lookV Ev.guardV Ev.dstAt Ev.evPure Ev.evStore Ev.evPureB Ev.evBin Ev.evBinO Ev.evNil Ev.isNilC Ev.evUn Ev.evConv Ev.evSlice Ev.optI Ev.lenV Ev.elemT Ev.foldI Ev.capsOk Ev.noTup Ev.nth Ev.setN Ev.pad Ev.V.get Ev.V.put Ev.putD Ev.hasT Ev.newBlk Ev.upd Ev.keq Ev.empty Ev.evCall Ev.V.args Ev.argP Ev.callOf Ev.evNilP Ev.isNilP Ev.look Ev.V.view.views Ev.V.view Ev.V.toD Ev.V.toD.V.toDs Ev.V.pure.pures Ev.V.pure Ev.D.flat.flats Ev.D.flat Ev.mkAgg Ev.allD Ev.aggParts Ev.setParts Ev.setElems Ev.getPath Ev.setPath Ev.subL Ev.eqD Ev.eqD.eqDs Ev.and2 Ev.strCut Ev.evalT Ev.constT Ev.evArgs Ev.mask Ev.maskOf Ev.tableOf Ev.compT Ev.resV Ev.retV Ev.mapO Ev.elemsOf Int.cast_ofNat_Int IntWalk.i64_in IntWalk.u64_in IntWalk.u8_in beq_self_eq_true Bool.true_beq Bool.false_beq Bool.and_true Bool.true_and Bool.false_and Bool.and_false Bool.and_self Bool.not_true Bool.not_false Bool.not_eq_true cond_true cond_false if_true if_false and_true true_and and_self decide_true decide_false Bool.or_true Bool.true_or Bool.or_false Bool.false_or List.isEmpty List.isEmpty_nil List.size_toArray List.map List.length_map List.length_cons List.length_nil Option.map Option.bind Option.getD Option.isSome List.replicate Bool.false_eq_true implies_true forall_const Array.toList Array.isEmpty List.append List.nil_append List.cons_append List.drop_zero List.take_length List.take_succ_cons List.take_zero List.take_nil List.getElem?_map List.getElem?_cons_zero List.getElem?_cons_succ List.getElem?_nil List.append_nil
attribute [local go_sem] FxDir.tk2 FxDir.ik2 FxDir.ek2 FxDir.zv2 FxDir.tk3 FxDir.ik3 FxDir.zv3 FxDir.tk4 FxDir.ub4 FxDir.zv4 FxDir.tk23 FxDir.ct23 FxDir.ek23 FxDir.zv23 FxDir.tk27 FxDir.ik27 FxDir.zv27 FxDir.tk37 FxDir.ik37 FxDir.zv37 FxDir.by37 FxDir.so37 FxDir.tk39 FxDir.ct39 FxDir.zv39 FxDir.by39 FxDir.so39 FxDir.tk43 FxDir.zv43 FxDir.tk44 FxDir.zv44 FxDir.tk45 FxDir.zv45 FxDir.tk47 FxDir.ct47 FxDir.zv47 FxDir.tk48 FxDir.ik48 FxDir.zv48 FxDir.tk76 FxDir.ct76 FxDir.zv76 FxDir.by76 FxDir.so76 FxDir.tk77 FxDir.zv77 FxDir.tk79 FxDir.ct79 FxDir.zv79 FxDir.by79 FxDir.so79 FxDir.tk102 FxDir.zv102 FxDir.tk108 FxDir.zv108 FxDir.tk110 FxDir.ek110 FxDir.zv110 FxDir.tk111 FxDir.ek111 FxDir.zv111 FxDir.tk112 FxDir.zv112 FxDir.tk114 FxDir.ct114 FxDir.zv114 FxDir.by114 FxDir.so114 FxDir.tk116 FxDir.zv116 FxDir.tk118 FxDir.zv118 FxDir.mk9_1000000 FxDir.mk28_1000000 FxDir.mk29_0 FxDir.mk29_1000001 FxDir.mk29_1000002 FxDir.mk29_1000003 FxDir.mk29_1000000 FxDir.mk30_1000000 FxDir.mk31_1000000 FxDir.mk72_0 FxDir.mk72_1000001 FxDir.mk72_1000002 FxDir.mk72_1000000 FxDir.mk73_1000000 FxDir.mk74_0 FxDir.mk74_1000001 FxDir.mk74_1000002 FxDir.mk74_1000000 FxDir.mk75_1000000 FxDir.mk76_0 FxDir.mk76_1000001 FxDir.mk76_1000002 FxDir.mk76_1000000 FxDir.mk77_1000000 FxDir.mk78_0 FxDir.mk78_1000001 FxDir.mk78_1000002 FxDir.mk78_1000000
/-- The place of the first that p takes, from i on. -/
def idx {α : Type} (p : α → Bool) : List α → Int → Int
  | [], _ => -1
  | x :: r, i => if p x = true then i else idx p r (i + 1)
theorem idx_none {α : Type} (p : α → Bool) : ∀ (l : List α) (i : Int), l.any p = false → idx p l i = -1
  | [], _, _ => rfl
  | x :: r, i, h => by
    simp only [List.any_cons, Bool.or_eq_false_iff] at h
    rw [idx, if_neg (by simp [h.1])]
    exact idx_none p r (i + 1) h.2
theorem idx_any {α : Type} (p : α → Bool) : ∀ (l : List α) (i : Int), 0 ≤ i → decide (idx p l i ≥ 0) = l.any p
  | [], i, _ => rfl
  | x :: r, i, h => by
    simp only [idx, List.any_cons]
    by_cases hp : p x = true
    · simp [hp, h]
    · simp only [hp, Bool.false_eq_true, if_false, Bool.false_or]; exact idx_any p r (i + 1) (by omega)
/-- What the closure answers at x, if its captured variable says q. -/
def Takes {α : Type} (s : Ev.Spec) (en : α → D) (q : D) (p : α → Bool) (l : List α) : Prop := ∀ x ∈ l, s.run [en x, .ptr q] = some [.bool (p x)]
def hd {α : Type} (en : α → D) (k : Key) (ver : Nat) (l : List α) (i : Nat) : List V := hd76_0 (.d (.sl 39 (l.map en))) (.fn 77 [.p k ver 0 []]) (.d (.int .i64 l.length)) (.d (.int .i64 i))
def R {α : Type} (p : α → Bool) (l : List α) (st : Store) (i : Nat) : Out := if (l.drop i).any p = true then some (.ret, hr76 (.d (.int .i64 (idx p (l.drop i) i))), st) else some (.exit 0, hx76_0, st)
theorem loop {α : Type} (en : α → D) (G : Specs) (s : Ev.Spec) (hG : Ev.look G 77 = some s) (L lv : Nat) (call : Caller) (p : α → Bool) (q : D) (k : Key) (ver : Nat) (l : List α) (st : Store) (hs : Takes s en q p l) (hty : ∀ x, hasT Try.prog 39 (.d (en x)) = true) (h1 : (st k).ver = ver) (h2 : (st k).live = true) (h3 : (st k).vs = [.d q]) (hl : l.length ≤ 4611686018427387904) :
    ∀ (n i : Nat) (env : List V), i ≤ l.length → l.length - i < n → mask (maskOf en76.ms 0) env = hd en k ver l i →
      iter (evC Try.prog G call L en76.ms lv 0 lb76_0) (maskOf en76.ms 0) n env st = R p l st i := by
  refine iter_wf _ _ (fun i => i ≤ l.length) (hd en k ver l) (fun _ => st) (R p l st) (fun i => l.length - i) ?_
  intro i hi kk hk
  by_cases hil : i < l.length
  case neg =>
    obtain rfl : i = l.length := by omega
    have hlt : ¬ (l.length : Int) < l.length := by omega
    simp only [lb76_0, loopN, loops, hd, hd76_0, R, hr76, hx76_0, Try.f76, go_sem, Nat.reduceAdd, Nat.reduceSub, Nat.reduceMul, Nat.reduceEqDiff, Nat.reduceBEq, Nat.reduceLT, Nat.reduceLeDiff, Nat.reducePow, Int.reduceToNat, Int.reduceLT, Int.reduceLE, Int.reduceGT, Int.reduceGE, Int.reduceEq, Int.reduceNeg, Int.reduceAdd, Int.reduceSub, ↓reduceIte, reduceCtorEq, hlt, List.drop_length, List.any_nil]
  have hlt : (i : Int) < l.length := by omega
  have hx : l[i]? = some l[i] := by simp [hil]
  have hdr : l.drop i = l[i] :: l.drop (i + 1) := List.drop_eq_getElem_cons hil
  have hw : IntKind.i64.wrap ((i : Int) + 1) = ((i + 1 : Nat) : Int) := by rw [IntWalk.i64_in _ (by omega)]; rfl
  have h0 : (0 : Int) ≤ (i : Int) := by omega
  have ht : ((i : Int)).toNat = i := by omega
  have hr := hs l[i] (List.getElem_mem _)
  by_cases hp : p l[i] = true
  · have hR : R p l st i = some (.ret, hr76 (.d (.int .i64 i)), st) := by
      rw [R, hdr, List.any_cons, hp, Bool.true_or, if_pos rfl, idx, if_pos hp]
    rw [hR]
    simp only [lb76_0, loopN, loops, hd, hd76_0, hr76, Try.f76, go_sem, Nat.reduceAdd, Nat.reduceSub, Nat.reduceMul, Nat.reduceEqDiff, Nat.reduceBEq, Nat.reduceLT, Nat.reduceLeDiff, Nat.reducePow, Int.reduceToNat, Int.reduceLT, Int.reduceLE, Int.reduceGT, Int.reduceGE, Int.reduceEq, Int.reduceNeg, Int.reduceAdd, Int.reduceSub, ↓reduceIte, reduceCtorEq, hlt, hx, h0, ht, hG, h1, h2, h3, hr, hp, ↓hty]
  · have hp' : p l[i] = false := by simpa using hp
    have hR : R p l st i = R p l st (i + 1) := by
      rw [R, hdr, List.any_cons, hp', Bool.false_or, idx, if_neg hp]; rfl
    rw [hR]
    simp only [lb76_0, loopN, loops, hd, hd76_0, Try.f76, go_sem, Nat.reduceAdd, Nat.reduceSub, Nat.reduceMul, Nat.reduceEqDiff, Nat.reduceBEq, Nat.reduceLT, Nat.reduceLeDiff, Nat.reducePow, Int.reduceToNat, Int.reduceLT, Int.reduceLE, Int.reduceGT, Int.reduceGE, Int.reduceEq, Int.reduceNeg, Int.reduceAdd, Int.reduceSub, ↓reduceIte, reduceCtorEq, hlt, hx, h0, ht, hG, h1, h2, h3, hr, hp', hw, ↓hty]
    exact hk (i + 1) _ (by omega) (by omega) (by simp only [hd, hd76_0, go_sem, Nat.reduceAdd, Nat.reduceSub, Nat.reduceMul, Nat.reduceEqDiff, Nat.reduceBEq, Nat.reduceLT, Nat.reduceLeDiff, Nat.reducePow, Int.reduceToNat, Int.reduceLT, Int.reduceLE, Int.reduceGT, Int.reduceGE, Int.reduceEq, Int.reduceNeg, Int.reduceAdd, Int.reduceSub, ↓reduceIte, reduceCtorEq, hw])
theorem ev {α : Type} (en : α → D) (G : Specs) (T : Table) (hT : T 76 = some en76) (s : Ev.Spec) (hG : Ev.look G 77 = some s) (c lv : Nat) (p : α → Bool) (q : D) (k : Key) (ver : Nat) (l : List α) (st : Store) (hs : Takes s en q p l) (hty : ∀ x, hasT Try.prog 39 (.d (en x)) = true) (h1 : (st k).ver = ver) (h2 : (st k).live = true) (h3 : (st k).vs = [.d q]) (hl : l.length ≤ 4611686018427387904) (L : Nat) (hL : l.length < L) :
    evF Try.prog G T L (c + 1) 76 [.d (.sl 39 (l.map en)), .fn 77 [.p k ver 0 []]] lv st = some (.d (.int .i64 (idx p l 0)), st) := by
  rw [evF_s (hT := hT) (hb := rfl)]
  simp only [Try.f76, go_sem, Nat.reduceAdd, Nat.reduceSub, Nat.reduceMul, Nat.reduceEqDiff, Nat.reduceBEq, Nat.reduceLT, Nat.reduceLeDiff, Nat.reducePow, Int.reduceToNat, Int.reduceLT, Int.reduceLE, Int.reduceGT, Int.reduceGE, Int.reduceEq, Int.reduceNeg, Int.reduceAdd, Int.reduceSub, ↓reduceIte, reduceCtorEq]
  conv in iter _ _ _ _ _ => change iter (evC _ _ _ _ en76.ms _ _ lb76_0) (maskOf en76.ms 0) _ _ _
  rw [loop en G s hG L _ _ p q k ver l st hs hty h1 h2 h3 hl L 0 _ (by omega) (by omega) (by simp only [hd, hd76_0, go_sem, Nat.reduceAdd, Nat.reduceSub, Nat.reduceMul, Nat.reduceEqDiff, Nat.reduceBEq, Nat.reduceLT, Nat.reduceLeDiff, Nat.reducePow, Int.reduceToNat, Int.reduceLT, Int.reduceLE, Int.reduceGT, Int.reduceGE, Int.reduceEq, Int.reduceNeg, Int.reduceAdd, Int.reduceSub, ↓reduceIte, reduceCtorEq])]
  rw [R, List.drop_zero]
  by_cases ha : l.any p = true
  · rw [if_pos ha]
    simp only [hr76, go_sem, Nat.reduceAdd, Nat.reduceSub, Nat.reduceMul, Nat.reduceEqDiff, Nat.reduceBEq, Nat.reduceLT, Nat.reduceLeDiff, Nat.reducePow, Int.reduceToNat, Int.reduceLT, Int.reduceLE, Int.reduceGT, Int.reduceGE, Int.reduceEq, Int.reduceNeg, Int.reduceAdd, Int.reduceSub, ↓reduceIte, reduceCtorEq]
  · rw [if_neg ha]
    have hi : idx p l 0 = -1 := idx_none _ _ _ (by simpa using ha)
    simp only [hx76_0, go_sem, Nat.reduceAdd, Nat.reduceSub, Nat.reduceMul, Nat.reduceEqDiff, Nat.reduceBEq, Nat.reduceLT, Nat.reduceLeDiff, Nat.reducePow, Int.reduceToNat, Int.reduceLT, Int.reduceLE, Int.reduceGT, Int.reduceGE, Int.reduceEq, Int.reduceNeg, Int.reduceAdd, Int.reduceSub, ↓reduceIte, reduceCtorEq, hi]
end Go.Proofs.YtmhjmjodchbhlaaR.Idx76Dir
end
section
set_option linter.unusedVariables false
set_option linter.unusedSimpArgs false
set_option maxRecDepth 100000
namespace Go.Proofs.YtmhjmjodchbhlaaR.DirDir
open Go.Ev Go.Ari Go.Proofs.YtmhjmjodchbhlaaR.FxDir Go.Proofs.YtmhjmjodchbhlaaR.PullPull Go.Proofs.YtmhjmjodchbhlaaR.TypesRate
open Go.Proofs.YtmhjmjodchbhlaaR.FaultRate (Thing things things_len fault tickBad)
open Go.Proofs.YtmhjmjodchbhlaaR.PathPath (Bod bD cBod cPath)
open Go.Proofs.YtmhjmjodchbhlaaR.SkyFRate (okSky)
open Go.Proofs.YtmhjmjodchbhlaaR.PlacePlace (sPlace placeA_ok placeB_ok placeR)
open Go.Proofs.YtmhjmjodchbhlaaR.FitDir (sToward sToward_run toward_ok towardR)
open Go.Proofs.YtmhjmjodchbhlaaR.RateARate (sTimed sTimed_run timed_ok timedR timed_zero sky_D)
attribute [local go_sem] Ev.putR_s Ev.putR_0 Ev.thenO_s Ev.thenO_0 Ev.seqR_n Ev.seqR_e Ev.seqR_r Ev.seqR_0 Ev.blkR_e Ev.blkR_n Ev.blkR_r Ev.blkR_0 Ev.normR_s Ev.normR_0 Ev.outR_r Ev.outR_n Ev.outR_0 Ev.retS_s Ev.retS_0 Ev.pureO_s Ev.pureO_0 Ev.topR_0 Ev.topR_t Ev.topR_t0 Ev.oneL_0 Ev.oneL_s Ev.topR_d Ev.topR_nils Ev.topR_agg Ev.topR_rs Ev.evOp_move Ev.evOp_assign Ev.evOp_pick Ev.evOp_alloc Ev.evOp_box Ev.evOp_build Ev.evOp_buildSlice Ev.evOp_load Ev.evOp_store Ev.evOp_makeMap Ev.evOp_lookup Ev.evOp_mapUpdate Ev.evOp_insert Ev.evOp_nilCheck Ev.evOp_binOp Ev.evOp_unOp Ev.evOp_convert Ev.evOp_makeFunc Ev.evOp_makeSlice Ev.evOp_slice Ev.evOp_fieldAddr Ev.evOp_field Ev.evOp_indexAddr Ev.evOp_index Ev.evOp_extract Ev.evOp_call Ev.evOp_append Ev.evOp_len Ev.evOp_min Ev.evOp_max Ev.condR_b Ev.condR_t Ev.evOps_nil Ev.evOps_plain Ev.evOps_guard Ev.runG_eq Ev.skipG_eq Ev.condL_tt Ev.condL_ff Ev.condL_tf Ev.condL_ft Ev.condL_u Ev.condC_t Ev.condC_f Ev.evC_skip Ev.evC_ret Ev.evC_exit Ev.evC_label Ev.evC_region Ev.evC_draw Ev.evC_seq Ev.evC_cond Ev.evC_block Ev.evC_loop Ev.fin_d Ev.fin_nils Ev.fin_agg_ Ev.fin_rs Ev.finS_s Ev.mapO_fin Ev.upd_upd Ev.argv_d Ev.argv_nils Ev.argv_agg Ev.argv_rs Ev.argv_p Ev.appendTo_nils Ev.appendTo_rs Ev.consV_d Ev.consV_agg Ev.consV_p Ev.consV_rs Ev.consV_nils Ev.consV_fn Ev.consV_und Ev.consV_jk Ev.consV_grown Ev.topR_grown Ev.len_grown Ev.consV_mp Ev.sameK_i Ev.sameK_s Ev.mget_0 Ev.mget_hit Ev.mget_miss Ev.mput_0 Ev.mput_hit Ev.mput_miss Ev.apartAll Ev.apartL Ev.apartV Ev.freeAll Ev.sel Ev.keyOfV Ev.evLookup Ev.evPut Ev.hintOk Ev.keyOk Ev.consP Ev.lookV Ev.guardV Ev.dstAt Ev.evPure Ev.evStore Ev.evPureB Ev.evBin Ev.evBinO Ev.evNil Ev.isNilC Ev.evUn Ev.evConv Ev.evSlice Ev.optI Ev.lenV Ev.elemT Ev.foldI Ev.capsOk Ev.noTup Ev.nth Ev.setN Ev.pad Ev.V.get Ev.V.put Ev.putD Ev.hasT Ev.newBlk Ev.upd Ev.keq Ev.empty Ev.evCall Ev.V.args Ev.argP Ev.callOf Ev.evNilP Ev.isNilP Ev.look Ev.V.view.views Ev.V.view Ev.V.toD Ev.V.toD.V.toDs Ev.V.pure.pures Ev.V.pure Ev.D.flat.flats Ev.D.flat Ev.mkAgg Ev.allD Ev.aggParts Ev.setParts Ev.setElems Ev.getPath Ev.setPath Ev.subL Ev.eqD Ev.eqD.eqDs Ev.and2 Ev.strCut Ev.evalT Ev.constT Ev.evArgs Ev.mask Ev.maskOf Ev.tableOf Ev.compT Ev.resV Ev.retV Ev.mapO Ev.elemsOf Int.cast_ofNat_Int IntWalk.i64_in IntWalk.u64_in IntWalk.u8_in beq_self_eq_true Bool.true_beq Bool.false_beq Bool.and_true Bool.true_and Bool.false_and Bool.and_false Bool.and_self Bool.not_true Bool.not_false Bool.not_eq_true cond_true cond_false if_true if_false and_true true_and and_self decide_true decide_false Bool.or_true Bool.true_or Bool.or_false Bool.false_or List.isEmpty List.isEmpty_nil List.size_toArray List.map List.length_map List.length_cons List.length_nil Option.map Option.bind Option.getD Option.isSome List.replicate Bool.false_eq_true implies_true forall_const Array.toList Array.isEmpty List.append List.nil_append List.cons_append List.drop_zero List.take_length List.take_succ_cons List.take_zero List.take_nil List.getElem?_map List.getElem?_cons_zero List.getElem?_cons_succ List.getElem?_nil List.append_nil
attribute [local go_sem] FxDir.tk2 FxDir.ik2 FxDir.ek2 FxDir.zv2 FxDir.tk3 FxDir.ik3 FxDir.zv3 FxDir.tk4 FxDir.ub4 FxDir.zv4 FxDir.tk23 FxDir.ct23 FxDir.ek23 FxDir.zv23 FxDir.tk27 FxDir.ik27 FxDir.zv27 FxDir.tk37 FxDir.ik37 FxDir.zv37 FxDir.by37 FxDir.so37 FxDir.tk39 FxDir.ct39 FxDir.zv39 FxDir.by39 FxDir.so39 FxDir.tk43 FxDir.zv43 FxDir.tk44 FxDir.zv44 FxDir.tk45 FxDir.zv45 FxDir.tk47 FxDir.ct47 FxDir.zv47 FxDir.tk48 FxDir.ik48 FxDir.zv48 FxDir.tk76 FxDir.ct76 FxDir.zv76 FxDir.by76 FxDir.so76 FxDir.tk77 FxDir.zv77 FxDir.tk79 FxDir.ct79 FxDir.zv79 FxDir.by79 FxDir.so79 FxDir.tk102 FxDir.zv102 FxDir.tk108 FxDir.zv108 FxDir.tk110 FxDir.ek110 FxDir.zv110 FxDir.tk111 FxDir.ek111 FxDir.zv111 FxDir.tk112 FxDir.zv112 FxDir.tk114 FxDir.ct114 FxDir.zv114 FxDir.by114 FxDir.so114 FxDir.tk116 FxDir.zv116 FxDir.tk118 FxDir.zv118 FxDir.mk9_1000000 FxDir.mk28_1000000 FxDir.mk29_0 FxDir.mk29_1000001 FxDir.mk29_1000002 FxDir.mk29_1000003 FxDir.mk29_1000000 FxDir.mk30_1000000 FxDir.mk31_1000000 FxDir.mk72_0 FxDir.mk72_1000001 FxDir.mk72_1000002 FxDir.mk72_1000000 FxDir.mk73_1000000 FxDir.mk74_0 FxDir.mk74_1000001 FxDir.mk74_1000002 FxDir.mk74_1000000 FxDir.mk75_1000000 FxDir.mk76_0 FxDir.mk76_1000001 FxDir.mk76_1000002 FxDir.mk76_1000000 FxDir.mk77_1000000 FxDir.mk78_0 FxDir.mk78_1000001 FxDir.mk78_1000002 FxDir.mk78_1000000
/-! ### plain -/
noncomputable def toBody (s : Sky) (t : Int) (b : Bod) : Vec × Int :=
  if (placeR s.home.2.1 s.home.2.2.1 t).2 = 0 then (if (placeR b.2.1 b.2.2.1 t).2 = 0 then towardR (placeR s.home.2.1 s.home.2.2.1 t).1 (placeR b.2.1 b.2.2.1 t).1 else ((0, 0, 0), (placeR b.2.1 b.2.2.1 t).2)) else ((0, 0, 0), (placeR s.home.2.1 s.home.2.2.1 t).2)
noncomputable def dirOf (s : Sky) (t : Int) : Thing → Vec × Int
  | .st y => (y.p, 0)
  | .ga g => (g.p, 0)
  | .bo b => toBody s t b
noncomputable def dirT (s : Sky) (id t : Int) : List Thing → Vec × Int
  | [] => ((0, 0, 0), 8)
  | x :: r => if x.id = id then dirOf s t x else dirT s id t r
noncomputable def dirR (s : Sky) (id t : Int) : Vec × Int := if timedR s t = 0 then dirT s id t (things s) else ((0, 0, 0), timedR s t)
def cPt : Cod Int := ⟨fun x => .ptr (.int .i64 x), fun x y h => by cases h; rfl⟩
/-! ### the search, 1 -/
def eq1 (id : Int) (x : Star) : Bool := decide (x.id = id)
noncomputable def sEq1 : Ev.Spec := specC (cCons cStar (cOne cPt)) (fun _ => True) fun x => [.bool (eq1 x.2 x.1)]
theorem sEq1_run (x : Star) (id : Int) : sEq1.run [Star.D x, .ptr (.int .i64 id)] = some [.bool (eq1 id x)] := specC_run (cCons cStar (cOne cPt)) _ _ (x, id) trivial
noncomputable def TE1 : Table := tableOf [(73, en73)]
theorem TE1_ok : TableOk Try.prog (([] : Specs).map (·.1)) TE1 := (table_cons Try.func73 (by kernel_rfl) (by kernel_rfl) table_nil)
theorem eEq1 (x : Star) (id : Int) : evTop Try.prog [] TE1 0 1 73 [Star.D x, .ptr (.int .i64 id)] = some [.bool (eq1 id x)] := by
  simp only [Star.D, vD]
  unfold evTop
  simp only [List.map]
  rw [evF_s (fn := Try.f73) (msk := en73.ms) (hT := by rfl) (hb := by rfl)]
  simp only [Try.f73, go_sem, Nat.reduceAdd, Nat.reduceSub, Nat.reduceMul, Nat.reduceEqDiff, Nat.reduceBEq, Nat.reduceLT, Nat.reduceLeDiff, Nat.reducePow, Int.reduceToNat, Int.reduceLT, Int.reduceLE, Int.reduceGT, Int.reduceGE, Int.reduceEq, Int.reduceNeg, Int.reduceAdd, Int.reduceSub, ↓reduceIte, reduceCtorEq, eq1]
theorem eq1_ok : SpecOk Try.prog 73 sEq1 := specC_ok mixed specs_nil TE1_ok fun x _ => ⟨0, 1, eEq1 x.1 x.2⟩
open Go.Proofs.YtmhjmjodchbhlaaR.Idx72Dir in
theorem call1 (G : Specs) (T : Table) (hT : T 72 = some en72) (hG : Ev.look G 73 = some sEq1) (c lv : Nat) (id : Int) (l : List Star) (st : Store) {L : Nat} (hl : l.length ≤ 4611686018427387904) (hL : l.length < L) (h1 : (st (0, 4)).ver = 1) (h2 : (st (0, 4)).live = true) (h3 : (st (0, 4)).vs = [.d (.int .i64 id)]) :
    evF Try.prog G T L (c + 1) 72 [.d (.sl 79 (l.map Star.D)), .fn 73 [.p (0, 4) 1 0 []]] lv st = some (.d (.int .i64 (idx (eq1 id) l 0)), st) :=
  ev Star.D G T hT sEq1 hG c lv (eq1 id) (.int .i64 id) (0, 4) 1 l st (fun x _ => sEq1_run x id) (fun x => by simp only [Star.D, go_sem, Nat.reduceAdd, Nat.reduceSub, Nat.reduceMul, Nat.reduceEqDiff, Nat.reduceBEq, Nat.reduceLT, Nat.reduceLeDiff, Nat.reducePow, Int.reduceToNat, Int.reduceLT, Int.reduceLE, Int.reduceGT, Int.reduceGE, Int.reduceEq, Int.reduceNeg, Int.reduceAdd, Int.reduceSub, ↓reduceIte, reduceCtorEq]) h1 h2 h3 hl L hL
open Go.Proofs.YtmhjmjodchbhlaaR.Idx72Dir in
theorem first1 (s : Sky) (id t : Int) (r : List Thing) : ∀ (l : List Star) (i : Int), (l.any (eq1 id) = true → ∃ (j : Nat) (x : Star), idx (eq1 id) l i = i + j ∧ l[j]? = some x ∧ dirT s id t (l.map Thing.st ++ r) = dirOf s t (.st x)) ∧ (l.any (eq1 id) = false → idx (eq1 id) l i = -1 ∧ dirT s id t (l.map Thing.st ++ r) = dirT s id t r)
  | [], i => ⟨fun h => by simp at h, fun _ => ⟨rfl, rfl⟩⟩
  | x :: l, i => by
    obtain ⟨h1, h2⟩ := first1 s id t r l (i + 1)
    by_cases hx : eq1 id x = true
    · refine ⟨fun _ => ⟨0, x, by rw [idx, if_pos hx]; simp, rfl, ?_⟩, fun h => by rw [List.any_cons, hx] at h; cases h⟩
      have : (Thing.st x).id = id := of_decide_eq_true hx
      exact if_pos this
    · have hx' : eq1 id x = false := by simpa using hx
      have hne : ¬ (Thing.st x).id = id := of_decide_eq_false hx'
      have hd : dirT s id t ((x :: l).map Thing.st ++ r) = dirT s id t (l.map Thing.st ++ r) := if_neg hne
      have hi : idx (eq1 id) (x :: l) i = idx (eq1 id) l (i + 1) := if_neg hx
      rw [hd, hi, List.any_cons, hx', Bool.false_or]
      refine ⟨fun h => ?_, h2⟩
      obtain ⟨j, y, g1, g2, g3⟩ := h1 h
      exact ⟨j + 1, y, by rw [g1]; omega, g2, g3⟩
/-! ### the search, 2 -/
def eq2 (id : Int) (x : Gal) : Bool := decide (x.id = id)
noncomputable def sEq2 : Ev.Spec := specC (cCons cGal (cOne cPt)) (fun _ => True) fun x => [.bool (eq2 x.2 x.1)]
theorem sEq2_run (x : Gal) (id : Int) : sEq2.run [Gal.D x, .ptr (.int .i64 id)] = some [.bool (eq2 id x)] := specC_run (cCons cGal (cOne cPt)) _ _ (x, id) trivial
noncomputable def TE2 : Table := tableOf [(75, en75)]
theorem TE2_ok : TableOk Try.prog (([] : Specs).map (·.1)) TE2 := (table_cons Try.func75 (by kernel_rfl) (by kernel_rfl) table_nil)
theorem eEq2 (x : Gal) (id : Int) : evTop Try.prog [] TE2 0 1 75 [Gal.D x, .ptr (.int .i64 id)] = some [.bool (eq2 id x)] := by
  simp only [Gal.D, vD]
  unfold evTop
  simp only [List.map]
  rw [evF_s (fn := Try.f75) (msk := en75.ms) (hT := by rfl) (hb := by rfl)]
  simp only [Try.f75, go_sem, Nat.reduceAdd, Nat.reduceSub, Nat.reduceMul, Nat.reduceEqDiff, Nat.reduceBEq, Nat.reduceLT, Nat.reduceLeDiff, Nat.reducePow, Int.reduceToNat, Int.reduceLT, Int.reduceLE, Int.reduceGT, Int.reduceGE, Int.reduceEq, Int.reduceNeg, Int.reduceAdd, Int.reduceSub, ↓reduceIte, reduceCtorEq, eq2]
theorem eq2_ok : SpecOk Try.prog 75 sEq2 := specC_ok mixed specs_nil TE2_ok fun x _ => ⟨0, 1, eEq2 x.1 x.2⟩
open Go.Proofs.YtmhjmjodchbhlaaR.Idx74Dir in
theorem call2 (G : Specs) (T : Table) (hT : T 74 = some en74) (hG : Ev.look G 75 = some sEq2) (c lv : Nat) (id : Int) (l : List Gal) (st : Store) {L : Nat} (hl : l.length ≤ 4611686018427387904) (hL : l.length < L) (h1 : (st (0, 4)).ver = 1) (h2 : (st (0, 4)).live = true) (h3 : (st (0, 4)).vs = [.d (.int .i64 id)]) :
    evF Try.prog G T L (c + 1) 74 [.d (.sl 76 (l.map Gal.D)), .fn 75 [.p (0, 4) 1 0 []]] lv st = some (.d (.int .i64 (idx (eq2 id) l 0)), st) :=
  ev Gal.D G T hT sEq2 hG c lv (eq2 id) (.int .i64 id) (0, 4) 1 l st (fun x _ => sEq2_run x id) (fun x => by simp only [Gal.D, go_sem, Nat.reduceAdd, Nat.reduceSub, Nat.reduceMul, Nat.reduceEqDiff, Nat.reduceBEq, Nat.reduceLT, Nat.reduceLeDiff, Nat.reducePow, Int.reduceToNat, Int.reduceLT, Int.reduceLE, Int.reduceGT, Int.reduceGE, Int.reduceEq, Int.reduceNeg, Int.reduceAdd, Int.reduceSub, ↓reduceIte, reduceCtorEq]) h1 h2 h3 hl L hL
open Go.Proofs.YtmhjmjodchbhlaaR.Idx74Dir in
theorem first2 (s : Sky) (id t : Int) (r : List Thing) : ∀ (l : List Gal) (i : Int), (l.any (eq2 id) = true → ∃ (j : Nat) (x : Gal), idx (eq2 id) l i = i + j ∧ l[j]? = some x ∧ dirT s id t (l.map Thing.ga ++ r) = dirOf s t (.ga x)) ∧ (l.any (eq2 id) = false → idx (eq2 id) l i = -1 ∧ dirT s id t (l.map Thing.ga ++ r) = dirT s id t r)
  | [], i => ⟨fun h => by simp at h, fun _ => ⟨rfl, rfl⟩⟩
  | x :: l, i => by
    obtain ⟨h1, h2⟩ := first2 s id t r l (i + 1)
    by_cases hx : eq2 id x = true
    · refine ⟨fun _ => ⟨0, x, by rw [idx, if_pos hx]; simp, rfl, ?_⟩, fun h => by rw [List.any_cons, hx] at h; cases h⟩
      have : (Thing.ga x).id = id := of_decide_eq_true hx
      exact if_pos this
    · have hx' : eq2 id x = false := by simpa using hx
      have hne : ¬ (Thing.ga x).id = id := of_decide_eq_false hx'
      have hd : dirT s id t ((x :: l).map Thing.ga ++ r) = dirT s id t (l.map Thing.ga ++ r) := if_neg hne
      have hi : idx (eq2 id) (x :: l) i = idx (eq2 id) l (i + 1) := if_neg hx
      rw [hd, hi, List.any_cons, hx', Bool.false_or]
      refine ⟨fun h => ?_, h2⟩
      obtain ⟨j, y, g1, g2, g3⟩ := h1 h
      exact ⟨j + 1, y, by rw [g1]; omega, g2, g3⟩
/-! ### the search, 3 -/
def eq3 (id : Int) (x : Bod) : Bool := decide (x.1 = id)
noncomputable def sEq3 : Ev.Spec := specC (cCons cBod (cOne cPt)) (fun _ => True) fun x => [.bool (eq3 x.2 x.1)]
theorem sEq3_run (x : Bod) (id : Int) : sEq3.run [bD x, .ptr (.int .i64 id)] = some [.bool (eq3 id x)] := specC_run (cCons cBod (cOne cPt)) _ _ (x, id) trivial
noncomputable def TE3 : Table := tableOf [(77, en77)]
theorem TE3_ok : TableOk Try.prog (([] : Specs).map (·.1)) TE3 := (table_cons Try.func77 (by kernel_rfl) (by kernel_rfl) table_nil)
theorem eEq3 (x : Bod) (id : Int) : evTop Try.prog [] TE3 0 1 77 [bD x, .ptr (.int .i64 id)] = some [.bool (eq3 id x)] := by
  simp only [bD, vD]
  unfold evTop
  simp only [List.map]
  rw [evF_s (fn := Try.f77) (msk := en77.ms) (hT := by rfl) (hb := by rfl)]
  simp only [Try.f77, go_sem, Nat.reduceAdd, Nat.reduceSub, Nat.reduceMul, Nat.reduceEqDiff, Nat.reduceBEq, Nat.reduceLT, Nat.reduceLeDiff, Nat.reducePow, Int.reduceToNat, Int.reduceLT, Int.reduceLE, Int.reduceGT, Int.reduceGE, Int.reduceEq, Int.reduceNeg, Int.reduceAdd, Int.reduceSub, ↓reduceIte, reduceCtorEq, eq3]
theorem eq3_ok : SpecOk Try.prog 77 sEq3 := specC_ok mixed specs_nil TE3_ok fun x _ => ⟨0, 1, eEq3 x.1 x.2⟩
open Go.Proofs.YtmhjmjodchbhlaaR.Idx76Dir in
theorem call3 (G : Specs) (T : Table) (hT : T 76 = some en76) (hG : Ev.look G 77 = some sEq3) (c lv : Nat) (id : Int) (l : List Bod) (st : Store) {L : Nat} (hl : l.length ≤ 4611686018427387904) (hL : l.length < L) (h1 : (st (0, 4)).ver = 1) (h2 : (st (0, 4)).live = true) (h3 : (st (0, 4)).vs = [.d (.int .i64 id)]) :
    evF Try.prog G T L (c + 1) 76 [.d (.sl 39 (l.map bD)), .fn 77 [.p (0, 4) 1 0 []]] lv st = some (.d (.int .i64 (idx (eq3 id) l 0)), st) :=
  ev bD G T hT sEq3 hG c lv (eq3 id) (.int .i64 id) (0, 4) 1 l st (fun x _ => sEq3_run x id) (fun x => by simp only [bD, go_sem, Nat.reduceAdd, Nat.reduceSub, Nat.reduceMul, Nat.reduceEqDiff, Nat.reduceBEq, Nat.reduceLT, Nat.reduceLeDiff, Nat.reducePow, Int.reduceToNat, Int.reduceLT, Int.reduceLE, Int.reduceGT, Int.reduceGE, Int.reduceEq, Int.reduceNeg, Int.reduceAdd, Int.reduceSub, ↓reduceIte, reduceCtorEq]) h1 h2 h3 hl L hL
open Go.Proofs.YtmhjmjodchbhlaaR.Idx76Dir in
theorem first3 (s : Sky) (id t : Int) (r : List Thing) : ∀ (l : List Bod) (i : Int), (l.any (eq3 id) = true → ∃ (j : Nat) (x : Bod), idx (eq3 id) l i = i + j ∧ l[j]? = some x ∧ dirT s id t (l.map Thing.bo ++ r) = dirOf s t (.bo x)) ∧ (l.any (eq3 id) = false → idx (eq3 id) l i = -1 ∧ dirT s id t (l.map Thing.bo ++ r) = dirT s id t r)
  | [], i => ⟨fun h => by simp at h, fun _ => ⟨rfl, rfl⟩⟩
  | x :: l, i => by
    obtain ⟨h1, h2⟩ := first3 s id t r l (i + 1)
    by_cases hx : eq3 id x = true
    · refine ⟨fun _ => ⟨0, x, by rw [idx, if_pos hx]; simp, rfl, ?_⟩, fun h => by rw [List.any_cons, hx] at h; cases h⟩
      have : (Thing.bo x).id = id := of_decide_eq_true hx
      exact if_pos this
    · have hx' : eq3 id x = false := by simpa using hx
      have hne : ¬ (Thing.bo x).id = id := of_decide_eq_false hx'
      have hd : dirT s id t ((x :: l).map Thing.bo ++ r) = dirT s id t (l.map Thing.bo ++ r) := if_neg hne
      have hi : idx (eq3 id) (x :: l) i = idx (eq3 id) l (i + 1) := if_neg hx
      rw [hd, hi, List.any_cons, hx', Bool.false_or]
      refine ⟨fun h => ?_, h2⟩
      obtain ⟨j, y, g1, g2, g3⟩ := h1 h
      exact ⟨j + 1, y, by rw [g1]; omega, g2, g3⟩
noncomputable def sDir : Ev.Spec := specC (cCons cSky (cCons (cI .i64) (cOne (cI .i64)))) (fun x => okSky x.1) fun x => [vD (dirR x.1 x.2.1 x.2.2).1, .int .i64 (dirR x.1 x.2.1 x.2.2).2]
theorem sPlace_run (b : Bod) (t : Int) (ht : -9223372036854775808 ≤ t ∧ t < 9223372036854775808) : sPlace.run [bD b, .int .i64 t] = some [vD (placeR b.2.1 b.2.2.1 t).1, .int .i64 (placeR b.2.1 b.2.2.1 t).2] := specC_run cPath _ _ (b, t) ht
noncomputable def G : Specs := [(66, sTimed), (73, sEq1), (75, sEq2), (77, sEq3), (26, sPlace), (30, sToward)]
noncomputable def T : Table := tableOf [(28, en28), (72, en72), (74, en74), (76, en76)]
theorem G_ok : ∀ g s, Ev.look G g = some s → SpecOk Try.prog g s := specs_cons timed_ok (specs_cons eq1_ok (specs_cons eq2_ok (specs_cons eq3_ok (specs_cons placeA_ok (specs_cons toward_ok specs_nil)))))
theorem T_ok : TableOk Try.prog (G.map (·.1)) T := (table_cons Try.func28 (by kernel_rfl) (by kernel_rfl) (table_cons Try.func72 (by kernel_rfl) (by kernel_rfl) (table_cons Try.func74 (by kernel_rfl) (by kernel_rfl) (table_cons Try.func76 (by kernel_rfl) (by kernel_rfl) table_nil))))
theorem eDir (s : Sky) (id t : Int) (hs : okSky s) : evTop Try.prog G T (s.stars.length + s.gals.length + s.bods.length + 1) 2 28 [s.D, .int .i64 id, .int .i64 t] = some [vD (dirR s id t).1, .int .i64 (dirR s id t).2] := by
  have htm := sTimed_run s t hs
  obtain ⟨⟨hs1, hs3, hs4⟩, hs2⟩ := hs
  have hc1 := fun lv st => call1 G T rfl rfl 0 lv id s.stars st (L := s.stars.length + s.gals.length + s.bods.length + 1) (by omega) (by omega)
  have hc2 := fun lv st => call2 G T rfl rfl 0 lv id s.gals st (L := s.stars.length + s.gals.length + s.bods.length + 1) (by omega) (by omega)
  have hc3 := fun lv st => call3 G T rfl rfl 0 lv id s.bods st (L := s.stars.length + s.gals.length + s.bods.length + 1) (by omega) (by omega)
  simp only [G] at hc1 hc2 hc3
  have f1 := first1 s id t (s.gals.map Thing.ga ++ s.bods.map Thing.bo) s.stars 0
  have f2 := first2 s id t (s.bods.map Thing.bo) s.gals 0
  have f3 := first3 s id t [] s.bods 0
  rw [List.append_nil] at f3
  rw [sky_D] at htm ⊢
  unfold dirR
  unfold evTop
  simp only [List.map]
  rw [evF_s (fn := Try.f28) (msk := en28.ms) (hT := by rfl) (hb := by rfl)]
  by_cases c1 : timedR s t = 0
  case neg =>
    rw [if_neg c1]
    generalize timedR s t = e at *
    simp only [Try.f28, G, go_sem, Nat.reduceAdd, Nat.reduceSub, Nat.reduceMul, Nat.reduceEqDiff, Nat.reduceBEq, Nat.reduceLT, Nat.reduceLeDiff, Nat.reducePow, Int.reduceToNat, Int.reduceLT, Int.reduceLE, Int.reduceGT, Int.reduceGE, Int.reduceEq, Int.reduceNeg, Int.reduceAdd, Int.reduceSub, ↓reduceIte, reduceCtorEq, htm, c1, vD]
  obtain ⟨_, z1, z2⟩ := timed_zero c1
  rw [if_pos c1]
  rw [c1] at htm
  unfold things
  by_cases a1 : s.stars.any (eq1 id) = true
  · obtain ⟨j, x, h1, h2, h3⟩ := f1.1 a1
    rw [Int.zero_add] at h1
    rw [h3]
    rw [h1] at hc1
    have g0 : (0 : Int) ≤ (j : Int) := by omega
    have g1 : (j : Int) ≥ 0 := by omega
    have gt : ((j : Int)).toNat = j := by omega
    have gl := (List.getElem?_eq_some_iff.1 h2).1
    have gl' : (j : Int) < s.stars.length := by omega
    obtain ⟨i1, ⟨u, v, w⟩, r, wv, p, f, to⟩ := x
    simp only [Try.f28, G, go_sem, Nat.reduceAdd, Nat.reduceSub, Nat.reduceMul, Nat.reduceEqDiff, Nat.reduceBEq, Nat.reduceLT, Nat.reduceLeDiff, Nat.reducePow, Int.reduceToNat, Int.reduceLT, Int.reduceLE, Int.reduceGT, Int.reduceGE, Int.reduceEq, Int.reduceNeg, Int.reduceAdd, Int.reduceSub, ↓reduceIte, reduceCtorEq, htm, hc1, g0, g1, gt, gl', h2, Star.D, vD, dirOf]
  have a1' : s.stars.any (eq1 id) = false := by simpa using a1
  obtain ⟨n1, m1⟩ := f1.2 a1'
  rw [m1]
  rw [n1] at hc1
  by_cases a2 : s.gals.any (eq2 id) = true
  · obtain ⟨j, x, h1, h2, h3⟩ := f2.1 a2
    rw [Int.zero_add] at h1
    rw [h3]
    rw [h1] at hc2
    have g0 : (0 : Int) ≤ (j : Int) := by omega
    have g1 : (j : Int) ≥ 0 := by omega
    have gt : ((j : Int)).toNat = j := by omega
    have gl := (List.getElem?_eq_some_iff.1 h2).1
    have gl' : (j : Int) < s.gals.length := by omega
    obtain ⟨i1, ⟨u, v, w⟩, r, wide, high⟩ := x
    simp only [Try.f28, G, go_sem, Nat.reduceAdd, Nat.reduceSub, Nat.reduceMul, Nat.reduceEqDiff, Nat.reduceBEq, Nat.reduceLT, Nat.reduceLeDiff, Nat.reducePow, Int.reduceToNat, Int.reduceLT, Int.reduceLE, Int.reduceGT, Int.reduceGE, Int.reduceEq, Int.reduceNeg, Int.reduceAdd, Int.reduceSub, ↓reduceIte, reduceCtorEq, htm, hc1, hc2, g0, g1, gt, gl', h2, Gal.D, vD, dirOf]
  have a2' : s.gals.any (eq2 id) = false := by simpa using a2
  obtain ⟨n2, m2⟩ := f2.2 a2'
  rw [m2]
  rw [n2] at hc2
  by_cases a3 : s.bods.any (eq3 id) = true
  case neg =>
    have a3' : s.bods.any (eq3 id) = false := by simpa using a3
    obtain ⟨n3, m3⟩ := f3.2 a3'
    rw [m3]
    rw [n3] at hc3
    simp only [Try.f28, G, go_sem, Nat.reduceAdd, Nat.reduceSub, Nat.reduceMul, Nat.reduceEqDiff, Nat.reduceBEq, Nat.reduceLT, Nat.reduceLeDiff, Nat.reducePow, Int.reduceToNat, Int.reduceLT, Int.reduceLE, Int.reduceGT, Int.reduceGE, Int.reduceEq, Int.reduceNeg, Int.reduceAdd, Int.reduceSub, ↓reduceIte, reduceCtorEq, htm, hc1, hc2, hc3, vD, dirT]
  obtain ⟨j, x, h1, h2, h3⟩ := f3.1 a3
  rw [Int.zero_add] at h1
  rw [h3]
  rw [h1] at hc3
  have g0 : (0 : Int) ≤ (j : Int) := by omega
  have g1 : ¬ (j : Int) < 0 := by omega
  have gt : ((j : Int)).toNat = j := by omega
  have gl := (List.getElem?_eq_some_iff.1 h2).1
  have gl' : (j : Int) < s.bods.length := by omega
  have rh := sPlace_run s.home t ⟨by omega, by omega⟩
  have rb := sPlace_run x t ⟨by omega, by omega⟩
  simp only [dirOf, toBody]
  generalize s.home = hm at *
  generalize placeR hm.2.1 hm.2.2.1 t = A at *
  generalize placeR x.2.1 x.2.2.1 t = B at *
  have rt := sToward_run A.1 B.1
  generalize towardR A.1 B.1 = C at *
  simp only [bD, vD] at htm rh rb rt
  by_cases c2 : A.2 = 0
  case neg =>
    rw [if_neg c2]
    simp only [Try.f28, G, go_sem, Nat.reduceAdd, Nat.reduceSub, Nat.reduceMul, Nat.reduceEqDiff, Nat.reduceBEq, Nat.reduceLT, Nat.reduceLeDiff, Nat.reducePow, Int.reduceToNat, Int.reduceLT, Int.reduceLE, Int.reduceGT, Int.reduceGE, Int.reduceEq, Int.reduceNeg, Int.reduceAdd, Int.reduceSub, ↓reduceIte, reduceCtorEq, htm, hc1, hc2, hc3, g0, g1, gt, gl', h2, bD, vD, rh, c2]
  rw [if_pos c2]
  by_cases c3 : B.2 = 0
  case neg =>
    rw [if_neg c3]
    simp only [Try.f28, G, go_sem, Nat.reduceAdd, Nat.reduceSub, Nat.reduceMul, Nat.reduceEqDiff, Nat.reduceBEq, Nat.reduceLT, Nat.reduceLeDiff, Nat.reducePow, Int.reduceToNat, Int.reduceLT, Int.reduceLE, Int.reduceGT, Int.reduceGE, Int.reduceEq, Int.reduceNeg, Int.reduceAdd, Int.reduceSub, ↓reduceIte, reduceCtorEq, htm, hc1, hc2, hc3, g0, g1, gt, gl', h2, bD, vD, rh, c2, rb, c3]
  rw [if_pos c3]
  simp only [Try.f28, G, go_sem, Nat.reduceAdd, Nat.reduceSub, Nat.reduceMul, Nat.reduceEqDiff, Nat.reduceBEq, Nat.reduceLT, Nat.reduceLeDiff, Nat.reducePow, Int.reduceToNat, Int.reduceLT, Int.reduceLE, Int.reduceGT, Int.reduceGE, Int.reduceEq, Int.reduceNeg, Int.reduceAdd, Int.reduceSub, ↓reduceIte, reduceCtorEq, htm, hc1, hc2, hc3, g0, g1, gt, gl', h2, bD, vD, rh, c2, rb, c3, rt]
theorem dir_ok : SpecOk Try.prog 28 sDir := specC_ok mixed G_ok T_ok fun x h => ⟨_, 2, eDir x.1 x.2.1 x.2.2 h⟩
#print axioms dir_ok
end Go.Proofs.YtmhjmjodchbhlaaR.DirDir
end
section
set_option linter.unusedVariables false
set_option linter.unusedSimpArgs false
set_option maxRecDepth 100000
namespace Go.Proofs.YtmhjmjodchbhlaaR.DirbDir
open Go.Ev Go.Ari Go.Proofs.YtmhjmjodchbhlaaR.FxDir Go.Proofs.YtmhjmjodchbhlaaR.PullPull Go.Proofs.YtmhjmjodchbhlaaR.TypesRate
open Go.Proofs.YtmhjmjodchbhlaaR.FaultRate (Thing things things_len fault fault_zero tickBad)
open Go.Proofs.YtmhjmjodchbhlaaR.PathPath (Bod bD cBod cPath)
open Go.Proofs.YtmhjmjodchbhlaaR.ThingsRate (thD sThings things_ok)
open Go.Proofs.YtmhjmjodchbhlaaR.SkyFRate (okSky sFault skyFault_ok sThings_run thD_ex)
open Go.Proofs.YtmhjmjodchbhlaaR.PlacePlace (sPlace placeB_ok placeR)
open Go.Proofs.YtmhjmjodchbhlaaR.FitDir (sToward sToward_run headed_ok towardR loop_then)
open Go.Proofs.YtmhjmjodchbhlaaR.RateARate (sFault_run timedR sky_D)
open Go.Proofs.YtmhjmjodchbhlaaR.DirDir (toBody dirOf dirT dirR sDir sPlace_run)
attribute [local go_sem] Ev.putR_s Ev.putR_0 Ev.thenO_s Ev.thenO_0 Ev.seqR_n Ev.seqR_e Ev.seqR_r Ev.seqR_0 Ev.blkR_e Ev.blkR_n Ev.blkR_r Ev.blkR_0 Ev.normR_s Ev.normR_0 Ev.outR_r Ev.outR_n Ev.outR_0 Ev.retS_s Ev.retS_0 Ev.pureO_s Ev.pureO_0 Ev.topR_0 Ev.topR_t Ev.topR_t0 Ev.oneL_0 Ev.oneL_s Ev.topR_d Ev.topR_nils Ev.topR_agg Ev.topR_rs Ev.evOp_move Ev.evOp_assign Ev.evOp_pick Ev.evOp_alloc Ev.evOp_box Ev.evOp_build Ev.evOp_buildSlice Ev.evOp_load Ev.evOp_store Ev.evOp_makeMap Ev.evOp_lookup Ev.evOp_mapUpdate Ev.evOp_insert Ev.evOp_nilCheck Ev.evOp_binOp Ev.evOp_unOp Ev.evOp_convert Ev.evOp_makeFunc Ev.evOp_makeSlice Ev.evOp_slice Ev.evOp_fieldAddr Ev.evOp_field Ev.evOp_indexAddr Ev.evOp_index Ev.evOp_extract Ev.evOp_call Ev.evOp_append Ev.evOp_len Ev.evOp_min Ev.evOp_max Ev.condR_b Ev.condR_t Ev.evOps_nil Ev.evOps_plain Ev.evOps_guard Ev.runG_eq Ev.skipG_eq Ev.condL_tt Ev.condL_ff Ev.condL_tf Ev.condL_ft Ev.condL_u Ev.condC_t Ev.condC_f Ev.evC_skip Ev.evC_ret Ev.evC_exit Ev.evC_label Ev.evC_region Ev.evC_draw Ev.evC_seq Ev.evC_cond Ev.evC_block Ev.evC_loop Ev.fin_d Ev.fin_nils Ev.fin_agg_ Ev.fin_rs Ev.finS_s Ev.mapO_fin Ev.upd_upd Ev.argv_d Ev.argv_nils Ev.argv_agg Ev.argv_rs Ev.argv_p Ev.appendTo_nils Ev.appendTo_rs Ev.consV_d Ev.consV_agg Ev.consV_p Ev.consV_rs Ev.consV_nils Ev.consV_fn Ev.consV_und Ev.consV_jk Ev.consV_grown Ev.topR_grown Ev.len_grown Ev.consV_mp Ev.sameK_i Ev.sameK_s Ev.mget_0 Ev.mget_hit Ev.mget_miss Ev.mput_0 Ev.mput_hit Ev.mput_miss Ev.apartAll Ev.apartL Ev.apartV Ev.freeAll Ev.sel Ev.keyOfV Ev.evLookup Ev.evPut Ev.hintOk Ev.keyOk Ev.consP Ev.lookV Ev.guardV Ev.dstAt Ev.evPure Ev.evStore Ev.evPureB Ev.evBin Ev.evBinO Ev.evNil Ev.isNilC Ev.evUn Ev.evConv Ev.evSlice Ev.optI Ev.lenV Ev.elemT Ev.foldI Ev.capsOk Ev.noTup Ev.nth Ev.setN Ev.pad Ev.V.get Ev.V.put Ev.putD Ev.hasT Ev.newBlk Ev.upd Ev.keq Ev.empty Ev.evCall Ev.V.args Ev.argP Ev.callOf Ev.evNilP Ev.isNilP Ev.look Ev.V.view.views Ev.V.view Ev.V.toD Ev.V.toD.V.toDs Ev.V.pure.pures Ev.V.pure Ev.D.flat.flats Ev.D.flat Ev.mkAgg Ev.allD Ev.aggParts Ev.setParts Ev.setElems Ev.getPath Ev.setPath Ev.subL Ev.eqD Ev.eqD.eqDs Ev.and2 Ev.strCut Ev.evalT Ev.constT Ev.evArgs Ev.mask Ev.maskOf Ev.tableOf Ev.compT Ev.resV Ev.retV Ev.mapO Ev.elemsOf Int.cast_ofNat_Int IntWalk.i64_in IntWalk.u64_in IntWalk.u8_in beq_self_eq_true Bool.true_beq Bool.false_beq Bool.and_true Bool.true_and Bool.false_and Bool.and_false Bool.and_self Bool.not_true Bool.not_false Bool.not_eq_true cond_true cond_false if_true if_false and_true true_and and_self decide_true decide_false Bool.or_true Bool.true_or Bool.or_false Bool.false_or List.isEmpty List.isEmpty_nil List.size_toArray List.map List.length_map List.length_cons List.length_nil Option.map Option.bind Option.getD Option.isSome List.replicate Bool.false_eq_true implies_true forall_const Array.toList Array.isEmpty List.append List.nil_append List.cons_append List.drop_zero List.take_length List.take_succ_cons List.take_zero List.take_nil List.getElem?_map List.getElem?_cons_zero List.getElem?_cons_succ List.getElem?_nil List.append_nil
attribute [local go_sem] FxDir.tk2 FxDir.ik2 FxDir.ek2 FxDir.zv2 FxDir.tk3 FxDir.ik3 FxDir.zv3 FxDir.tk4 FxDir.ub4 FxDir.zv4 FxDir.tk23 FxDir.ct23 FxDir.ek23 FxDir.zv23 FxDir.tk27 FxDir.ik27 FxDir.zv27 FxDir.tk37 FxDir.ik37 FxDir.zv37 FxDir.by37 FxDir.so37 FxDir.tk39 FxDir.ct39 FxDir.zv39 FxDir.by39 FxDir.so39 FxDir.tk43 FxDir.zv43 FxDir.tk44 FxDir.zv44 FxDir.tk45 FxDir.zv45 FxDir.tk47 FxDir.ct47 FxDir.zv47 FxDir.tk48 FxDir.ik48 FxDir.zv48 FxDir.tk76 FxDir.ct76 FxDir.zv76 FxDir.by76 FxDir.so76 FxDir.tk77 FxDir.zv77 FxDir.tk79 FxDir.ct79 FxDir.zv79 FxDir.by79 FxDir.so79 FxDir.tk102 FxDir.zv102 FxDir.tk108 FxDir.zv108 FxDir.tk110 FxDir.ek110 FxDir.zv110 FxDir.tk111 FxDir.ek111 FxDir.zv111 FxDir.tk112 FxDir.zv112 FxDir.tk114 FxDir.ct114 FxDir.zv114 FxDir.by114 FxDir.so114 FxDir.tk116 FxDir.zv116 FxDir.tk118 FxDir.zv118 FxDir.mk9_1000000 FxDir.mk28_1000000 FxDir.mk29_0 FxDir.mk29_1000001 FxDir.mk29_1000002 FxDir.mk29_1000003 FxDir.mk29_1000000 FxDir.mk30_1000000 FxDir.mk31_1000000 FxDir.mk72_0 FxDir.mk72_1000001 FxDir.mk72_1000002 FxDir.mk72_1000000 FxDir.mk73_1000000 FxDir.mk74_0 FxDir.mk74_1000001 FxDir.mk74_1000002 FxDir.mk74_1000000 FxDir.mk75_1000000 FxDir.mk76_0 FxDir.mk76_1000001 FxDir.mk76_1000002 FxDir.mk76_1000000 FxDir.mk77_1000000 FxDir.mk78_0 FxDir.mk78_1000001 FxDir.mk78_1000002 FxDir.mk78_1000000
noncomputable def G : Specs := [(41, sFault), (68, sThings), (27, sPlace), (31, sToward)]
noncomputable def T : Table := tableOf [(29, en29)]
theorem G_ok : ∀ g s, Ev.look G g = some s → SpecOk Try.prog g s := specs_cons skyFault_ok (specs_cons things_ok (specs_cons placeB_ok (specs_cons headed_ok specs_nil)))
theorem T_ok : TableOk Try.prog (G.map (·.1)) T := (table_cons Try.func29 (by kernel_rfl) (by kernel_rfl) table_nil)
def box (s : Sky) : Blk := ⟨1, 47, [.d s.D], true⟩
def p3 : V := .p (0, 3) 1 0 []
def p6 : V := .p (0, 6) 1 0 []
def blk (v : Vec) : Blk := ⟨1, 23, [.d (vD v)], true⟩
def hd (id t : Int) (l : List Thing) (i : Nat) : List V := hd29_0 (.d (.int .i64 id)) (.d (.int .i64 t)) p3 p6 (.d (.sl 114 (l.map thD))) (.d (.int .i64 l.length)) (.d (.int .i64 i))
theorem drop_at {s : Sky} {l : List Thing} {n : Nat} {x : Thing} {a : Vec × Int} {id t : Int} (h : l[n]? = some x) (hf : a = dirT s id t (l.drop n)) : (x.id = id → a = dirOf s t x) ∧ (¬ x.id = id → a = dirT s id t (l.drop (n + 1))) := by
  obtain ⟨h1, h2⟩ := List.getElem?_eq_some_iff.1 h
  rw [List.drop_eq_getElem_cons h1, h2, dirT] at hf
  exact ⟨fun q => by rw [hf, if_pos q], fun q => by rw [hf, if_neg q]⟩
def J (s : Sky) (id t : Int) (l : List Thing) (x : Nat × Store) : Prop := x.1 ≤ l.length ∧ x.2 (0, 3) = box s ∧ x.2 (0, 6) = blk (0, 0, 0) ∧ dirT s id t l = dirT s id t (l.drop x.1)
def Q (s : Sky) (id t : Int) (l : List Thing) (x : Nat × Store) (o : Out) : Prop := ∃ st', (o = some (.exit 0, hx29_0 p6, st') ∧ st' (0, 6) = blk (0, 0, 0) ∧ dirT s id t l = ((0, 0, 0), 8)) ∨ (o = some (.ret, hr29 p6 (.d (.int .i64 (dirT s id t l).2)), st') ∧ st' (0, 6) = blk (dirT s id t l).1)
theorem loop (L : Nat) (call : Caller) (s : Sky) (id t : Int) (l : List Thing) (hl : l.length ≤ 40) (hz : -17592186044416 ≤ t ∧ t ≤ 17592186044416) :
    ∀ (m : Nat) (x : Nat × Store) (env : List V), J s id t l x → l.length - x.1 < m → mask (maskOf en29.ms 0) env = hd id t l x.1 →
      Q s id t l x (iter (evC Try.prog G call L en29.ms 0 0 lb29_0) (maskOf en29.ms 0) m env x.2) := by
  refine iter_rel _ _ (J s id t l) (fun x => hd id t l x.1) (fun x => x.2) (Q s id t l) (fun x => l.length - x.1) ?_
  rintro ⟨i, st⟩ ⟨hi, q3, q6, qr⟩ k hk
  simp only at hi q3 q6 qr
  by_cases hin : i < l.length
  case neg =>
    obtain rfl : i = l.length := by omega
    have hlt : ¬ (l.length : Int) < l.length := by omega
    rw [List.drop_length] at qr
    refine ⟨st, .inl ⟨?_, q6, qr⟩⟩
    simp only [lb29_0, loopN, loops, hd, p3, p6, hd29_0, hx29_0, Try.f29, go_sem, Nat.reduceAdd, Nat.reduceSub, Nat.reduceMul, Nat.reduceEqDiff, Nat.reduceBEq, Nat.reduceLT, Nat.reduceLeDiff, Nat.reducePow, Int.reduceToNat, Int.reduceLT, Int.reduceLE, Int.reduceGT, Int.reduceGE, Int.reduceEq, Int.reduceNeg, Int.reduceAdd, Int.reduceSub, ↓reduceIte, reduceCtorEq, hlt]
  have hlt : (i : Int) < l.length := by omega
  have hx : l[i]? = some l[i] := by simp [hin]
  have g0 : (0 : Int) ≤ (i : Int) := by omega
  have ht : ((i : Int)).toNat = i := by omega
  have hw1 : IntKind.i64.wrap ((i : Int) + 1) = ((i + 1 : Nat) : Int) := by rw [IntWalk.i64_in _ (by omega)]; rfl
  obtain ⟨hd0, hd1⟩ := drop_at hx qr
  generalize l[i] = x at *
  have hret : Thing.id x = id → ∀ st1, st1 (0, 6) = blk (dirOf s t x).1 → Q s id t l (i, st) (some (.ret, hr29 p6 (.d (.int .i64 (dirOf s t x).2)), st1)) := fun h1 st1 h2 => ⟨st1, .inr ⟨by rw [hd0 h1], by rw [hd0 h1]; exact h2⟩⟩
  have hgo : ¬ Thing.id x = id → ∀ st1 env, st1 (0, 3) = box s → st1 (0, 6) = blk (0, 0, 0) → mask (maskOf en29.ms 0) env = hd id t l (i + 1) → Q s id t l (i, st) (k env st1) := fun h1 st1 env h2 h3 h4 =>
    (hk (i + 1, st1) env ⟨by simp only; omega, h2, h3, hd1 h1⟩ (by simp only; omega) h4 : Q s id t l (i + 1, st1) _)
  by_cases c1 : x.id = id
  case neg =>
    have hq := hgo c1
    have d1 : decide (x.id = id) = false := decide_eq_false c1
    obtain ⟨a, b, c, hth⟩ := thD_ex x
    simp only [lb29_0, loopN, loops, hd, p3, p6, hd29_0, Try.f29, G, go_sem, Nat.reduceAdd, Nat.reduceSub, Nat.reduceMul, Nat.reduceEqDiff, Nat.reduceBEq, Nat.reduceLT, Nat.reduceLeDiff, Nat.reducePow, Int.reduceToNat, Int.reduceLT, Int.reduceLE, Int.reduceGT, Int.reduceGE, Int.reduceEq, Int.reduceNeg, Int.reduceAdd, Int.reduceSub, ↓reduceIte, reduceCtorEq, hlt, hx, hth, g0, ht, d1, hw1]
    exact hq _ _ (by simp only [go_sem, Nat.reduceAdd, Nat.reduceSub, Nat.reduceMul, Nat.reduceEqDiff, Nat.reduceBEq, Nat.reduceLT, Nat.reduceLeDiff, Nat.reducePow, Int.reduceToNat, Int.reduceLT, Int.reduceLE, Int.reduceGT, Int.reduceGE, Int.reduceEq, Int.reduceNeg, Int.reduceAdd, Int.reduceSub, ↓reduceIte, reduceCtorEq, q3]) (by simp only [go_sem, Nat.reduceAdd, Nat.reduceSub, Nat.reduceMul, Nat.reduceEqDiff, Nat.reduceBEq, Nat.reduceLT, Nat.reduceLeDiff, Nat.reducePow, Int.reduceToNat, Int.reduceLT, Int.reduceLE, Int.reduceGT, Int.reduceGE, Int.reduceEq, Int.reduceNeg, Int.reduceAdd, Int.reduceSub, ↓reduceIte, reduceCtorEq, q6]) (by simp only [hd, p3, p6, hd29_0, go_sem, Nat.reduceAdd, Nat.reduceSub, Nat.reduceMul, Nat.reduceEqDiff, Nat.reduceBEq, Nat.reduceLT, Nat.reduceLeDiff, Nat.reducePow, Int.reduceToNat, Int.reduceLT, Int.reduceLE, Int.reduceGT, Int.reduceGE, Int.reduceEq, Int.reduceNeg, Int.reduceAdd, Int.reduceSub, ↓reduceIte, reduceCtorEq, hw1])
  have hq := hret c1
  clear hret hgo hd0 hd1
  cases x with
  | ga y =>
    obtain ⟨i1, ⟨u, v, w⟩, r, wide, high⟩ := y
    simp only [Thing.id, dirOf, p6] at c1 hq
    have d1 : decide (i1 = id) = true := decide_eq_true c1
    simp only [lb29_0, loopN, loops, hd, p3, p6, hd29_0, Try.f29, G, go_sem, Nat.reduceAdd, Nat.reduceSub, Nat.reduceMul, Nat.reduceEqDiff, Nat.reduceBEq, Nat.reduceLT, Nat.reduceLeDiff, Nat.reducePow, Int.reduceToNat, Int.reduceLT, Int.reduceLE, Int.reduceGT, Int.reduceGE, Int.reduceEq, Int.reduceNeg, Int.reduceAdd, Int.reduceSub, ↓reduceIte, reduceCtorEq, hlt, hx, thD, Gal.D, vD, g0, ht, d1, hw1, q6, blk]
    exact hq _ (by simp only [go_sem, Nat.reduceAdd, Nat.reduceSub, Nat.reduceMul, Nat.reduceEqDiff, Nat.reduceBEq, Nat.reduceLT, Nat.reduceLeDiff, Nat.reducePow, Int.reduceToNat, Int.reduceLT, Int.reduceLE, Int.reduceGT, Int.reduceGE, Int.reduceEq, Int.reduceNeg, Int.reduceAdd, Int.reduceSub, ↓reduceIte, reduceCtorEq, blk, vD])
  | st y =>
    obtain ⟨i1, ⟨u, v, w⟩, r, wv, p, f, to⟩ := y
    simp only [Thing.id, dirOf, p6] at c1 hq
    have d1 : decide (i1 = id) = true := decide_eq_true c1
    simp only [lb29_0, loopN, loops, hd, p3, p6, hd29_0, Try.f29, G, go_sem, Nat.reduceAdd, Nat.reduceSub, Nat.reduceMul, Nat.reduceEqDiff, Nat.reduceBEq, Nat.reduceLT, Nat.reduceLeDiff, Nat.reducePow, Int.reduceToNat, Int.reduceLT, Int.reduceLE, Int.reduceGT, Int.reduceGE, Int.reduceEq, Int.reduceNeg, Int.reduceAdd, Int.reduceSub, ↓reduceIte, reduceCtorEq, hlt, hx, thD, Star.D, vD, g0, ht, d1, hw1, q6, blk]
    exact hq _ (by simp only [go_sem, Nat.reduceAdd, Nat.reduceSub, Nat.reduceMul, Nat.reduceEqDiff, Nat.reduceBEq, Nat.reduceLT, Nat.reduceLeDiff, Nat.reducePow, Int.reduceToNat, Int.reduceLT, Int.reduceLE, Int.reduceGT, Int.reduceGE, Int.reduceEq, Int.reduceNeg, Int.reduceAdd, Int.reduceSub, ↓reduceIte, reduceCtorEq, blk, vD])
  | bo y =>
    have d1 : decide (y.1 = id) = true := decide_eq_true c1
    have rh := sPlace_run s.home t ⟨by omega, by omega⟩
    have rb := sPlace_run y t ⟨by omega, by omega⟩
    have hB : box s = ⟨1, 47, [.d s.D], true⟩ := rfl
    rw [sky_D] at hB
    rw [hB] at q3
    simp only [dirOf, toBody, p6] at hq
    generalize s.home = hm at *
    generalize placeR hm.2.1 hm.2.2.1 t = A at *
    generalize placeR y.2.1 y.2.2.1 t = B at *
    have rt := sToward_run A.1 B.1
    generalize towardR A.1 B.1 = C at *
    simp only [bD, vD] at q3 rh rb rt
    by_cases c2 : A.2 = 0
    case neg =>
      rw [if_neg c2] at hq
      simp only [lb29_0, loopN, loops, hd, p3, p6, hd29_0, Try.f29, G, go_sem, Nat.reduceAdd, Nat.reduceSub, Nat.reduceMul, Nat.reduceEqDiff, Nat.reduceBEq, Nat.reduceLT, Nat.reduceLeDiff, Nat.reducePow, Int.reduceToNat, Int.reduceLT, Int.reduceLE, Int.reduceGT, Int.reduceGE, Int.reduceEq, Int.reduceNeg, Int.reduceAdd, Int.reduceSub, ↓reduceIte, reduceCtorEq, hlt, hx, thD, bD, vD, g0, ht, d1, hw1, q3, q6, blk, rh, c2]
      exact hq _ (by simp only [go_sem, Nat.reduceAdd, Nat.reduceSub, Nat.reduceMul, Nat.reduceEqDiff, Nat.reduceBEq, Nat.reduceLT, Nat.reduceLeDiff, Nat.reducePow, Int.reduceToNat, Int.reduceLT, Int.reduceLE, Int.reduceGT, Int.reduceGE, Int.reduceEq, Int.reduceNeg, Int.reduceAdd, Int.reduceSub, ↓reduceIte, reduceCtorEq, blk, vD])
    rw [if_pos c2] at hq
    by_cases c3 : B.2 = 0
    case neg =>
      rw [if_neg c3] at hq
      simp only [lb29_0, loopN, loops, hd, p3, p6, hd29_0, Try.f29, G, go_sem, Nat.reduceAdd, Nat.reduceSub, Nat.reduceMul, Nat.reduceEqDiff, Nat.reduceBEq, Nat.reduceLT, Nat.reduceLeDiff, Nat.reducePow, Int.reduceToNat, Int.reduceLT, Int.reduceLE, Int.reduceGT, Int.reduceGE, Int.reduceEq, Int.reduceNeg, Int.reduceAdd, Int.reduceSub, ↓reduceIte, reduceCtorEq, hlt, hx, thD, bD, vD, g0, ht, d1, hw1, q3, q6, blk, rh, c2, rb, c3]
      exact hq _ (by simp only [go_sem, Nat.reduceAdd, Nat.reduceSub, Nat.reduceMul, Nat.reduceEqDiff, Nat.reduceBEq, Nat.reduceLT, Nat.reduceLeDiff, Nat.reducePow, Int.reduceToNat, Int.reduceLT, Int.reduceLE, Int.reduceGT, Int.reduceGE, Int.reduceEq, Int.reduceNeg, Int.reduceAdd, Int.reduceSub, ↓reduceIte, reduceCtorEq, blk, vD])
    rw [if_pos c3] at hq
    simp only [lb29_0, loopN, loops, hd, p3, p6, hd29_0, Try.f29, G, go_sem, Nat.reduceAdd, Nat.reduceSub, Nat.reduceMul, Nat.reduceEqDiff, Nat.reduceBEq, Nat.reduceLT, Nat.reduceLeDiff, Nat.reducePow, Int.reduceToNat, Int.reduceLT, Int.reduceLE, Int.reduceGT, Int.reduceGE, Int.reduceEq, Int.reduceNeg, Int.reduceAdd, Int.reduceSub, ↓reduceIte, reduceCtorEq, hlt, hx, thD, bD, vD, g0, ht, d1, hw1, q3, q6, blk, rh, c2, rb, c3, rt]
    exact hq _ (by simp only [go_sem, Nat.reduceAdd, Nat.reduceSub, Nat.reduceMul, Nat.reduceEqDiff, Nat.reduceBEq, Nat.reduceLT, Nat.reduceLeDiff, Nat.reducePow, Int.reduceToNat, Int.reduceLT, Int.reduceLE, Int.reduceGT, Int.reduceGE, Int.reduceEq, Int.reduceNeg, Int.reduceAdd, Int.reduceSub, ↓reduceIte, reduceCtorEq, blk, vD])
theorem eDirected (s : Sky) (id t : Int) (hs : okSky s) : evTop Try.prog G T 41 1 29 [s.D, .int .i64 id, .int .i64 t] = some [vD (dirR s id t).1, .int .i64 (dirR s id t).2] := by
  have hf := sFault_run s hs
  have hth := sThings_run s hs.1
  have hlen := things_len s
  have hB : box s = ⟨1, 47, [.d s.D], true⟩ := rfl
  rw [sky_D] at hf hth hB ⊢
  unfold dirR timedR
  unfold evTop
  simp only [List.map]
  rw [evF_s (fn := Try.f29) (msk := en29.ms) (hT := by rfl) (hb := by rfl)]
  by_cases c1 : fault s = 0
  case neg =>
    rw [if_neg c1, if_neg c1]
    generalize fault s = e at *
    simp only [Try.f29, G, go_sem, Nat.reduceAdd, Nat.reduceSub, Nat.reduceMul, Nat.reduceEqDiff, Nat.reduceBEq, Nat.reduceLT, Nat.reduceLeDiff, Nat.reducePow, Int.reduceToNat, Int.reduceLT, Int.reduceLE, Int.reduceGT, Int.reduceGE, Int.reduceEq, Int.reduceNeg, Int.reduceAdd, Int.reduceSub, ↓reduceIte, reduceCtorEq, hf, c1, vD]
  have h40 := (fault_zero c1).2.2
  rw [if_pos c1]
  rw [c1] at hf
  by_cases c2 : t < -17592186044416
  · have h2 : tickBad t = true := by simp [tickBad, c2]
    rw [if_pos h2]
    simp only [Try.f29, G, go_sem, Nat.reduceAdd, Nat.reduceSub, Nat.reduceMul, Nat.reduceEqDiff, Nat.reduceBEq, Nat.reduceLT, Nat.reduceLeDiff, Nat.reducePow, Int.reduceToNat, Int.reduceLT, Int.reduceLE, Int.reduceGT, Int.reduceGE, Int.reduceEq, Int.reduceNeg, Int.reduceAdd, Int.reduceSub, ↓reduceIte, reduceCtorEq, hf, c2, vD]
  by_cases c3 : t > 17592186044416
  · have h2 : tickBad t = true := by simp [tickBad, c3]
    rw [if_pos h2]
    simp only [Try.f29, G, go_sem, Nat.reduceAdd, Nat.reduceSub, Nat.reduceMul, Nat.reduceEqDiff, Nat.reduceBEq, Nat.reduceLT, Nat.reduceLeDiff, Nat.reducePow, Int.reduceToNat, Int.reduceLT, Int.reduceLE, Int.reduceGT, Int.reduceGE, Int.reduceEq, Int.reduceNeg, Int.reduceAdd, Int.reduceSub, ↓reduceIte, reduceCtorEq, hf, c2, c3, vD]
  have h2 : ¬ tickBad t = true := by simp only [tickBad, c2, c3, decide_false, Bool.or_false, Bool.false_eq_true, not_false_iff]
  rw [if_neg h2, if_pos rfl]
  have l0 := fun call => loop 41 call s id t (things s) (by omega) ⟨by omega, by omega⟩
  generalize things s = l at *
  simp only [Try.f29, G, go_sem, Nat.reduceAdd, Nat.reduceSub, Nat.reduceMul, Nat.reduceEqDiff, Nat.reduceBEq, Nat.reduceLT, Nat.reduceLeDiff, Nat.reducePow, Int.reduceToNat, Int.reduceLT, Int.reduceLE, Int.reduceGT, Int.reduceGE, Int.reduceEq, Int.reduceNeg, Int.reduceAdd, Int.reduceSub, ↓reduceIte, reduceCtorEq, hf, hth, c2, c3]
  refine loop_then (R := Q s id t l (0, _)) (l0 _ _ (0, _) _ ⟨by simp only; omega, by simp only [go_sem, Nat.reduceAdd, Nat.reduceSub, Nat.reduceMul, Nat.reduceEqDiff, Nat.reduceBEq, Nat.reduceLT, Nat.reduceLeDiff, Nat.reducePow, Int.reduceToNat, Int.reduceLT, Int.reduceLE, Int.reduceGT, Int.reduceGE, Int.reduceEq, Int.reduceNeg, Int.reduceAdd, Int.reduceSub, ↓reduceIte, reduceCtorEq, hB], by simp only [go_sem, Nat.reduceAdd, Nat.reduceSub, Nat.reduceMul, Nat.reduceEqDiff, Nat.reduceBEq, Nat.reduceLT, Nat.reduceLeDiff, Nat.reducePow, Int.reduceToNat, Int.reduceLT, Int.reduceLE, Int.reduceGT, Int.reduceGE, Int.reduceEq, Int.reduceNeg, Int.reduceAdd, Int.reduceSub, ↓reduceIte, reduceCtorEq, blk, vD], rfl⟩ (by simp only; omega) (by simp only [hd, p3, p6, hd29_0, go_sem, Nat.reduceAdd, Nat.reduceSub, Nat.reduceMul, Nat.reduceEqDiff, Nat.reduceBEq, Nat.reduceLT, Nat.reduceLeDiff, Nat.reducePow, Int.reduceToNat, Int.reduceLT, Int.reduceLE, Int.reduceGT, Int.reduceGE, Int.reduceEq, Int.reduceNeg, Int.reduceAdd, Int.reduceSub, ↓reduceIte, reduceCtorEq])) ?_
  rintro o ⟨st1, ⟨rfl, q6, qr⟩ | ⟨rfl, q6⟩⟩
  case inr =>
    generalize dirT s id t l = A at *
    simp only [hr29, p6, go_sem, Nat.reduceAdd, Nat.reduceSub, Nat.reduceMul, Nat.reduceEqDiff, Nat.reduceBEq, Nat.reduceLT, Nat.reduceLeDiff, Nat.reducePow, Int.reduceToNat, Int.reduceLT, Int.reduceLE, Int.reduceGT, Int.reduceGE, Int.reduceEq, Int.reduceNeg, Int.reduceAdd, Int.reduceSub, ↓reduceIte, reduceCtorEq, q6, blk, vD]
  rw [qr]
  simp only [hx29_0, p6, go_sem, Nat.reduceAdd, Nat.reduceSub, Nat.reduceMul, Nat.reduceEqDiff, Nat.reduceBEq, Nat.reduceLT, Nat.reduceLeDiff, Nat.reducePow, Int.reduceToNat, Int.reduceLT, Int.reduceLE, Int.reduceGT, Int.reduceGE, Int.reduceEq, Int.reduceNeg, Int.reduceAdd, Int.reduceSub, ↓reduceIte, reduceCtorEq, q6, blk, vD]
theorem directed_ok : SpecOk Try.prog 29 sDir := specC_ok mixed G_ok T_ok fun x h => ⟨_, 1, eDirected x.1 x.2.1 x.2.2 h⟩
#print axioms directed_ok
end Go.Proofs.YtmhjmjodchbhlaaR.DirbDir
end
section
set_option linter.unusedVariables false
set_option linter.unusedSimpArgs false
namespace Go.Proofs.YtmhjmjodchbhlaaR.SkyInRate
open Go.Ev Go.Proofs.YtmhjmjodchbhlaaR.PullPull Go.Proofs.YtmhjmjodchbhlaaR.TypesRate Go.Proofs.YtmhjmjodchbhlaaR.FaultRate
open Go.Proofs.YtmhjmjodchbhlaaR.PathPath (Bod bD)
open Go.Proofs.YtmhjmjodchbhlaaR.SkyFRate (okSky)
abbrev V3 := Int × Int × Int × Unit
abbrev TS := Int × V3 × Int × List Int × Int × Int × Int × Unit
abbrev TG := Int × V3 × Int × Int × Int × Unit
abbrev TB := Int × V3 × V3 × Int × Unit
def toStar (y : TS) : Star := ⟨y.1, (y.2.1.1, y.2.1.2.1, y.2.1.2.2.1), y.2.2.1, y.2.2.2.1, y.2.2.2.2.1, y.2.2.2.2.2.1, y.2.2.2.2.2.2.1⟩
def toGal (y : TG) : Gal := ⟨y.1, (y.2.1.1, y.2.1.2.1, y.2.1.2.2.1), y.2.2.1, y.2.2.2.1, y.2.2.2.2.1⟩
def toBod (y : TB) : Bod := (y.1, (y.2.1.1, y.2.1.2.1, y.2.1.2.2.1), (y.2.2.1.1, y.2.2.1.2.1, y.2.2.1.2.2.1), y.2.2.2.1)
theorem st_map (l : List TS) : l.map (fun y : TS => D.agg 79 [.int .i64 y.1, D.agg 23 [.int .i64 y.2.1.1, .int .i64 y.2.1.2.1, .int .i64 y.2.1.2.2.1], .int .i64 y.2.2.1, D.sl 37 (y.2.2.2.1.map (.int .i64)), .int .i64 y.2.2.2.2.1, .int .i64 y.2.2.2.2.2.1, .int .i64 y.2.2.2.2.2.2.1]) = (l.map toStar).map Star.D := by rw [List.map_map]; rfl
theorem ga_map (l : List TG) : l.map (fun y : TG => D.agg 76 [.int .i64 y.1, D.agg 23 [.int .i64 y.2.1.1, .int .i64 y.2.1.2.1, .int .i64 y.2.1.2.2.1], .int .i64 y.2.2.1, .int .i64 y.2.2.2.1, .int .i64 y.2.2.2.2.1]) = (l.map toGal).map Gal.D := by rw [List.map_map]; rfl
theorem bo_map (l : List TB) : l.map (fun y : TB => D.agg 39 [.int .i64 y.1, D.agg 23 [.int .i64 y.2.1.1, .int .i64 y.2.1.2.1, .int .i64 y.2.1.2.2.1], D.agg 23 [.int .i64 y.2.2.1.1, .int .i64 y.2.2.1.2.1, .int .i64 y.2.2.1.2.2.1], .int .i64 y.2.2.2.1]) = (l.map toBod).map bD := by rw [List.map_map]; rfl
theorem ok_in {b : Int} {l : List TS} {g : List TG} {o : List TB} {h : Bod} (h1 : l.length ≤ 1048576) (h2 : ∀ y ∈ l, y.2.2.2.1.length ≤ 1048576) (h3 : g.length ≤ 1048576) (h4 : o.length ≤ 1048576) : okSky ⟨b, l.map toStar, g.map toGal, o.map toBod, h⟩ := by
  refine ⟨⟨by simpa using h1, by simpa using h3, by simpa using h4⟩, fun x hx => ?_⟩
  obtain ⟨y, hy, rfl⟩ := List.mem_map.1 hx
  exact h2 y hy
end Go.Proofs.YtmhjmjodchbhlaaR.SkyInRate
end
section
set_option linter.unusedVariables false
set_option maxRecDepth 1000000
namespace Go.Proofs.YtmhjmjodchbhlaaR.SkiesPull
open Go.Ev Go.Proofs.YtmhjmjodchbhlaaR.FxPull Go.Proofs.YtmhjmjodchbhlaaR.PullPull
/-- A function of no arguments whose answer is known. -/
def known (r : List D) : Ev.Spec := ⟨fun xs => match xs with | [] => some r | _ => none⟩
theorem known_run (r : List D) : (known r).run [] = some r := rfl
theorem known_ok {G : Specs} {T : Table} {f : FuncId} {r : List D} (L c : Nat) (hG : ∀ g s, Ev.look G g = some s → SpecOk Try.prog g s) (hT : TableOk Try.prog (G.map (·.1)) T) (h : evTop Try.prog G T L c f [] = some r) : SpecOk Try.prog f (known r) :=
  spec_of_ev mixed hG hT fun xs rs hr => by
    simp only [known] at hr
    split at hr
    · cases hr; exact ⟨L, c, h⟩
    · cases hr
/-- The part's contract, as the kernel can run it. -/
def sPartC : Ev.Spec := ⟨fun xs => match xs with | [.int .i64 x, .ptr (.int .i64 r)] => if -4194304 ≤ x ∧ x ≤ 4194304 ∧ 65536 ≤ r ∧ r < 1073741824 then some [.int .i64 (plx r x)] else none | _ => none⟩
theorem sPartC_ok : SpecOk Try.prog 48 sPartC := sPart_ok.weak fun xs rs h => by
  simp only [sPartC] at h
  split at h
  · split at h
    · rename_i hp
      cases h
      exact sPart_run _ _ hp
    · cases h
  · cases h
def G0 : Specs := [(48, sPartC)]
theorem G0_ok : ∀ g s, Ev.look G0 g = some s → SpecOk Try.prog g s := specs_cons sPartC_ok specs_nil
noncomputable def T0 : Table := tableOf [(14, en14), (30, en30), (46, en46), (78, en78), (93, en93), (15, en15), (47, en47), (98, en98), (101, en101), (40, en40)]
theorem e0 : evTop Try.prog G0 T0 70 9 14 [] = some [.bool true] := by kernel_rfl
theorem T0_ok : TableOk Try.prog (G0.map (·.1)) T0 := (table_cons Try.func14 (by kernel_rfl) (by kernel_rfl) (table_cons Try.func30 (by kernel_rfl) (by kernel_rfl) (table_cons Try.func46 (by kernel_rfl) (by kernel_rfl) (table_cons Try.func78 (by kernel_rfl) (by kernel_rfl) (table_cons Try.func93 (by kernel_rfl) (by kernel_rfl) (table_cons Try.func15 (by kernel_rfl) (by kernel_rfl) (table_cons Try.func47 (by kernel_rfl) (by kernel_rfl) (table_cons Try.func98 (by kernel_rfl) (by kernel_rfl) (table_cons Try.func101 (by kernel_rfl) (by kernel_rfl) (table_cons Try.func40 (by kernel_rfl) (by kernel_rfl) table_nil))))))))))
theorem skies_ok : SpecOk Try.prog 14 (known [.bool true]) := known_ok 70 9 G0_ok T0_ok e0
#print axioms skies_ok
end Go.Proofs.YtmhjmjodchbhlaaR.SkiesPull
end
