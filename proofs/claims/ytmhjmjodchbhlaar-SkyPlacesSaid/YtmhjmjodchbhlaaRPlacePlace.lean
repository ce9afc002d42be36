/- sky.Place and the document's Placed: the place of a body at a time. -/
import Derived.Test.YtmhjmjodchbhlaaRFloorPlace
set_option linter.unusedVariables false
set_option linter.unusedSimpArgs false
set_option maxRecDepth 100000
namespace Go.Proofs.YtmhjmjodchbhlaaR.PlacePlace
open Go.Ev Go.Ari Go.Proofs.YtmhjmjodchbhlaaR.FxPlace Go.Proofs.YtmhjmjodchbhlaaR.PullPull Go.Proofs.YtmhjmjodchbhlaaR.Pull2Pull Go.Proofs.YtmhjmjodchbhlaaR.FloorPlace
open Go.Proofs.YtmhjmjodchbhlaaR.PathPath (St nx tr sw tr_go tr_stop tr_back zV pathS pathR Bod bD cBod cPath sPath path_ok step_run row)
open Go.Proofs.YtmhjmjodchbhlaaR.PathePath (pathd_ok)
attribute [local go_sem] Go.Ev.putR_s Go.Ev.putR_0 Go.Ev.thenO_s Go.Ev.thenO_0 Go.Ev.seqR_n Go.Ev.seqR_e Go.Ev.seqR_r Go.Ev.seqR_0 Go.Ev.blkR_e Go.Ev.blkR_n Go.Ev.blkR_r Go.Ev.blkR_0 Go.Ev.normR_s Go.Ev.normR_0 Go.Ev.outR_r Go.Ev.outR_n Go.Ev.outR_0 Go.Ev.retS_s Go.Ev.retS_0 Go.Ev.pureO_s Go.Ev.pureO_0 Go.Ev.topR_0 Go.Ev.topR_t Go.Ev.topR_t0 Go.Ev.oneL_0 Go.Ev.oneL_s Go.Ev.topR_d Go.Ev.topR_nils Go.Ev.topR_agg Go.Ev.topR_rs Go.Ev.evOp_move Go.Ev.evOp_assign Go.Ev.evOp_pick Go.Ev.evOp_alloc Go.Ev.evOp_box Go.Ev.evOp_build Go.Ev.evOp_buildSlice Go.Ev.evOp_load Go.Ev.evOp_store Go.Ev.evOp_makeMap Go.Ev.evOp_lookup Go.Ev.evOp_mapUpdate Go.Ev.evOp_insert Go.Ev.evOp_nilCheck Go.Ev.evOp_binOp Go.Ev.evOp_unOp Go.Ev.evOp_convert Go.Ev.evOp_makeFunc Go.Ev.evOp_makeSlice Go.Ev.evOp_slice Go.Ev.evOp_fieldAddr Go.Ev.evOp_field Go.Ev.evOp_indexAddr Go.Ev.evOp_index Go.Ev.evOp_extract Go.Ev.evOp_call Go.Ev.evOp_append Go.Ev.evOp_len Go.Ev.evOp_min Go.Ev.evOp_max Go.Ev.condR_b Go.Ev.condR_t Go.Ev.evOps_nil Go.Ev.evOps_plain Go.Ev.evOps_guard Go.Ev.runG_eq Go.Ev.skipG_eq Go.Ev.condL_tt Go.Ev.condL_ff Go.Ev.condL_tf Go.Ev.condL_ft Go.Ev.condL_u Go.Ev.condC_t Go.Ev.condC_f Go.Ev.evC_skip Go.Ev.evC_ret Go.Ev.evC_exit Go.Ev.evC_label Go.Ev.evC_region Go.Ev.evC_draw Go.Ev.evC_seq Go.Ev.evC_cond Go.Ev.evC_block Go.Ev.evC_loop Go.Ev.fin_d Go.Ev.fin_nils Go.Ev.fin_agg_ Go.Ev.fin_rs Go.Ev.finS_s Go.Ev.mapO_fin Go.Ev.upd_upd Go.Ev.argv_d Go.Ev.argv_nils Go.Ev.argv_agg Go.Ev.argv_rs Go.Ev.argv_p Go.Ev.appendTo_nils Go.Ev.appendTo_rs Go.Ev.consV_d Go.Ev.consV_agg Go.Ev.consV_p Go.Ev.consV_rs Go.Ev.consV_nils Go.Ev.consV_fn Go.Ev.consV_und Go.Ev.consV_jk Go.Ev.consV_grown Go.Ev.topR_grown Go.Ev.len_grown Go.Ev.consV_mp Go.Ev.sameK_i Go.Ev.sameK_s Go.Ev.mget_0 Go.Ev.mget_hit Go.Ev.mget_miss Go.Ev.mput_0 Go.Ev.mput_hit Go.Ev.mput_miss Go.Ev.apartAll Go.Ev.apartL Go.Ev.apartV Go.Ev.freeAll Go.Ev.sel Go.Ev.keyOfV Go.Ev.evLookup Go.Ev.evPut Go.Ev.hintOk Go.Ev.keyOk Go.Ev.consP Go.Ev.lookV Go.Ev.guardV Go.Ev.dstAt Go.Ev.evPure Go.Ev.evStore Go.Ev.evPureB Go.Ev.evBin Go.Ev.evBinO Go.Ev.evNil Go.Ev.isNilC Go.Ev.evUn Go.Ev.evConv Go.Ev.evSlice Go.Ev.optI Go.Ev.lenV Go.Ev.elemT Go.Ev.foldI Go.Ev.capsOk Go.Ev.noTup Go.Ev.nth Go.Ev.setN Go.Ev.pad Go.Ev.V.get Go.Ev.V.put Go.Ev.putD Go.Ev.hasT Go.Ev.newBlk Go.Ev.upd Go.Ev.keq Go.Ev.empty Go.Ev.evCall Go.Ev.V.args Go.Ev.argP Go.Ev.callOf Go.Ev.evNilP Go.Ev.isNilP Go.Ev.look Go.Ev.V.view.views Go.Ev.V.view Go.Ev.V.toD Go.Ev.V.toD.V.toDs Go.Ev.V.pure.pures Go.Ev.V.pure Go.Ev.D.flat.flats Go.Ev.D.flat Go.Ev.mkAgg Go.Ev.allD Go.Ev.aggParts Go.Ev.setParts Go.Ev.setElems Go.Ev.getPath Go.Ev.setPath Go.Ev.subL Go.Ev.eqD Go.Ev.eqD.eqDs Go.Ev.and2 Go.Ev.strCut Go.Ev.evalT Go.Ev.constT Go.Ev.evArgs Go.Ev.mask Go.Ev.maskOf Go.Ev.tableOf Go.Ev.compT Go.Ev.resV Go.Ev.retV Go.Ev.mapO Go.Ev.elemsOf
attribute [local go_sem] Go.Proofs.YtmhjmjodchbhlaaR.FxPlace.tk2 Go.Proofs.YtmhjmjodchbhlaaR.FxPlace.ik2 Go.Proofs.YtmhjmjodchbhlaaR.FxPlace.ek2 Go.Proofs.YtmhjmjodchbhlaaR.FxPlace.zv2 Go.Proofs.YtmhjmjodchbhlaaR.FxPlace.tk3 Go.Proofs.YtmhjmjodchbhlaaR.FxPlace.ik3 Go.Proofs.YtmhjmjodchbhlaaR.FxPlace.zv3 Go.Proofs.YtmhjmjodchbhlaaR.FxPlace.tk4 Go.Proofs.YtmhjmjodchbhlaaR.FxPlace.ub4 Go.Proofs.YtmhjmjodchbhlaaR.FxPlace.zv4 Go.Proofs.YtmhjmjodchbhlaaR.FxPlace.tk23 Go.Proofs.YtmhjmjodchbhlaaR.FxPlace.ct23 Go.Proofs.YtmhjmjodchbhlaaR.FxPlace.ek23 Go.Proofs.YtmhjmjodchbhlaaR.FxPlace.zv23 Go.Proofs.YtmhjmjodchbhlaaR.FxPlace.tk27 Go.Proofs.YtmhjmjodchbhlaaR.FxPlace.ik27 Go.Proofs.YtmhjmjodchbhlaaR.FxPlace.zv27 Go.Proofs.YtmhjmjodchbhlaaR.FxPlace.tk37 Go.Proofs.YtmhjmjodchbhlaaR.FxPlace.ik37 Go.Proofs.YtmhjmjodchbhlaaR.FxPlace.zv37 Go.Proofs.YtmhjmjodchbhlaaR.FxPlace.tk39 Go.Proofs.YtmhjmjodchbhlaaR.FxPlace.ct39 Go.Proofs.YtmhjmjodchbhlaaR.FxPlace.zv39 Go.Proofs.YtmhjmjodchbhlaaR.FxPlace.tk48 Go.Proofs.YtmhjmjodchbhlaaR.FxPlace.ik48 Go.Proofs.YtmhjmjodchbhlaaR.FxPlace.zv48 Go.Proofs.YtmhjmjodchbhlaaR.FxPlace.tk91 Go.Proofs.YtmhjmjodchbhlaaR.FxPlace.zv91 Go.Proofs.YtmhjmjodchbhlaaR.FxPlace.mk8_1000000 Go.Proofs.YtmhjmjodchbhlaaR.FxPlace.dw26_12 Go.Proofs.YtmhjmjodchbhlaaR.FxPlace.nc26_12 Go.Proofs.YtmhjmjodchbhlaaR.FxPlace.mk26_1000000 Go.Proofs.YtmhjmjodchbhlaaR.FxPlace.dw27_3 Go.Proofs.YtmhjmjodchbhlaaR.FxPlace.nc27_3 Go.Proofs.YtmhjmjodchbhlaaR.FxPlace.dw27_13 Go.Proofs.YtmhjmjodchbhlaaR.FxPlace.nc27_13 Go.Proofs.YtmhjmjodchbhlaaR.FxPlace.mk27_1000000 Go.Proofs.YtmhjmjodchbhlaaR.FxPlace.mk69_1000000 Go.Proofs.YtmhjmjodchbhlaaR.FxPlace.mk70_1000000 Go.Proofs.YtmhjmjodchbhlaaR.FxPlace.mk71_0 Go.Proofs.YtmhjmjodchbhlaaR.FxPlace.mk71_1000001 Go.Proofs.YtmhjmjodchbhlaaR.FxPlace.mk71_1000002 Go.Proofs.YtmhjmjodchbhlaaR.FxPlace.mk71_1000000
/-! ### a day on -/
theorem step_ok {u v : Vec} (h : (stepR u v).2 = 0) : okV 4194304 u = true ∧ okV 4194304 v = true ∧ okV 4194304 (stepR u v).1 = true ∧ (stepR u v).1 = (2 * v.1 - u.1 + (pull v).1, 2 * v.2.1 - u.2.1 + (pull v).2.1, 2 * v.2.2 - u.2.2 + (pull v).2.2) := by
  unfold stepR at h ⊢
  split at h
  · rename_i h1
    split at h
    · rename_i h2
      split at h
      · rename_i h3
        rw [if_pos h1, if_pos h2, if_pos h3]
        exact ⟨h1, h2, h3, rfl⟩
      · simp at h
    · simp at h
  · simp at h
theorem step_back {u v : Vec} (h : (stepR u v).2 = 0) : stepR (stepR u v).1 v = (u, 0) := by
  obtain ⟨h1, h2, h3, h4⟩ := step_ok h
  generalize hw : (stepR u v).1 = w at *
  have e : (2 * v.1 - w.1 + (pull v).1, 2 * v.2.1 - w.2.1 + (pull v).2.1, 2 * v.2.2 - w.2.2 + (pull v).2.2) = u := by
    rw [h4]
    obtain ⟨u1, u2, u3⟩ := u
    simp only [Prod.mk.injEq]
    omega
  unfold stepR
  rw [if_pos h3, if_pos h2, e, if_pos h1]
theorem next_day {a b : Vec} {day : Int} (h : (pathS a b day).2.2 = 0) : pathS a b (day + 1) = ((pathS a b day).2.1, (stepR (pathS a b day).1 (pathS a b day).2.1).1, (stepR (pathS a b day).1 (pathS a b day).2.1).2) := by
  by_cases hp : 0 ≤ day
  · have e1 : (-day).toNat = 0 := by omega
    have e2 : (-(day + 1)).toNat = 0 := by omega
    have e3 : (day + 1).toNat = day.toNat + 1 := by omega
    have hX : pathS a b day = tr (a, b, 0) day.toNat := by unfold pathS; rw [e1]; rfl
    have hY : pathS a b (day + 1) = tr (a, b, 0) (day.toNat + 1) := by unfold pathS; rw [e2, e3]; rfl
    rw [hX] at h ⊢
    rw [hY, tr_go h]
  · obtain ⟨k, hk⟩ : ∃ k : Nat, (-day).toNat = k + 1 := ⟨(-day).toNat - 1, by omega⟩
    have e1 : day.toNat = 0 := by omega
    have e2 : (day + 1).toNat = 0 := by omega
    have e3 : (-(day + 1)).toNat = k := by omega
    have hX : pathS a b day = sw (tr (sw (a, b, 0)) (k + 1)) := by unfold pathS; rw [e1, hk]; rfl
    have hY : pathS a b (day + 1) = sw (tr (sw (a, b, 0)) k) := by unfold pathS; rw [e2, e3]; rfl
    rw [hX] at h ⊢
    have hb : (tr (sw (a, b, 0)) k).2.2 = 0 := tr_back h
    have hg := tr_go hb
    rw [hg] at h ⊢
    have hs : (stepR (tr (sw (a, b, 0)) k).1 (tr (sw (a, b, 0)) k).2.1).2 = 0 := h
    have hq := step_back hs
    simp only [sw] at hq hb ⊢
    rw [hq, hY]
    simp only [sw, hb]
noncomputable def placeR (a b : Vec) (t : Int) : Vec × Int :=
  if t / 86400000 < -400 ∨ t / 86400000 ≥ 400 then (zV, 4)
  else if ¬ (pathR a b (t / 86400000)).2.2 = 0 then (zV, (pathR a b (t / 86400000)).2.2)
  else if ¬ (stepR (pathR a b (t / 86400000)).1 (pathR a b (t / 86400000)).2.1).2 = 0 then (zV, (stepR (pathR a b (t / 86400000)).1 (pathR a b (t / 86400000)).2.1).2)
  else ((mid (t % 86400000) (pathR a b (t / 86400000)).2.1.1 (stepR (pathR a b (t / 86400000)).1 (pathR a b (t / 86400000)).2.1).1.1,
    mid (t % 86400000) (pathR a b (t / 86400000)).2.1.2.1 (stepR (pathR a b (t / 86400000)).1 (pathR a b (t / 86400000)).2.1).1.2.1,
    mid (t % 86400000) (pathR a b (t / 86400000)).2.1.2.2 (stepR (pathR a b (t / 86400000)).1 (pathR a b (t / 86400000)).2.1).1.2.2), 0)
/-- What Pathed answers a day on. -/
theorem path_next {a b : Vec} {day : Int} (h1 : -400 ≤ day) (h2 : day < 400) (h : (pathR a b day).2.2 = 0) : (pathR a b (day + 1)).2.2 = (stepR (pathR a b day).1 (pathR a b day).2.1).2 ∧
    ((stepR (pathR a b day).1 (pathR a b day).2.1).2 = 0 → (pathR a b (day + 1)).2.1 = (stepR (pathR a b day).1 (pathR a b day).2.1).1) := by
  have hc : ¬ (day < -400 ∨ day > 400 ∨ ¬ okV 4194304 a = true ∨ ¬ okV 4194304 b = true) := by
    intro hc
    unfold pathR at h
    rw [if_pos hc] at h
    exact absurd h (by decide)
  have hx : pathR a b day = pathS a b day ∧ (pathS a b day).2.2 = 0 := by
    unfold pathR at h ⊢
    rw [if_neg hc] at h ⊢
    by_cases hz : (pathS a b day).2.2 = 0
    · rw [if_pos hz]; exact ⟨rfl, hz⟩
    · rw [if_neg hz] at h; exact absurd h hz
  obtain ⟨hx, hz⟩ := hx
  have hn := next_day hz
  have hc' : ¬ (day + 1 < -400 ∨ day + 1 > 400 ∨ ¬ okV 4194304 a = true ∨ ¬ okV 4194304 b = true) := by
    intro q
    apply hc
    rcases q with q | q | q | q
    · omega
    · omega
    · exact .inr (.inr (.inl q))
    · exact .inr (.inr (.inr q))
  rw [hx]
  unfold pathR
  rw [if_neg hc', hn]
  by_cases hs : (stepR (pathS a b day).1 (pathS a b day).2.1).2 = 0
  · rw [if_pos hs]; exact ⟨rfl, fun _ => rfl⟩
  · rw [if_neg hs]; exact ⟨rfl, fun q => absurd q hs⟩
theorem path_run (b : Bod) (day : Int) : sPath.run [.agg 39 [.int .i64 b.1, .agg 23 [.int .i64 b.2.1.1, .int .i64 b.2.1.2.1, .int .i64 b.2.1.2.2], .agg 23 [.int .i64 b.2.2.1.1, .int .i64 b.2.2.1.2.1, .int .i64 b.2.2.1.2.2], .int .i64 b.2.2.2], .int .i64 day] = some [vD (pathR b.2.1 b.2.2.1 day).1, vD (pathR b.2.1 b.2.2.1 day).2.1, .int .i64 (pathR b.2.1 b.2.2.1 day).2.2] := specC_run cPath _ _ (b, day) trivial
noncomputable def sPlace : Ev.Spec := specC cPath (fun x => -9223372036854775808 ≤ x.2 ∧ x.2 < 9223372036854775808) fun x => [vD (placeR x.1.2.1 x.1.2.2.1 x.2).1, .int .i64 (placeR x.1.2.1 x.1.2.2.1 x.2).2]
noncomputable def GA : Specs := [(69, sFloor), (22, sPath), (17, sStep), (70, sMid)]
noncomputable def TA : Table := tableOf [(26, en26)]
theorem GA_ok : ∀ g s, Ev.look GA g = some s → SpecOk Try.prog g s := specs_cons floor_ok (specs_cons path_ok (specs_cons stepA_ok (specs_cons midA_ok specs_nil)))
theorem TA_ok : TableOk Try.prog (GA.map (·.1)) TA := (table_cons Try.func26 (by kernel_rfl) (by kernel_rfl) table_nil)
theorem mids {u v : Vec} {t : Int} (h : (stepR u v).2 = 0) : MM (t % 86400000) v.1 (stepR u v).1.1 ∧ MM (t % 86400000) v.2.1 (stepR u v).1.2.1 ∧ MM (t % 86400000) v.2.2 (stepR u v).1.2.2 := by
  obtain ⟨_, h2, h3, _⟩ := step_ok h
  obtain ⟨⟨x0, x1⟩, ⟨y0, y1⟩, z0, z1⟩ := okV_spec h2
  obtain ⟨⟨a0, a1⟩, ⟨b0, b1⟩, c0, c1⟩ := okV_spec h3
  exact ⟨⟨x0, x1, a0, a1, by omega, by omega⟩, ⟨y0, y1, b0, b1, by omega, by omega⟩, ⟨z0, z1, c0, c1, by omega, by omega⟩⟩
theorem ePlaceA (b : Bod) (t : Int) (ht : -9223372036854775808 ≤ t ∧ t < 9223372036854775808) : evTop Try.prog GA TA 0 1 26 [bD b, .int .i64 t] = some [vD (placeR b.2.1 b.2.2.1 t).1, .int .i64 (placeR b.2.1 b.2.2.1 t).2] := by
  unfold evTop
  simp only [List.map]
  rw [evF_s (fn := Try.f26) (msk := en26.ms) (hT := by rfl) (hb := by rfl)]
  have rf := sFloor_run t ht
  have rp := path_run b (t / 86400000)
  unfold placeR
  by_cases c1 : t / 86400000 < -400
  · rw [if_pos (.inl c1)]
    simp only [Try.f26, GA, go_sem, Nat.reduceAdd, Nat.reduceSub, Nat.reduceMul, Nat.reduceEqDiff, Nat.reduceBEq, Nat.reduceLT, Nat.reduceLeDiff, Nat.reducePow, Int.cast_ofNat_Int, IntWalk.i64_in, IntWalk.u64_in, IntWalk.u8_in, Int.reduceToNat, Int.reduceLT, Int.reduceLE, Int.reduceGT, Int.reduceGE, Int.reduceEq, Int.reduceNeg, Int.reduceAdd, Int.reduceSub, ↓reduceIte, reduceCtorEq, beq_self_eq_true, Bool.true_beq, Bool.false_beq, Bool.and_true, Bool.true_and, Bool.false_and, Bool.and_false, Bool.and_self, Bool.not_true, Bool.not_false, Bool.not_eq_true, cond_true, cond_false, if_true, if_false, and_true, true_and, and_self, decide_true, decide_false, Bool.or_true, Bool.true_or, Bool.or_false, Bool.false_or, List.isEmpty, List.isEmpty_nil, List.size_toArray, List.map, List.length_map, List.length_cons, List.length_nil, Option.map, Option.bind, Option.getD, Option.isSome, List.replicate, Bool.false_eq_true, implies_true, forall_const, Array.toList, Array.isEmpty, List.append, List.nil_append, List.cons_append, List.drop_zero, List.take_length, List.take_succ_cons, List.take_zero, List.take_nil, List.getElem?_map, List.getElem?_cons_zero, List.getElem?_cons_succ, List.getElem?_nil, List.append_nil, bD, rf, c1, vD, zV]
  by_cases c2 : t / 86400000 ≥ 400
  · rw [if_pos (.inr c2)]
    simp only [Try.f26, GA, go_sem, Nat.reduceAdd, Nat.reduceSub, Nat.reduceMul, Nat.reduceEqDiff, Nat.reduceBEq, Nat.reduceLT, Nat.reduceLeDiff, Nat.reducePow, Int.cast_ofNat_Int, IntWalk.i64_in, IntWalk.u64_in, IntWalk.u8_in, Int.reduceToNat, Int.reduceLT, Int.reduceLE, Int.reduceGT, Int.reduceGE, Int.reduceEq, Int.reduceNeg, Int.reduceAdd, Int.reduceSub, ↓reduceIte, reduceCtorEq, beq_self_eq_true, Bool.true_beq, Bool.false_beq, Bool.and_true, Bool.true_and, Bool.false_and, Bool.and_false, Bool.and_self, Bool.not_true, Bool.not_false, Bool.not_eq_true, cond_true, cond_false, if_true, if_false, and_true, true_and, and_self, decide_true, decide_false, Bool.or_true, Bool.true_or, Bool.or_false, Bool.false_or, List.isEmpty, List.isEmpty_nil, List.size_toArray, List.map, List.length_map, List.length_cons, List.length_nil, Option.map, Option.bind, Option.getD, Option.isSome, List.replicate, Bool.false_eq_true, implies_true, forall_const, Array.toList, Array.isEmpty, List.append, List.nil_append, List.cons_append, List.drop_zero, List.take_length, List.take_succ_cons, List.take_zero, List.take_nil, List.getElem?_map, List.getElem?_cons_zero, List.getElem?_cons_succ, List.getElem?_nil, List.append_nil, bD, rf, c1, c2, vD, zV]
  rw [if_neg (by simp only [c1, c2, or_self, not_false_iff])]
  generalize hP : pathR b.2.1 b.2.2.1 (t / 86400000) = P at *
  by_cases c3 : P.2.2 = 0
  case neg =>
    rw [if_pos c3]
    simp only [Try.f26, GA, go_sem, Nat.reduceAdd, Nat.reduceSub, Nat.reduceMul, Nat.reduceEqDiff, Nat.reduceBEq, Nat.reduceLT, Nat.reduceLeDiff, Nat.reducePow, Int.cast_ofNat_Int, IntWalk.i64_in, IntWalk.u64_in, IntWalk.u8_in, Int.reduceToNat, Int.reduceLT, Int.reduceLE, Int.reduceGT, Int.reduceGE, Int.reduceEq, Int.reduceNeg, Int.reduceAdd, Int.reduceSub, ↓reduceIte, reduceCtorEq, beq_self_eq_true, Bool.true_beq, Bool.false_beq, Bool.and_true, Bool.true_and, Bool.false_and, Bool.and_false, Bool.and_self, Bool.not_true, Bool.not_false, Bool.not_eq_true, cond_true, cond_false, if_true, if_false, and_true, true_and, and_self, decide_true, decide_false, Bool.or_true, Bool.true_or, Bool.or_false, Bool.false_or, List.isEmpty, List.isEmpty_nil, List.size_toArray, List.map, List.length_map, List.length_cons, List.length_nil, Option.map, Option.bind, Option.getD, Option.isSome, List.replicate, Bool.false_eq_true, implies_true, forall_const, Array.toList, Array.isEmpty, List.append, List.nil_append, List.cons_append, List.drop_zero, List.take_length, List.take_succ_cons, List.take_zero, List.take_nil, List.getElem?_map, List.getElem?_cons_zero, List.getElem?_cons_succ, List.getElem?_nil, List.append_nil, bD, rf, c1, c2, rp, c3, vD, zV]
  rw [if_neg (by simp [c3])]
  have rs := step_run P.1 P.2.1
  by_cases c4 : (stepR P.1 P.2.1).2 = 0
  case neg =>
    rw [if_pos c4]
    simp only [Try.f26, GA, go_sem, Nat.reduceAdd, Nat.reduceSub, Nat.reduceMul, Nat.reduceEqDiff, Nat.reduceBEq, Nat.reduceLT, Nat.reduceLeDiff, Nat.reducePow, Int.cast_ofNat_Int, IntWalk.i64_in, IntWalk.u64_in, IntWalk.u8_in, Int.reduceToNat, Int.reduceLT, Int.reduceLE, Int.reduceGT, Int.reduceGE, Int.reduceEq, Int.reduceNeg, Int.reduceAdd, Int.reduceSub, ↓reduceIte, reduceCtorEq, beq_self_eq_true, Bool.true_beq, Bool.false_beq, Bool.and_true, Bool.true_and, Bool.false_and, Bool.and_false, Bool.and_self, Bool.not_true, Bool.not_false, Bool.not_eq_true, cond_true, cond_false, if_true, if_false, and_true, true_and, and_self, decide_true, decide_false, Bool.or_true, Bool.true_or, Bool.or_false, Bool.false_or, List.isEmpty, List.isEmpty_nil, List.size_toArray, List.map, List.length_map, List.length_cons, List.length_nil, Option.map, Option.bind, Option.getD, Option.isSome, List.replicate, Bool.false_eq_true, implies_true, forall_const, Array.toList, Array.isEmpty, List.append, List.nil_append, List.cons_append, List.drop_zero, List.take_length, List.take_succ_cons, List.take_zero, List.take_nil, List.getElem?_map, List.getElem?_cons_zero, List.getElem?_cons_succ, List.getElem?_nil, List.append_nil, bD, rf, c1, c2, rp, c3, rs, c4, vD, zV]
  rw [if_neg (by simp [c4])]
  obtain ⟨m1, m2, m3⟩ := mids (t := t) c4
  have r1 := sMid_run _ _ _ m1
  have r2 := sMid_run _ _ _ m2
  have r3 := sMid_run _ _ _ m3
  have w1 : IntKind.i64.wrap (t / 86400000 * 86400000) = t / 86400000 * 86400000 := wi_in (by omega) (by omega)
  have w2 : IntKind.i64.wrap (t - t / 86400000 * 86400000) = t % 86400000 := by rw [wi_in (by omega) (by omega)]; omega
  simp only [Try.f26, GA, go_sem, Nat.reduceAdd, Nat.reduceSub, Nat.reduceMul, Nat.reduceEqDiff, Nat.reduceBEq, Nat.reduceLT, Nat.reduceLeDiff, Nat.reducePow, Int.cast_ofNat_Int, IntWalk.i64_in, IntWalk.u64_in, IntWalk.u8_in, Int.reduceToNat, Int.reduceLT, Int.reduceLE, Int.reduceGT, Int.reduceGE, Int.reduceEq, Int.reduceNeg, Int.reduceAdd, Int.reduceSub, ↓reduceIte, reduceCtorEq, beq_self_eq_true, Bool.true_beq, Bool.false_beq, Bool.and_true, Bool.true_and, Bool.false_and, Bool.and_false, Bool.and_self, Bool.not_true, Bool.not_false, Bool.not_eq_true, cond_true, cond_false, if_true, if_false, and_true, true_and, and_self, decide_true, decide_false, Bool.or_true, Bool.true_or, Bool.or_false, Bool.false_or, List.isEmpty, List.isEmpty_nil, List.size_toArray, List.map, List.length_map, List.length_cons, List.length_nil, Option.map, Option.bind, Option.getD, Option.isSome, List.replicate, Bool.false_eq_true, implies_true, forall_const, Array.toList, Array.isEmpty, List.append, List.nil_append, List.cons_append, List.drop_zero, List.take_length, List.take_succ_cons, List.take_zero, List.take_nil, List.getElem?_map, List.getElem?_cons_zero, List.getElem?_cons_succ, List.getElem?_nil, List.append_nil, bD, rf, c1, c2, rp, c3, rs, c4, w1, w2, r1, r2, r3, vD]
theorem placeA_ok : SpecOk Try.prog 26 sPlace := specC_ok mixed GA_ok TA_ok fun x hp => ⟨0, 1, ePlaceA x.1 x.2 hp⟩
noncomputable def GB : Specs := [(23, sPath), (71, sMid)]
noncomputable def TB : Table := tableOf [(27, en27)]
theorem GB_ok : ∀ g s, Ev.look GB g = some s → SpecOk Try.prog g s := specs_cons pathd_ok (specs_cons midB_ok specs_nil)
theorem TB_ok : TableOk Try.prog (GB.map (·.1)) TB := (table_cons Try.func27 (by kernel_rfl) (by kernel_rfl) table_nil)
theorem ePlaceB (b : Bod) (t : Int) (ht : -9223372036854775808 ≤ t ∧ t < 9223372036854775808) : evTop Try.prog GB TB 0 1 27 [bD b, .int .i64 t] = some [vD (placeR b.2.1 b.2.2.1 t).1, .int .i64 (placeR b.2.1 b.2.2.1 t).2] := by
  unfold evTop
  simp only [List.map]
  rw [evF_s (fn := Try.f27) (msk := en27.ms) (hT := by rfl) (hb := by rfl)]
  have rp := path_run b (t / 86400000)
  have rq := path_run b (t / 86400000 + 1)
  obtain ⟨t1, t2⟩ := tdm t
  have hmt := Int.mul_tdiv_add_tmod t 86400000
  have hl := Int.lt_tmod_of_pos t (show (0 : Int) < 86400000 by decide)
  have hu := Int.tmod_lt_of_pos t (show (0 : Int) < 86400000 by decide)
  have w0 : IntKind.i64.wrap (t.tdiv 86400000) = t.tdiv 86400000 := wi_in (by omega) (by omega)
  unfold placeR
  by_cases hm : t.tmod 86400000 < 0
  · have e := t1 hm
    have w1 : IntKind.i64.wrap (t.tdiv 86400000 - 1) = t / 86400000 := by rw [wi_in (by omega) (by omega)]; exact e
    have w2 : IntKind.i64.wrap (t.tmod 86400000 + 86400000) = t % 86400000 := by rw [wi_in (by omega) (by omega)]; omega
    by_cases c1 : t / 86400000 < -400
    · rw [if_pos (.inl c1)]
      simp only [Try.f27, GB, go_sem, Nat.reduceAdd, Nat.reduceSub, Nat.reduceMul, Nat.reduceEqDiff, Nat.reduceBEq, Nat.reduceLT, Nat.reduceLeDiff, Nat.reducePow, Int.cast_ofNat_Int, IntWalk.i64_in, IntWalk.u64_in, IntWalk.u8_in, Int.reduceToNat, Int.reduceLT, Int.reduceLE, Int.reduceGT, Int.reduceGE, Int.reduceEq, Int.reduceNeg, Int.reduceAdd, Int.reduceSub, ↓reduceIte, reduceCtorEq, beq_self_eq_true, Bool.true_beq, Bool.false_beq, Bool.and_true, Bool.true_and, Bool.false_and, Bool.and_false, Bool.and_self, Bool.not_true, Bool.not_false, Bool.not_eq_true, cond_true, cond_false, if_true, if_false, and_true, true_and, and_self, decide_true, decide_false, Bool.or_true, Bool.true_or, Bool.or_false, Bool.false_or, List.isEmpty, List.isEmpty_nil, List.size_toArray, List.map, List.length_map, List.length_cons, List.length_nil, Option.map, Option.bind, Option.getD, Option.isSome, List.replicate, Bool.false_eq_true, implies_true, forall_const, Array.toList, Array.isEmpty, List.append, List.nil_append, List.cons_append, List.drop_zero, List.take_length, List.take_succ_cons, List.take_zero, List.take_nil, List.getElem?_map, List.getElem?_cons_zero, List.getElem?_cons_succ, List.getElem?_nil, List.append_nil, bD, w0, hm, w1, w2, c1, vD, zV]
    by_cases c2 : t / 86400000 ≥ 400
    · have c2' : t / 86400000 > 399 := by omega
      rw [if_pos (.inr c2)]
      simp only [Try.f27, GB, go_sem, Nat.reduceAdd, Nat.reduceSub, Nat.reduceMul, Nat.reduceEqDiff, Nat.reduceBEq, Nat.reduceLT, Nat.reduceLeDiff, Nat.reducePow, Int.cast_ofNat_Int, IntWalk.i64_in, IntWalk.u64_in, IntWalk.u8_in, Int.reduceToNat, Int.reduceLT, Int.reduceLE, Int.reduceGT, Int.reduceGE, Int.reduceEq, Int.reduceNeg, Int.reduceAdd, Int.reduceSub, ↓reduceIte, reduceCtorEq, beq_self_eq_true, Bool.true_beq, Bool.false_beq, Bool.and_true, Bool.true_and, Bool.false_and, Bool.and_false, Bool.and_self, Bool.not_true, Bool.not_false, Bool.not_eq_true, cond_true, cond_false, if_true, if_false, and_true, true_and, and_self, decide_true, decide_false, Bool.or_true, Bool.true_or, Bool.or_false, Bool.false_or, List.isEmpty, List.isEmpty_nil, List.size_toArray, List.map, List.length_map, List.length_cons, List.length_nil, Option.map, Option.bind, Option.getD, Option.isSome, List.replicate, Bool.false_eq_true, implies_true, forall_const, Array.toList, Array.isEmpty, List.append, List.nil_append, List.cons_append, List.drop_zero, List.take_length, List.take_succ_cons, List.take_zero, List.take_nil, List.getElem?_map, List.getElem?_cons_zero, List.getElem?_cons_succ, List.getElem?_nil, List.append_nil, bD, w0, hm, w1, w2, c1, c2', vD, zV]
    have c2' : ¬ t / 86400000 > 399 := by omega
    rw [if_neg (by simp only [c1, c2, or_self, not_false_iff])]
    have w3 : IntKind.i64.wrap (t / 86400000 + 1) = t / 86400000 + 1 := wi_in (by omega) (by omega)
    by_cases c3 : (pathR b.2.1 b.2.2.1 (t / 86400000)).2.2 = 0
    case neg =>
      rw [if_pos c3]
      simp only [Try.f27, GB, go_sem, Nat.reduceAdd, Nat.reduceSub, Nat.reduceMul, Nat.reduceEqDiff, Nat.reduceBEq, Nat.reduceLT, Nat.reduceLeDiff, Nat.reducePow, Int.cast_ofNat_Int, IntWalk.i64_in, IntWalk.u64_in, IntWalk.u8_in, Int.reduceToNat, Int.reduceLT, Int.reduceLE, Int.reduceGT, Int.reduceGE, Int.reduceEq, Int.reduceNeg, Int.reduceAdd, Int.reduceSub, ↓reduceIte, reduceCtorEq, beq_self_eq_true, Bool.true_beq, Bool.false_beq, Bool.and_true, Bool.true_and, Bool.false_and, Bool.and_false, Bool.and_self, Bool.not_true, Bool.not_false, Bool.not_eq_true, cond_true, cond_false, if_true, if_false, and_true, true_and, and_self, decide_true, decide_false, Bool.or_true, Bool.true_or, Bool.or_false, Bool.false_or, List.isEmpty, List.isEmpty_nil, List.size_toArray, List.map, List.length_map, List.length_cons, List.length_nil, Option.map, Option.bind, Option.getD, Option.isSome, List.replicate, Bool.false_eq_true, implies_true, forall_const, Array.toList, Array.isEmpty, List.append, List.nil_append, List.cons_append, List.drop_zero, List.take_length, List.take_succ_cons, List.take_zero, List.take_nil, List.getElem?_map, List.getElem?_cons_zero, List.getElem?_cons_succ, List.getElem?_nil, List.append_nil, bD, w0, hm, w1, w2, c1, c2', rp, c3, vD, zV]
    rw [if_neg (by simp [c3])]
    obtain ⟨n1, n2⟩ := path_next (by omega) (by omega) c3
    by_cases c4 : (stepR (pathR b.2.1 b.2.2.1 (t / 86400000)).1 (pathR b.2.1 b.2.2.1 (t / 86400000)).2.1).2 = 0
    case neg =>
      rw [if_pos c4]
      simp only [Try.f27, GB, go_sem, Nat.reduceAdd, Nat.reduceSub, Nat.reduceMul, Nat.reduceEqDiff, Nat.reduceBEq, Nat.reduceLT, Nat.reduceLeDiff, Nat.reducePow, Int.cast_ofNat_Int, IntWalk.i64_in, IntWalk.u64_in, IntWalk.u8_in, Int.reduceToNat, Int.reduceLT, Int.reduceLE, Int.reduceGT, Int.reduceGE, Int.reduceEq, Int.reduceNeg, Int.reduceAdd, Int.reduceSub, ↓reduceIte, reduceCtorEq, beq_self_eq_true, Bool.true_beq, Bool.false_beq, Bool.and_true, Bool.true_and, Bool.false_and, Bool.and_false, Bool.and_self, Bool.not_true, Bool.not_false, Bool.not_eq_true, cond_true, cond_false, if_true, if_false, and_true, true_and, and_self, decide_true, decide_false, Bool.or_true, Bool.true_or, Bool.or_false, Bool.false_or, List.isEmpty, List.isEmpty_nil, List.size_toArray, List.map, List.length_map, List.length_cons, List.length_nil, Option.map, Option.bind, Option.getD, Option.isSome, List.replicate, Bool.false_eq_true, implies_true, forall_const, Array.toList, Array.isEmpty, List.append, List.nil_append, List.cons_append, List.drop_zero, List.take_length, List.take_succ_cons, List.take_zero, List.take_nil, List.getElem?_map, List.getElem?_cons_zero, List.getElem?_cons_succ, List.getElem?_nil, List.append_nil, bD, w0, hm, w1, w2, c1, c2', rp, c3, w3, rq, n1, c4, vD, zV]
    rw [if_neg (by simp [c4])]
    obtain ⟨m1, m2, m3⟩ := mids (t := t) c4
    have r1 := sMid_run _ _ _ m1
    have r2 := sMid_run _ _ _ m2
    have r3 := sMid_run _ _ _ m3
    have n2 := n2 c4
    simp only [Try.f27, GB, go_sem, Nat.reduceAdd, Nat.reduceSub, Nat.reduceMul, Nat.reduceEqDiff, Nat.reduceBEq, Nat.reduceLT, Nat.reduceLeDiff, Nat.reducePow, Int.cast_ofNat_Int, IntWalk.i64_in, IntWalk.u64_in, IntWalk.u8_in, Int.reduceToNat, Int.reduceLT, Int.reduceLE, Int.reduceGT, Int.reduceGE, Int.reduceEq, Int.reduceNeg, Int.reduceAdd, Int.reduceSub, ↓reduceIte, reduceCtorEq, beq_self_eq_true, Bool.true_beq, Bool.false_beq, Bool.and_true, Bool.true_and, Bool.false_and, Bool.and_false, Bool.and_self, Bool.not_true, Bool.not_false, Bool.not_eq_true, cond_true, cond_false, if_true, if_false, and_true, true_and, and_self, decide_true, decide_false, Bool.or_true, Bool.true_or, Bool.or_false, Bool.false_or, List.isEmpty, List.isEmpty_nil, List.size_toArray, List.map, List.length_map, List.length_cons, List.length_nil, Option.map, Option.bind, Option.getD, Option.isSome, List.replicate, Bool.false_eq_true, implies_true, forall_const, Array.toList, Array.isEmpty, List.append, List.nil_append, List.cons_append, List.drop_zero, List.take_length, List.take_succ_cons, List.take_zero, List.take_nil, List.getElem?_map, List.getElem?_cons_zero, List.getElem?_cons_succ, List.getElem?_nil, List.append_nil, bD, w0, hm, w1, w2, c1, c2', rp, c3, w3, rq, n1, n2, c4, r1, r2, r3, vD]
  · have e := t2 hm
    have w2 : t.tmod 86400000 = t % 86400000 := by omega
    have hm' : ¬ t % 86400000 < 0 := by omega
    have w0' : IntKind.i64.wrap (t / 86400000) = t / 86400000 := wi_in (by omega) (by omega)
    by_cases c1 : t / 86400000 < -400
    · rw [if_pos (.inl c1)]
      simp only [Try.f27, GB, go_sem, Nat.reduceAdd, Nat.reduceSub, Nat.reduceMul, Nat.reduceEqDiff, Nat.reduceBEq, Nat.reduceLT, Nat.reduceLeDiff, Nat.reducePow, Int.cast_ofNat_Int, IntWalk.i64_in, IntWalk.u64_in, IntWalk.u8_in, Int.reduceToNat, Int.reduceLT, Int.reduceLE, Int.reduceGT, Int.reduceGE, Int.reduceEq, Int.reduceNeg, Int.reduceAdd, Int.reduceSub, ↓reduceIte, reduceCtorEq, beq_self_eq_true, Bool.true_beq, Bool.false_beq, Bool.and_true, Bool.true_and, Bool.false_and, Bool.and_false, Bool.and_self, Bool.not_true, Bool.not_false, Bool.not_eq_true, cond_true, cond_false, if_true, if_false, and_true, true_and, and_self, decide_true, decide_false, Bool.or_true, Bool.true_or, Bool.or_false, Bool.false_or, List.isEmpty, List.isEmpty_nil, List.size_toArray, List.map, List.length_map, List.length_cons, List.length_nil, Option.map, Option.bind, Option.getD, Option.isSome, List.replicate, Bool.false_eq_true, implies_true, forall_const, Array.toList, Array.isEmpty, List.append, List.nil_append, List.cons_append, List.drop_zero, List.take_length, List.take_succ_cons, List.take_zero, List.take_nil, List.getElem?_map, List.getElem?_cons_zero, List.getElem?_cons_succ, List.getElem?_nil, List.append_nil, bD, e, w0', w2, hm', c1, vD, zV]
    by_cases c2 : t / 86400000 ≥ 400
    · have c2' : t / 86400000 > 399 := by omega
      rw [if_pos (.inr c2)]
      simp only [Try.f27, GB, go_sem, Nat.reduceAdd, Nat.reduceSub, Nat.reduceMul, Nat.reduceEqDiff, Nat.reduceBEq, Nat.reduceLT, Nat.reduceLeDiff, Nat.reducePow, Int.cast_ofNat_Int, IntWalk.i64_in, IntWalk.u64_in, IntWalk.u8_in, Int.reduceToNat, Int.reduceLT, Int.reduceLE, Int.reduceGT, Int.reduceGE, Int.reduceEq, Int.reduceNeg, Int.reduceAdd, Int.reduceSub, ↓reduceIte, reduceCtorEq, beq_self_eq_true, Bool.true_beq, Bool.false_beq, Bool.and_true, Bool.true_and, Bool.false_and, Bool.and_false, Bool.and_self, Bool.not_true, Bool.not_false, Bool.not_eq_true, cond_true, cond_false, if_true, if_false, and_true, true_and, and_self, decide_true, decide_false, Bool.or_true, Bool.true_or, Bool.or_false, Bool.false_or, List.isEmpty, List.isEmpty_nil, List.size_toArray, List.map, List.length_map, List.length_cons, List.length_nil, Option.map, Option.bind, Option.getD, Option.isSome, List.replicate, Bool.false_eq_true, implies_true, forall_const, Array.toList, Array.isEmpty, List.append, List.nil_append, List.cons_append, List.drop_zero, List.take_length, List.take_succ_cons, List.take_zero, List.take_nil, List.getElem?_map, List.getElem?_cons_zero, List.getElem?_cons_succ, List.getElem?_nil, List.append_nil, bD, e, w0', w2, hm', c1, c2', vD, zV]
    have c2' : ¬ t / 86400000 > 399 := by omega
    rw [if_neg (by simp only [c1, c2, or_self, not_false_iff])]
    have w3 : IntKind.i64.wrap (t / 86400000 + 1) = t / 86400000 + 1 := wi_in (by omega) (by omega)
    by_cases c3 : (pathR b.2.1 b.2.2.1 (t / 86400000)).2.2 = 0
    case neg =>
      rw [if_pos c3]
      simp only [Try.f27, GB, go_sem, Nat.reduceAdd, Nat.reduceSub, Nat.reduceMul, Nat.reduceEqDiff, Nat.reduceBEq, Nat.reduceLT, Nat.reduceLeDiff, Nat.reducePow, Int.cast_ofNat_Int, IntWalk.i64_in, IntWalk.u64_in, IntWalk.u8_in, Int.reduceToNat, Int.reduceLT, Int.reduceLE, Int.reduceGT, Int.reduceGE, Int.reduceEq, Int.reduceNeg, Int.reduceAdd, Int.reduceSub, ↓reduceIte, reduceCtorEq, beq_self_eq_true, Bool.true_beq, Bool.false_beq, Bool.and_true, Bool.true_and, Bool.false_and, Bool.and_false, Bool.and_self, Bool.not_true, Bool.not_false, Bool.not_eq_true, cond_true, cond_false, if_true, if_false, and_true, true_and, and_self, decide_true, decide_false, Bool.or_true, Bool.true_or, Bool.or_false, Bool.false_or, List.isEmpty, List.isEmpty_nil, List.size_toArray, List.map, List.length_map, List.length_cons, List.length_nil, Option.map, Option.bind, Option.getD, Option.isSome, List.replicate, Bool.false_eq_true, implies_true, forall_const, Array.toList, Array.isEmpty, List.append, List.nil_append, List.cons_append, List.drop_zero, List.take_length, List.take_succ_cons, List.take_zero, List.take_nil, List.getElem?_map, List.getElem?_cons_zero, List.getElem?_cons_succ, List.getElem?_nil, List.append_nil, bD, e, w0', w2, hm', c1, c2', rp, c3, vD, zV]
    rw [if_neg (by simp [c3])]
    obtain ⟨n1, n2⟩ := path_next (by omega) (by omega) c3
    by_cases c4 : (stepR (pathR b.2.1 b.2.2.1 (t / 86400000)).1 (pathR b.2.1 b.2.2.1 (t / 86400000)).2.1).2 = 0
    case neg =>
      rw [if_pos c4]
      simp only [Try.f27, GB, go_sem, Nat.reduceAdd, Nat.reduceSub, Nat.reduceMul, Nat.reduceEqDiff, Nat.reduceBEq, Nat.reduceLT, Nat.reduceLeDiff, Nat.reducePow, Int.cast_ofNat_Int, IntWalk.i64_in, IntWalk.u64_in, IntWalk.u8_in, Int.reduceToNat, Int.reduceLT, Int.reduceLE, Int.reduceGT, Int.reduceGE, Int.reduceEq, Int.reduceNeg, Int.reduceAdd, Int.reduceSub, ↓reduceIte, reduceCtorEq, beq_self_eq_true, Bool.true_beq, Bool.false_beq, Bool.and_true, Bool.true_and, Bool.false_and, Bool.and_false, Bool.and_self, Bool.not_true, Bool.not_false, Bool.not_eq_true, cond_true, cond_false, if_true, if_false, and_true, true_and, and_self, decide_true, decide_false, Bool.or_true, Bool.true_or, Bool.or_false, Bool.false_or, List.isEmpty, List.isEmpty_nil, List.size_toArray, List.map, List.length_map, List.length_cons, List.length_nil, Option.map, Option.bind, Option.getD, Option.isSome, List.replicate, Bool.false_eq_true, implies_true, forall_const, Array.toList, Array.isEmpty, List.append, List.nil_append, List.cons_append, List.drop_zero, List.take_length, List.take_succ_cons, List.take_zero, List.take_nil, List.getElem?_map, List.getElem?_cons_zero, List.getElem?_cons_succ, List.getElem?_nil, List.append_nil, bD, e, w0', w2, hm', c1, c2', rp, c3, w3, rq, n1, c4, vD, zV]
    rw [if_neg (by simp [c4])]
    obtain ⟨m1, m2, m3⟩ := mids (t := t) c4
    have r1 := sMid_run _ _ _ m1
    have r2 := sMid_run _ _ _ m2
    have r3 := sMid_run _ _ _ m3
    have n2 := n2 c4
    simp only [Try.f27, GB, go_sem, Nat.reduceAdd, Nat.reduceSub, Nat.reduceMul, Nat.reduceEqDiff, Nat.reduceBEq, Nat.reduceLT, Nat.reduceLeDiff, Nat.reducePow, Int.cast_ofNat_Int, IntWalk.i64_in, IntWalk.u64_in, IntWalk.u8_in, Int.reduceToNat, Int.reduceLT, Int.reduceLE, Int.reduceGT, Int.reduceGE, Int.reduceEq, Int.reduceNeg, Int.reduceAdd, Int.reduceSub, ↓reduceIte, reduceCtorEq, beq_self_eq_true, Bool.true_beq, Bool.false_beq, Bool.and_true, Bool.true_and, Bool.false_and, Bool.and_false, Bool.and_self, Bool.not_true, Bool.not_false, Bool.not_eq_true, cond_true, cond_false, if_true, if_false, and_true, true_and, and_self, decide_true, decide_false, Bool.or_true, Bool.true_or, Bool.or_false, Bool.false_or, List.isEmpty, List.isEmpty_nil, List.size_toArray, List.map, List.length_map, List.length_cons, List.length_nil, Option.map, Option.bind, Option.getD, Option.isSome, List.replicate, Bool.false_eq_true, implies_true, forall_const, Array.toList, Array.isEmpty, List.append, List.nil_append, List.cons_append, List.drop_zero, List.take_length, List.take_succ_cons, List.take_zero, List.take_nil, List.getElem?_map, List.getElem?_cons_zero, List.getElem?_cons_succ, List.getElem?_nil, List.append_nil, bD, e, w0', w2, hm', c1, c2', rp, c3, w3, rq, n1, n2, c4, r1, r2, r3, vD]
theorem placeB_ok : SpecOk Try.prog 27 sPlace := specC_ok mixed GB_ok TB_ok fun x hp => ⟨0, 1, ePlaceB x.1 x.2 hp⟩
#print axioms placeA_ok
#print axioms placeB_ok
end Go.Proofs.YtmhjmjodchbhlaaR.PlacePlace
