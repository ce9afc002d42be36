/- The row of the law SkyChecks: for every input the call returns true. Over the evaluator's contract of the law's function. No conditions. -/
import Derived.Test.YtmhjmjodchbhlaaRMSkyChecks13
import Derived.Shelf.Sort.Plain
import Derived.Shelf.Slices.In.SortNone
import Derived.Test.YtmhjmjodchbhlaaRProg
import Derived.Test.YtmhjmjodchbhlaaRRows
import Derived.WalkKit
import Derived.ProofKit
import Derived.OpenShut
import Derived.ShutString
import Derived.ChangeOld
import Derived.Below
import Derived.SizedLaws
import Derived.Carry
import Derived.WideShapes
import Derived.KernelRfl
section
namespace Go.Proofs.YtmhjmjodchbhlaaR.SortP
open Go.Proofs
def lays189_ren : Go.Shelf.Ren := ⟨fun | 189 => 39 | 125 => 86 | 257 => 85 | 128 => 126 | 129 => 127 | 294 => 117 | 295 => 118 | 296 => 119 | 297 => 120 | 298 => 121 | 299 => 122 | 216 => 123 | 300 => 124 | 301 => 125 | 328 => 144 | 329 => 145 | 330 => 146 | 331 => 147 | 332 => 148 | 215 => 149 | 343 => 155 | n => n, fun | 28 => 74 | 3 => 3 | 46 => 135 | 0 => 0 | 51 => 179 | 53 => 92 | 4 => 4 | 183 => 171 | 182 => 170 | 131 => 176 | 5 => 5 | 9 => 9 | 218 => 195 | 222 => 199 | 228 => 206 | 229 => 207 | n => n, fun | n => n⟩
theorem lays189 : Go.Proofs.Lays.n189 Try.prog lays189_ren := {
  mixed := by kernel_rfl
  f125 := Try.func86.trans (congrArg some (by kernel_rfl))
  f128 := Try.func126.trans (congrArg some (by kernel_rfl))
  f129 := Try.func127.trans (congrArg some (by kernel_rfl))
  f189 := Try.func39.trans (congrArg some (by kernel_rfl))
  f215 := Try.func149.trans (congrArg some (by kernel_rfl))
  f216 := Try.func123.trans (congrArg some (by kernel_rfl))
  f257 := Try.func85.trans (congrArg some (by kernel_rfl))
  f294 := Try.func117.trans (congrArg some (by kernel_rfl))
  f295 := Try.func118.trans (congrArg some (by kernel_rfl))
  f296 := Try.func119.trans (congrArg some (by kernel_rfl))
  f297 := Try.func120.trans (congrArg some (by kernel_rfl))
  f298 := Try.func121.trans (congrArg some (by kernel_rfl))
  f299 := Try.func122.trans (congrArg some (by kernel_rfl))
  f300 := Try.func124.trans (congrArg some (by kernel_rfl))
  f301 := Try.func125.trans (congrArg some (by kernel_rfl))
  f328 := Try.func144.trans (congrArg some (by kernel_rfl))
  f329 := Try.func145.trans (congrArg some (by kernel_rfl))
  f330 := Try.func146.trans (congrArg some (by kernel_rfl))
  f331 := Try.func147.trans (congrArg some (by kernel_rfl))
  f332 := Try.func148.trans (congrArg some (by kernel_rfl))
  f343 := Try.func155.trans (congrArg some (by kernel_rfl))
  t0 := Try.underlying0
  a0 := Try.isAgg0
  z0 := Try.sizeOf0
  v0 := Try.zeroValue0
  t3 := Try.underlying3
  a3 := Try.isAgg3
  z3 := Try.sizeOf3
  v3 := Try.zeroValue3
  t4 := Try.underlying4
  a4 := Try.isAgg4
  z4 := Try.sizeOf4
  v4 := Try.zeroValue4
  t5 := Try.underlying5
  a5 := Try.isAgg5
  z5 := Try.sizeOf5
  v5 := Try.zeroValue5
  t9 := Try.underlying9
  a9 := Try.isAgg9
  z9 := Try.sizeOf9
  v9 := Try.zeroValue9
  t28 := Try.underlying74
  a28 := Try.isAgg74
  z28 := Try.sizeOf74
  v28 := Try.zeroValue74
  t46 := Try.underlying135
  a46 := Try.isAgg135
  z46 := Try.sizeOf135
  v46 := Try.zeroValue135
  t51 := Try.underlying179
  a51 := Try.isAgg179
  z51 := Try.sizeOf179
  v51 := Try.zeroValue179
  t53 := Try.underlying92
  a53 := Try.isAgg92
  z53 := Try.sizeOf92
  v53 := Try.zeroValue92
  t131 := Try.underlying176
  a131 := Try.isAgg176
  z131 := Try.sizeOf176
  v131 := Try.zeroValue176
  t182 := Try.underlying170
  a182 := Try.isAgg170
  z182 := Try.sizeOf170
  v182 := Try.zeroValue170
  t183 := Try.underlying171
  a183 := Try.isAgg171
  z183 := Try.sizeOf171
  v183 := Try.zeroValue171
  t218 := Try.underlying195
  a218 := Try.isAgg195
  z218 := Try.sizeOf195
  v218 := Try.zeroValue195
  t222 := Try.underlying199
  a222 := Try.isAgg199
  z222 := Try.sizeOf199
  v222 := Try.zeroValue199
  t228 := Try.underlying206
  a228 := Try.isAgg206
  z228 := Try.sizeOf206
  v228 := Try.zeroValue206
  t229 := Try.underlying207
  a229 := Try.isAgg207
  z229 := Try.sizeOf207
  v229 := Try.zeroValue207 }
theorem sort_ok : Go.Ev.SortOk Try.prog 39 := ⟨⟨_, Try.func39, by kernel_rfl, by kernel_rfl⟩, fun blk off cap zs w hH hb hl => Any.slices_Sort_int lays189 blk off cap zs w hH hb hl, fun p cap w => Any.slices_Sort_int_none lays189 p cap w⟩
#print axioms sort_ok
end Go.Proofs.YtmhjmjodchbhlaaR.SortP
end
section
set_option linter.unusedVariables false
set_option linter.unusedSimpArgs false
set_option maxRecDepth 100000
namespace Go.Proofs.YtmhjmjodchbhlaaR.IdsIds
open Go.Ev Go.Ari Go.Proofs.YtmhjmjodchbhlaaR.FxIds Go.Proofs.YtmhjmjodchbhlaaR.PullPull Go.Proofs.YtmhjmjodchbhlaaR.TypesRate
open Go.Proofs.YtmhjmjodchbhlaaR.PathPath (Bod bD)
open Go.Proofs.YtmhjmjodchbhlaaR.ThingsRate (small loop_then)
attribute [local go_sem] Ev.putR_s Ev.putR_0 Ev.thenO_s Ev.thenO_0 Ev.seqR_n Ev.seqR_e Ev.seqR_r Ev.seqR_0 Ev.blkR_e Ev.blkR_n Ev.blkR_r Ev.blkR_0 Ev.normR_s Ev.normR_0 Ev.outR_r Ev.outR_n Ev.outR_0 Ev.retS_s Ev.retS_0 Ev.pureO_s Ev.pureO_0 Ev.topR_0 Ev.topR_t Ev.topR_t0 Ev.oneL_0 Ev.oneL_s Ev.topR_d Ev.topR_nils Ev.topR_agg Ev.topR_rs Ev.evOp_move Ev.evOp_assign Ev.evOp_pick Ev.evOp_alloc Ev.evOp_box Ev.evOp_build Ev.evOp_buildSlice Ev.evOp_load Ev.evOp_store Ev.evOp_makeMap Ev.evOp_lookup Ev.evOp_mapUpdate Ev.evOp_insert Ev.evOp_nilCheck Ev.evOp_binOp Ev.evOp_unOp Ev.evOp_convert Ev.evOp_makeFunc Ev.evOp_makeSlice Ev.evOp_slice Ev.evOp_fieldAddr Ev.evOp_field Ev.evOp_indexAddr Ev.evOp_index Ev.evOp_extract Ev.evOp_call Ev.evOp_append Ev.evOp_len Ev.evOp_min Ev.evOp_max Ev.condR_b Ev.condR_t Ev.evOps_nil Ev.evOps_plain Ev.evOps_guard Ev.runG_eq Ev.skipG_eq Ev.condL_tt Ev.condL_ff Ev.condL_tf Ev.condL_ft Ev.condL_u Ev.condC_t Ev.condC_f Ev.evC_skip Ev.evC_ret Ev.evC_exit Ev.evC_label Ev.evC_region Ev.evC_draw Ev.evC_seq Ev.evC_cond Ev.evC_block Ev.evC_loop Ev.fin_d Ev.fin_nils Ev.fin_agg_ Ev.fin_rs Ev.finS_s Ev.mapO_fin Ev.upd_upd Ev.argv_d Ev.argv_nils Ev.argv_agg Ev.argv_rs Ev.argv_p Ev.appendTo_nils Ev.appendTo_rs Ev.consV_d Ev.consV_agg Ev.consV_p Ev.consV_rs Ev.consV_nils Ev.consV_fn Ev.consV_und Ev.consV_jk Ev.consV_grown Ev.topR_grown Ev.len_grown Ev.consV_mp Ev.sameK_i Ev.sameK_s Ev.mget_0 Ev.mget_hit Ev.mget_miss Ev.mput_0 Ev.mput_hit Ev.mput_miss Ev.apartAll Ev.apartL Ev.apartV Ev.freeAll Ev.sel Ev.keyOfV Ev.evLookup Ev.evPut Ev.hintOk Ev.keyOk Ev.consP Ev.lookV Ev.guardV Ev.dstAt Ev.evPure Ev.evStore Ev.evPureB Ev.evBin Ev.evBinO Ev.evNil Ev.isNilC Ev.evUn Ev.evConv Ev.evSlice Ev.optI Ev.lenV Ev.elemT Ev.foldI Ev.capsOk Ev.noTup Ev.nth Ev.setN Ev.pad Ev.V.get Ev.V.put Ev.putD Ev.hasT Ev.newBlk Ev.upd Ev.keq Ev.empty Ev.evCall Ev.V.args Ev.argP Ev.callOf Ev.evNilP Ev.isNilP Ev.look Ev.V.view.views Ev.V.view Ev.V.toD Ev.V.toD.V.toDs Ev.V.pure.pures Ev.V.pure Ev.D.flat.flats Ev.D.flat Ev.mkAgg Ev.allD Ev.aggParts Ev.setParts Ev.setElems Ev.getPath Ev.setPath Ev.subL Ev.eqD Ev.eqD.eqDs Ev.and2 Ev.strCut Ev.evalT Ev.constT Ev.evArgs Ev.mask Ev.maskOf Ev.tableOf Ev.compT Ev.resV Ev.retV Ev.mapO Ev.elemsOf Int.cast_ofNat_Int IntWalk.i64_in IntWalk.u64_in IntWalk.u8_in beq_self_eq_true Bool.true_beq Bool.false_beq Bool.and_true Bool.true_and Bool.false_and Bool.and_false Bool.and_self Bool.not_true Bool.not_false Bool.not_eq_true cond_true cond_false if_true if_false and_true true_and and_self decide_true decide_false Bool.or_true Bool.true_or Bool.or_false Bool.false_or List.isEmpty List.isEmpty_nil List.size_toArray List.map List.length_map List.length_cons List.length_nil Option.map Option.bind Option.getD Option.isSome List.replicate Bool.false_eq_true implies_true forall_const Array.toList Array.isEmpty List.append List.nil_append List.cons_append List.drop_zero List.take_length List.take_succ_cons List.take_zero List.take_nil List.getElem?_map List.getElem?_cons_zero List.getElem?_cons_succ List.getElem?_nil List.append_nil
attribute [local go_sem] FxIds.tk2 FxIds.ik2 FxIds.zv2 FxIds.tk3 FxIds.ik3 FxIds.zv3 FxIds.by3 FxIds.so3 FxIds.tk4 FxIds.ub4 FxIds.zv4 FxIds.tk23 FxIds.ct23 FxIds.zv23 FxIds.tk27 FxIds.ik27 FxIds.zv27 FxIds.tk37 FxIds.ik37 FxIds.zv37 FxIds.by37 FxIds.so37 FxIds.tk39 FxIds.ct39 FxIds.zv39 FxIds.by39 FxIds.so39 FxIds.tk43 FxIds.zv43 FxIds.tk44 FxIds.zv44 FxIds.tk45 FxIds.zv45 FxIds.tk47 FxIds.ct47 FxIds.zv47 FxIds.tk48 FxIds.ik48 FxIds.zv48 FxIds.tk74 FxIds.zv74 FxIds.tk76 FxIds.ct76 FxIds.zv76 FxIds.by76 FxIds.so76 FxIds.tk77 FxIds.zv77 FxIds.tk79 FxIds.ct79 FxIds.zv79 FxIds.by79 FxIds.so79 FxIds.dw12_18 FxIds.nc12_18 FxIds.mk12_0 FxIds.mk12_2 FxIds.mk12_4 FxIds.mk12_1000001 FxIds.mk12_1000002 FxIds.mk12_1000003 FxIds.mk12_1000004 FxIds.mk12_1000005 FxIds.mk12_1000006 FxIds.mk12_1000000 FxIds.dw42_6 FxIds.nc42_6 FxIds.mk42_0 FxIds.mk42_1000001 FxIds.mk42_1000002 FxIds.mk42_1000000 FxIds.mk43_0 FxIds.mk43_2 FxIds.mk43_4 FxIds.mk43_1000001 FxIds.mk43_1000002 FxIds.mk43_1000003 FxIds.mk43_1000004 FxIds.mk43_1000005 FxIds.mk43_1000006 FxIds.mk43_1000000
def box (s : Sky) : Blk := ⟨1, 47, [.d s.D], true⟩
def p1 : V := .p (0, 1) 1 0 []
def idsA (s : Sky) : List Int := s.stars.map Star.id ++ (s.gals.map Gal.id ++ s.bods.map Prod.fst)
theorem idsA_len (s : Sky) : (idsA s).length = s.stars.length + s.gals.length + s.bods.length := by simp [idsA]; omega
theorem iV_step {l : List Int} {n : Nat} {x : Int} (h : l[n]? = some x) : iV (l.take n) ++ [.d (.int .i64 x)] = iV (l.take (n + 1)) := by
  unfold iV
  rw [List.take_add_one, h]; simp
theorem idsA_0 {s : Sky} {i : Nat} (h : i < s.stars.length) : (idsA s)[i]? = some s.stars[i].id := by
  unfold idsA
  rw [List.getElem?_append_left (by simp; omega)]; simp [h]
theorem idsA_1 {s : Sky} {i : Nat} (h : i < s.gals.length) : (idsA s)[s.stars.length + i]? = some s.gals[i].id := by
  unfold idsA
  rw [List.getElem?_append_right (by simp), List.getElem?_append_left (by simp; omega)]; simp [h]
theorem idsA_2 {s : Sky} {i : Nat} (h : i < s.bods.length) : (idsA s)[s.stars.length + s.gals.length + i]? = some s.bods[i].1 := by
  unfold idsA
  rw [List.getElem?_append_right (by simp; omega), List.getElem?_append_right (by simp; omega)]
  simp only [List.length_map]
  rw [show s.stars.length + s.gals.length + i - s.stars.length - s.gals.length = i by omega]; simp [h]
noncomputable def T : Table := tableOf [(43, en43)]
theorem T_ok : TableOk Try.prog (([] : Specs).map (·.1)) T := (table_cons Try.func43 (by kernel_rfl) (by kernel_rfl) table_nil)
/-- The sort of a row that appends made. -/
theorem sort_grown (lv : Nat) (st : Store) (k : Key) (ns : List Int) (m : Nat) (hn : ns.length = m + 1) (hl : ns.length ≤ 4194304) (h : GrownB (st k) 3 (iV ns)) :
    sortC Try.prog 39 39 [.rs 3 k (m + 1) 0 (m + 1) true] lv st = some (.tup [], upd st k ⟨m + 1, 3, iV (sortI ns), true⟩) := by
  have hv : iV ns ≠ [] := by intro e; have := congrArg List.length e; simp [iV] at this; rw [this] at hn; simp at hn
  have hb := h.2 hv
  have hil : (iV ns).length = m + 1 := by simp [iV, hn]
  have hsz : szOf Try.prog 3 = 1 := by kernel_rfl
  have hint := ints_iV ns
  have hc : 39 = 39 ∧ (st k).ver = m + 1 ∧ (st k).live = true ∧ 0 = 0 ∧ m + 1 = (st k).vs.length ∧ 0 < m + 1 ∧ m + 1 < 4611686018427387904 ∧ szOf Try.prog (st k).e = 1 := by
    rw [hb]
    exact ⟨rfl, hil, rfl, rfl, hil.symm, by omega, by omega, hsz⟩
  refine Eq.trans (if_pos hc) ?_
  rw [hb]
  simp only [hint]
theorem toDs_iV : ∀ ns : List Int, V.toD.V.toDs (iV ns) = some (ns.map (D.int .i64))
  | [] => rfl
  | n :: ns => by
    have := toDs_iV ns
    simp only [iV, List.map_cons, V.toD.V.toDs, V.toD] at this ⊢
    rw [this]
theorem sortI_len (ns : List Int) : (sortI ns).length = ns.length := by simp [sortI]
/-! ### stars -/
def JA0 (s : Sky) (k : Key) (x : Nat × Store) : Prop := x.1 ≤ s.stars.length ∧ x.2 (0, 1) = box s ∧ GrownB (x.2 k) 3 (iV ((idsA s).take (x.1))) ∧ (x.2 (0, 34)).ver = 0 ∧ (x.2 (0, 47)).ver = 0
def hA0 (s : Sky) (k : Key) (i : Nat) : List V := hd43_0 p1 (grown 3 k (i)) (.d (.sl 79 (s.stars.map Star.D))) (.d (.int .i64 s.stars.length)) (.d (.int .i64 i))
def QA0 (s : Sky) (k : Key) (x : Nat × Store) (o : Out) : Prop := ∃ st', o = some (.exit 0, hx43_0 p1 (grown 3 k (s.stars.length)), st') ∧ JA0 s k (s.stars.length, st')
theorem loopA0 (L : Nat) (call : Caller) (s : Sky) (hs : small s) (k : Key) (hk : k = (0, 21)) :
    ∀ (m : Nat) (x : Nat × Store) (env : List V), JA0 s k x → s.stars.length - x.1 < m → mask (maskOf en43.ms 0) env = hA0 s k x.1 →
      QA0 s k x (iter (evC Try.prog [] call L en43.ms 0 0 lb43_0) (maskOf en43.ms 0) m env x.2) := by
  refine iter_rel _ _ (JA0 s k) (fun x => hA0 s k x.1) (fun x => x.2) (QA0 s k) (fun x => s.stars.length - x.1) ?_
  rintro ⟨i, st⟩ ⟨hi, q1, qg, z0, z1⟩ kk hkk
  obtain ⟨hs1, hs2, hs3⟩ := hs
  simp only at hi q1 qg z0 z1
  have hlen := idsA_len s
  by_cases hin : i < s.stars.length
  case neg =>
    obtain rfl : i = s.stars.length := by omega
    have hlt : ¬ (s.stars.length : Int) < s.stars.length := by omega
    refine ⟨st, ?_, hi, q1, qg, z0, z1⟩
    simp only [lb43_0, loopN, loops, hA0, p1, hd43_0, hx43_0, Try.f43, go_sem, Nat.reduceAdd, Nat.reduceSub, Nat.reduceMul, Nat.reduceEqDiff, Nat.reduceBEq, Nat.reduceLT, Nat.reduceLeDiff, Nat.reducePow, Int.reduceToNat, Int.reduceLT, Int.reduceLE, Int.reduceGT, Int.reduceGE, Int.reduceEq, Int.reduceNeg, Int.reduceAdd, Int.reduceSub, ↓reduceIte, reduceCtorEq, hlt]
  have hlt : (i : Int) < s.stars.length := by omega
  have hx : s.stars[i]? = some s.stars[i] := by simp [hin]
  have g0 : (0 : Int) ≤ (i : Int) := by omega
  have ht : ((i : Int)).toNat = i := by omega
  have hw : IntKind.i64.wrap ((i : Int) + 1) = ((i + 1 : Nat) : Int) := by rw [IntWalk.i64_in _ (by omega)]; rfl
  have hm1 : 1 ≤ maxRow := by unfold maxRow; omega
  have hstp : iV ((idsA s).take (i)) ++ [.d (.int .i64 s.stars[i].id)] = iV ((idsA s).take ((i + 1))) := iV_step (idsA_0 hin)
  have hpl : ∀ n, n ≤ (idsA s).length → (iV ((idsA s).take n)).length = n := fun n hn => by simp only [iV, List.length_map, List.length_take]; omega
  generalize s.stars[i] = y at *
  have ha : ∀ st' : Store, GrownB (st' k) 3 (iV ((idsA s).take (i))) → appendTo Try.prog 0 21 st' 3 (grown 3 k (i)) [.d (.int .i64 y.id)] = some (grown 3 k ((i + 1)), upd st' k ⟨(i + 1), 3, iV ((idsA s).take (i)) ++ [.d (.int .i64 y.id)], true⟩) := fun st' hg =>
    appendTo_k (hpl _ (by omega)) (fun h => hk) rfl (by unfold maxRow; omega) (by simp only [go_sem, Nat.reduceAdd, Nat.reduceSub, Nat.reduceMul, Nat.reduceEqDiff, Nat.reduceBEq, Nat.reduceLT, Nat.reduceLeDiff, Nat.reducePow, Int.reduceToNat, Int.reduceLT, Int.reduceLE, Int.reduceGT, Int.reduceGE, Int.reduceEq, Int.reduceNeg, Int.reduceAdd, Int.reduceSub, ↓reduceIte, reduceCtorEq]; unfold maxRow; omega) st' hg
  simp only [hstp] at ha
  have hgl : GrownB ⟨(i + 1), 3, iV ((idsA s).take ((i + 1))), true⟩ 3 (iV ((idsA s).take ((i + 1)))) := GrownB_put _ _ _ (hpl _ (by omega))
  have hstep := fun st1 env h1 h2 h3 => (hkk (i + 1, st1) env h1 h2 h3 : QA0 s k (i + 1, st1) _)
  rcases hk with rfl
  all_goals
    simp only [lb43_0, loopN, loops, hA0, p1, hd43_0, Try.f43, go_sem, Nat.reduceAdd, Nat.reduceSub, Nat.reduceMul, Nat.reduceEqDiff, Nat.reduceBEq, Nat.reduceLT, Nat.reduceLeDiff, Nat.reducePow, Int.reduceToNat, Int.reduceLT, Int.reduceLE, Int.reduceGT, Int.reduceGE, Int.reduceEq, Int.reduceNeg, Int.reduceAdd, Int.reduceSub, ↓reduceIte, reduceCtorEq, hlt, q1, box, Sky.D, Star.D, vD, hx, g0, ht, hm1, ha, qg, hw]
    exact hstep _ _ ⟨by simp only; omega, by simp only [go_sem, Nat.reduceAdd, Nat.reduceSub, Nat.reduceMul, Nat.reduceEqDiff, Nat.reduceBEq, Nat.reduceLT, Nat.reduceLeDiff, Nat.reducePow, Int.reduceToNat, Int.reduceLT, Int.reduceLE, Int.reduceGT, Int.reduceGE, Int.reduceEq, Int.reduceNeg, Int.reduceAdd, Int.reduceSub, ↓reduceIte, reduceCtorEq, q1, box], by simp only [go_sem, Nat.reduceAdd, Nat.reduceSub, Nat.reduceMul, Nat.reduceEqDiff, Nat.reduceBEq, Nat.reduceLT, Nat.reduceLeDiff, Nat.reducePow, Int.reduceToNat, Int.reduceLT, Int.reduceLE, Int.reduceGT, Int.reduceGE, Int.reduceEq, Int.reduceNeg, Int.reduceAdd, Int.reduceSub, ↓reduceIte, reduceCtorEq]; exact hgl, by simp only [go_sem, Nat.reduceAdd, Nat.reduceSub, Nat.reduceMul, Nat.reduceEqDiff, Nat.reduceBEq, Nat.reduceLT, Nat.reduceLeDiff, Nat.reducePow, Int.reduceToNat, Int.reduceLT, Int.reduceLE, Int.reduceGT, Int.reduceGE, Int.reduceEq, Int.reduceNeg, Int.reduceAdd, Int.reduceSub, ↓reduceIte, reduceCtorEq, z0], by simp only [go_sem, Nat.reduceAdd, Nat.reduceSub, Nat.reduceMul, Nat.reduceEqDiff, Nat.reduceBEq, Nat.reduceLT, Nat.reduceLeDiff, Nat.reducePow, Int.reduceToNat, Int.reduceLT, Int.reduceLE, Int.reduceGT, Int.reduceGE, Int.reduceEq, Int.reduceNeg, Int.reduceAdd, Int.reduceSub, ↓reduceIte, reduceCtorEq, z1]⟩ (by simp only; omega) (by simp only [hA0, p1, hd43_0, Star.D, vD, go_sem, Nat.reduceAdd, Nat.reduceSub, Nat.reduceMul, Nat.reduceEqDiff, Nat.reduceBEq, Nat.reduceLT, Nat.reduceLeDiff, Nat.reducePow, Int.reduceToNat, Int.reduceLT, Int.reduceLE, Int.reduceGT, Int.reduceGE, Int.reduceEq, Int.reduceNeg, Int.reduceAdd, Int.reduceSub, ↓reduceIte, reduceCtorEq, hw])
/-! ### gals -/
def JA1 (s : Sky) (k : Key) (x : Nat × Store) : Prop := x.1 ≤ s.gals.length ∧ x.2 (0, 1) = box s ∧ GrownB (x.2 k) 3 (iV ((idsA s).take (s.stars.length + x.1))) ∧ (x.2 (0, 47)).ver = 0
def hA1 (s : Sky) (k : Key) (i : Nat) : List V := hd43_2 p1 (grown 3 k (s.stars.length + i)) (.d (.sl 76 (s.gals.map Gal.D))) (.d (.int .i64 s.gals.length)) (.d (.int .i64 i))
def QA1 (s : Sky) (k : Key) (x : Nat × Store) (o : Out) : Prop := ∃ st', o = some (.exit 2, hx43_2 p1 (grown 3 k (s.stars.length + s.gals.length)), st') ∧ JA1 s k (s.gals.length, st')
theorem loopA1 (L : Nat) (call : Caller) (s : Sky) (hs : small s) (k : Key) (hk : k = (0, 21) ∨ k = (0, 34)) (hk0 : s.stars.length = 0 → k = (0, 34)) :
    ∀ (m : Nat) (x : Nat × Store) (env : List V), JA1 s k x → s.gals.length - x.1 < m → mask (maskOf en43.ms 2) env = hA1 s k x.1 →
      QA1 s k x (iter (evC Try.prog [] call L en43.ms 0 2 lb43_2) (maskOf en43.ms 2) m env x.2) := by
  refine iter_rel _ _ (JA1 s k) (fun x => hA1 s k x.1) (fun x => x.2) (QA1 s k) (fun x => s.gals.length - x.1) ?_
  rintro ⟨i, st⟩ ⟨hi, q1, qg, z0⟩ kk hkk
  obtain ⟨hs1, hs2, hs3⟩ := hs
  simp only at hi q1 qg z0
  have hlen := idsA_len s
  by_cases hin : i < s.gals.length
  case neg =>
    obtain rfl : i = s.gals.length := by omega
    have hlt : ¬ (s.gals.length : Int) < s.gals.length := by omega
    refine ⟨st, ?_, hi, q1, qg, z0⟩
    simp only [lb43_2, loopN, loops, hA1, p1, hd43_2, hx43_2, Try.f43, go_sem, Nat.reduceAdd, Nat.reduceSub, Nat.reduceMul, Nat.reduceEqDiff, Nat.reduceBEq, Nat.reduceLT, Nat.reduceLeDiff, Nat.reducePow, Int.reduceToNat, Int.reduceLT, Int.reduceLE, Int.reduceGT, Int.reduceGE, Int.reduceEq, Int.reduceNeg, Int.reduceAdd, Int.reduceSub, ↓reduceIte, reduceCtorEq, hlt]
  have hlt : (i : Int) < s.gals.length := by omega
  have hx : s.gals[i]? = some s.gals[i] := by simp [hin]
  have g0 : (0 : Int) ≤ (i : Int) := by omega
  have ht : ((i : Int)).toNat = i := by omega
  have hw : IntKind.i64.wrap ((i : Int) + 1) = ((i + 1 : Nat) : Int) := by rw [IntWalk.i64_in _ (by omega)]; rfl
  have hm1 : 1 ≤ maxRow := by unfold maxRow; omega
  have hstp : iV ((idsA s).take (s.stars.length + i)) ++ [.d (.int .i64 s.gals[i].id)] = iV ((idsA s).take (s.stars.length + (i + 1))) := iV_step (idsA_1 hin)
  have hpl : ∀ n, n ≤ (idsA s).length → (iV ((idsA s).take n)).length = n := fun n hn => by simp only [iV, List.length_map, List.length_take]; omega
  generalize s.gals[i] = y at *
  have ha : ∀ st' : Store, GrownB (st' k) 3 (iV ((idsA s).take (s.stars.length + i))) → appendTo Try.prog 0 34 st' 3 (grown 3 k (s.stars.length + i)) [.d (.int .i64 y.id)] = some (grown 3 k (s.stars.length + (i + 1)), upd st' k ⟨s.stars.length + (i + 1), 3, iV ((idsA s).take (s.stars.length + i)) ++ [.d (.int .i64 y.id)], true⟩) := fun st' hg =>
    appendTo_k (hpl _ (by omega)) (fun h => hk0 (by omega)) rfl (by unfold maxRow; omega) (by simp only [go_sem, Nat.reduceAdd, Nat.reduceSub, Nat.reduceMul, Nat.reduceEqDiff, Nat.reduceBEq, Nat.reduceLT, Nat.reduceLeDiff, Nat.reducePow, Int.reduceToNat, Int.reduceLT, Int.reduceLE, Int.reduceGT, Int.reduceGE, Int.reduceEq, Int.reduceNeg, Int.reduceAdd, Int.reduceSub, ↓reduceIte, reduceCtorEq]; unfold maxRow; omega) st' hg
  simp only [hstp] at ha
  have hgl : GrownB ⟨s.stars.length + (i + 1), 3, iV ((idsA s).take (s.stars.length + (i + 1))), true⟩ 3 (iV ((idsA s).take (s.stars.length + (i + 1)))) := GrownB_put _ _ _ (hpl _ (by omega))
  have hstep := fun st1 env h1 h2 h3 => (hkk (i + 1, st1) env h1 h2 h3 : QA1 s k (i + 1, st1) _)
  rcases hk with rfl | rfl
  all_goals
    simp only [lb43_2, loopN, loops, hA1, p1, hd43_2, Try.f43, go_sem, Nat.reduceAdd, Nat.reduceSub, Nat.reduceMul, Nat.reduceEqDiff, Nat.reduceBEq, Nat.reduceLT, Nat.reduceLeDiff, Nat.reducePow, Int.reduceToNat, Int.reduceLT, Int.reduceLE, Int.reduceGT, Int.reduceGE, Int.reduceEq, Int.reduceNeg, Int.reduceAdd, Int.reduceSub, ↓reduceIte, reduceCtorEq, hlt, q1, box, Sky.D, Gal.D, vD, hx, g0, ht, hm1, ha, qg, hw]
    exact hstep _ _ ⟨by simp only; omega, by simp only [go_sem, Nat.reduceAdd, Nat.reduceSub, Nat.reduceMul, Nat.reduceEqDiff, Nat.reduceBEq, Nat.reduceLT, Nat.reduceLeDiff, Nat.reducePow, Int.reduceToNat, Int.reduceLT, Int.reduceLE, Int.reduceGT, Int.reduceGE, Int.reduceEq, Int.reduceNeg, Int.reduceAdd, Int.reduceSub, ↓reduceIte, reduceCtorEq, q1, box], by simp only [go_sem, Nat.reduceAdd, Nat.reduceSub, Nat.reduceMul, Nat.reduceEqDiff, Nat.reduceBEq, Nat.reduceLT, Nat.reduceLeDiff, Nat.reducePow, Int.reduceToNat, Int.reduceLT, Int.reduceLE, Int.reduceGT, Int.reduceGE, Int.reduceEq, Int.reduceNeg, Int.reduceAdd, Int.reduceSub, ↓reduceIte, reduceCtorEq]; exact hgl, by simp only [go_sem, Nat.reduceAdd, Nat.reduceSub, Nat.reduceMul, Nat.reduceEqDiff, Nat.reduceBEq, Nat.reduceLT, Nat.reduceLeDiff, Nat.reducePow, Int.reduceToNat, Int.reduceLT, Int.reduceLE, Int.reduceGT, Int.reduceGE, Int.reduceEq, Int.reduceNeg, Int.reduceAdd, Int.reduceSub, ↓reduceIte, reduceCtorEq, z0]⟩ (by simp only; omega) (by simp only [hA1, p1, hd43_2, Gal.D, vD, go_sem, Nat.reduceAdd, Nat.reduceSub, Nat.reduceMul, Nat.reduceEqDiff, Nat.reduceBEq, Nat.reduceLT, Nat.reduceLeDiff, Nat.reducePow, Int.reduceToNat, Int.reduceLT, Int.reduceLE, Int.reduceGT, Int.reduceGE, Int.reduceEq, Int.reduceNeg, Int.reduceAdd, Int.reduceSub, ↓reduceIte, reduceCtorEq, hw])
/-! ### bods -/
def JA2 (s : Sky) (k : Key) (x : Nat × Store) : Prop := x.1 ≤ s.bods.length ∧ x.2 (0, 1) = box s ∧ GrownB (x.2 k) 3 (iV ((idsA s).take (s.stars.length + s.gals.length + x.1)))
def hA2 (s : Sky) (k : Key) (i : Nat) : List V := hd43_4 (grown 3 k (s.stars.length + s.gals.length + i)) (.d (.sl 39 (s.bods.map bD))) (.d (.int .i64 s.bods.length)) (.d (.int .i64 i))
def QA2 (s : Sky) (k : Key) (x : Nat × Store) (o : Out) : Prop := ∃ st', o = some (.exit 4, hx43_4 (grown 3 k (s.stars.length + s.gals.length + s.bods.length)), st') ∧ JA2 s k (s.bods.length, st')
theorem loopA2 (L : Nat) (call : Caller) (s : Sky) (hs : small s) (k : Key) (hk : k = (0, 21) ∨ k = (0, 34) ∨ k = (0, 47)) (hk0 : s.stars.length + s.gals.length = 0 → k = (0, 47)) :
    ∀ (m : Nat) (x : Nat × Store) (env : List V), JA2 s k x → s.bods.length - x.1 < m → mask (maskOf en43.ms 4) env = hA2 s k x.1 →
      QA2 s k x (iter (evC Try.prog [] call L en43.ms 0 4 lb43_4) (maskOf en43.ms 4) m env x.2) := by
  refine iter_rel _ _ (JA2 s k) (fun x => hA2 s k x.1) (fun x => x.2) (QA2 s k) (fun x => s.bods.length - x.1) ?_
  rintro ⟨i, st⟩ ⟨hi, q1, qg⟩ kk hkk
  obtain ⟨hs1, hs2, hs3⟩ := hs
  simp only at hi q1 qg
  have hlen := idsA_len s
  by_cases hin : i < s.bods.length
  case neg =>
    obtain rfl : i = s.bods.length := by omega
    have hlt : ¬ (s.bods.length : Int) < s.bods.length := by omega
    refine ⟨st, ?_, hi, q1, qg⟩
    simp only [lb43_4, loopN, loops, hA2, p1, hd43_4, hx43_4, Try.f43, go_sem, Nat.reduceAdd, Nat.reduceSub, Nat.reduceMul, Nat.reduceEqDiff, Nat.reduceBEq, Nat.reduceLT, Nat.reduceLeDiff, Nat.reducePow, Int.reduceToNat, Int.reduceLT, Int.reduceLE, Int.reduceGT, Int.reduceGE, Int.reduceEq, Int.reduceNeg, Int.reduceAdd, Int.reduceSub, ↓reduceIte, reduceCtorEq, hlt]
  have hlt : (i : Int) < s.bods.length := by omega
  have hx : s.bods[i]? = some s.bods[i] := by simp [hin]
  have g0 : (0 : Int) ≤ (i : Int) := by omega
  have ht : ((i : Int)).toNat = i := by omega
  have hw : IntKind.i64.wrap ((i : Int) + 1) = ((i + 1 : Nat) : Int) := by rw [IntWalk.i64_in _ (by omega)]; rfl
  have hm1 : 1 ≤ maxRow := by unfold maxRow; omega
  have hstp : iV ((idsA s).take (s.stars.length + s.gals.length + i)) ++ [.d (.int .i64 s.bods[i].1)] = iV ((idsA s).take (s.stars.length + s.gals.length + (i + 1))) := iV_step (idsA_2 hin)
  have hpl : ∀ n, n ≤ (idsA s).length → (iV ((idsA s).take n)).length = n := fun n hn => by simp only [iV, List.length_map, List.length_take]; omega
  generalize s.bods[i] = y at *
  have ha : ∀ st' : Store, GrownB (st' k) 3 (iV ((idsA s).take (s.stars.length + s.gals.length + i))) → appendTo Try.prog 0 47 st' 3 (grown 3 k (s.stars.length + s.gals.length + i)) [.d (.int .i64 y.1)] = some (grown 3 k (s.stars.length + s.gals.length + (i + 1)), upd st' k ⟨s.stars.length + s.gals.length + (i + 1), 3, iV ((idsA s).take (s.stars.length + s.gals.length + i)) ++ [.d (.int .i64 y.1)], true⟩) := fun st' hg =>
    appendTo_k (hpl _ (by omega)) (fun h => hk0 (by omega)) rfl (by unfold maxRow; omega) (by simp only [go_sem, Nat.reduceAdd, Nat.reduceSub, Nat.reduceMul, Nat.reduceEqDiff, Nat.reduceBEq, Nat.reduceLT, Nat.reduceLeDiff, Nat.reducePow, Int.reduceToNat, Int.reduceLT, Int.reduceLE, Int.reduceGT, Int.reduceGE, Int.reduceEq, Int.reduceNeg, Int.reduceAdd, Int.reduceSub, ↓reduceIte, reduceCtorEq]; unfold maxRow; omega) st' hg
  simp only [hstp] at ha
  have hgl : GrownB ⟨s.stars.length + s.gals.length + (i + 1), 3, iV ((idsA s).take (s.stars.length + s.gals.length + (i + 1))), true⟩ 3 (iV ((idsA s).take (s.stars.length + s.gals.length + (i + 1)))) := GrownB_put _ _ _ (hpl _ (by omega))
  have hstep := fun st1 env h1 h2 h3 => (hkk (i + 1, st1) env h1 h2 h3 : QA2 s k (i + 1, st1) _)
  rcases hk with rfl | rfl | rfl
  all_goals
    simp only [lb43_4, loopN, loops, hA2, p1, hd43_4, Try.f43, go_sem, Nat.reduceAdd, Nat.reduceSub, Nat.reduceMul, Nat.reduceEqDiff, Nat.reduceBEq, Nat.reduceLT, Nat.reduceLeDiff, Nat.reducePow, Int.reduceToNat, Int.reduceLT, Int.reduceLE, Int.reduceGT, Int.reduceGE, Int.reduceEq, Int.reduceNeg, Int.reduceAdd, Int.reduceSub, ↓reduceIte, reduceCtorEq, hlt, q1, box, Sky.D, bD, vD, hx, g0, ht, hm1, ha, qg, hw]
    exact hstep _ _ ⟨by simp only; omega, by simp only [go_sem, Nat.reduceAdd, Nat.reduceSub, Nat.reduceMul, Nat.reduceEqDiff, Nat.reduceBEq, Nat.reduceLT, Nat.reduceLeDiff, Nat.reducePow, Int.reduceToNat, Int.reduceLT, Int.reduceLE, Int.reduceGT, Int.reduceGE, Int.reduceEq, Int.reduceNeg, Int.reduceAdd, Int.reduceSub, ↓reduceIte, reduceCtorEq, q1, box], by simp only [go_sem, Nat.reduceAdd, Nat.reduceSub, Nat.reduceMul, Nat.reduceEqDiff, Nat.reduceBEq, Nat.reduceLT, Nat.reduceLeDiff, Nat.reducePow, Int.reduceToNat, Int.reduceLT, Int.reduceLE, Int.reduceGT, Int.reduceGE, Int.reduceEq, Int.reduceNeg, Int.reduceAdd, Int.reduceSub, ↓reduceIte, reduceCtorEq]; exact hgl⟩ (by simp only; omega) (by simp only [hA2, p1, hd43_4, bD, vD, go_sem, Nat.reduceAdd, Nat.reduceSub, Nat.reduceMul, Nat.reduceEqDiff, Nat.reduceBEq, Nat.reduceLT, Nat.reduceLeDiff, Nat.reducePow, Int.reduceToNat, Int.reduceLT, Int.reduceLE, Int.reduceGT, Int.reduceGE, Int.reduceEq, Int.reduceNeg, Int.reduceAdd, Int.reduceSub, ↓reduceIte, reduceCtorEq, hw])
/-! ### as a whole -/
noncomputable def sIds : Ev.Spec := specC (cOne cSky) small fun s => [.sl 3 ((sortI (idsA s)).map (.int .i64))]
theorem eIds (s : Sky) (hs : small s) : topR (evB Try.prog [] T (s.stars.length + s.gals.length + s.bods.length + 1) (sortC Try.prog 39) 43 [.d s.D] 0 empty) = some [.sl 3 ((sortI (idsA s)).map (.int .i64))] := by
  have hlen := idsA_len s
  have hsm : (idsA s).length ≤ 4194304 := by obtain ⟨a, b, c⟩ := hs; omega
  rw [evB_s (fn := Try.f43) (msk := en43.ms) (hT := by rfl) (hb := by rfl)]
  simp only [Try.f43, go_sem, Nat.reduceAdd, Nat.reduceSub, Nat.reduceMul, Nat.reduceEqDiff, Nat.reduceBEq, Nat.reduceLT, Nat.reduceLeDiff, Nat.reducePow, Int.reduceToNat, Int.reduceLT, Int.reduceLE, Int.reduceGT, Int.reduceGE, Int.reduceEq, Int.reduceNeg, Int.reduceAdd, Int.reduceSub, ↓reduceIte, reduceCtorEq, Sky.D]
  refine loop_then (R := QA0 s (0, 21) (0, _)) (loopA0 _ _ s hs (0, 21) rfl _ (0, _) _ ⟨by simp only; omega, by simp only [go_sem, Nat.reduceAdd, Nat.reduceSub, Nat.reduceMul, Nat.reduceEqDiff, Nat.reduceBEq, Nat.reduceLT, Nat.reduceLeDiff, Nat.reducePow, Int.reduceToNat, Int.reduceLT, Int.reduceLE, Int.reduceGT, Int.reduceGE, Int.reduceEq, Int.reduceNeg, Int.reduceAdd, Int.reduceSub, ↓reduceIte, reduceCtorEq, box, Sky.D], by simp only [go_sem, Nat.reduceAdd, Nat.reduceSub, Nat.reduceMul, Nat.reduceEqDiff, Nat.reduceBEq, Nat.reduceLT, Nat.reduceLeDiff, Nat.reducePow, Int.reduceToNat, Int.reduceLT, Int.reduceLE, Int.reduceGT, Int.reduceGE, Int.reduceEq, Int.reduceNeg, Int.reduceAdd, Int.reduceSub, ↓reduceIte, reduceCtorEq]; exact GrownB_0 _ rfl, by simp only [go_sem, Nat.reduceAdd, Nat.reduceSub, Nat.reduceMul, Nat.reduceEqDiff, Nat.reduceBEq, Nat.reduceLT, Nat.reduceLeDiff, Nat.reducePow, Int.reduceToNat, Int.reduceLT, Int.reduceLE, Int.reduceGT, Int.reduceGE, Int.reduceEq, Int.reduceNeg, Int.reduceAdd, Int.reduceSub, ↓reduceIte, reduceCtorEq, empty], by simp only [go_sem, Nat.reduceAdd, Nat.reduceSub, Nat.reduceMul, Nat.reduceEqDiff, Nat.reduceBEq, Nat.reduceLT, Nat.reduceLeDiff, Nat.reducePow, Int.reduceToNat, Int.reduceLT, Int.reduceLE, Int.reduceGT, Int.reduceGE, Int.reduceEq, Int.reduceNeg, Int.reduceAdd, Int.reduceSub, ↓reduceIte, reduceCtorEq, empty]⟩ (by simp only; omega) (by simp only [hA0, p1, hd43_0, grown, go_sem, Nat.reduceAdd, Nat.reduceSub, Nat.reduceMul, Nat.reduceEqDiff, Nat.reduceBEq, Nat.reduceLT, Nat.reduceLeDiff, Nat.reducePow, Int.reduceToNat, Int.reduceLT, Int.reduceLE, Int.reduceGT, Int.reduceGE, Int.reduceEq, Int.reduceNeg, Int.reduceAdd, Int.reduceSub, ↓reduceIte, reduceCtorEq])) ?_
  rintro o ⟨st1, rfl, _, q1, qg, z0, z1⟩
  simp only at q1 qg z0 z1
  obtain ⟨k1, hk1, hz1, hgr1, qk1⟩ : ∃ k1 : Key, (k1 = (0, 21) ∨ k1 = (0, 34)) ∧ (s.stars.length = 0 → k1 = (0, 34)) ∧ grown 3 (0, 21) (s.stars.length) = grown 3 k1 (s.stars.length) ∧ GrownB (st1 k1) 3 (iV ((idsA s).take (s.stars.length))) := by
    by_cases h : s.stars.length = 0
    · refine ⟨(0, 34), .inr rfl, fun _ => rfl, by rw [h]; rfl, ?_⟩
      have : iV ((idsA s).take (s.stars.length)) = [] := by rw [h]; rfl
      rw [this]; exact GrownB_0 _ z0
    · exact ⟨(0, 21), .inl rfl, fun q => absurd q h, rfl, qg⟩
  rw [hgr1]
  simp only [hx43_0, p1, go_sem, Nat.reduceAdd, Nat.reduceSub, Nat.reduceMul, Nat.reduceEqDiff, Nat.reduceBEq, Nat.reduceLT, Nat.reduceLeDiff, Nat.reducePow, Int.reduceToNat, Int.reduceLT, Int.reduceLE, Int.reduceGT, Int.reduceGE, Int.reduceEq, Int.reduceNeg, Int.reduceAdd, Int.reduceSub, ↓reduceIte, reduceCtorEq, q1, box, Sky.D]
  refine loop_then (R := QA1 s k1 (0, _)) (loopA1 _ _ s hs k1 hk1 hz1 _ (0, _) _ ⟨by simp only; omega, q1, qk1, z1⟩ (by simp only; omega) (by simp only [hA1, p1, hd43_2, Nat.add_zero, go_sem, Nat.reduceAdd, Nat.reduceSub, Nat.reduceMul, Nat.reduceEqDiff, Nat.reduceBEq, Nat.reduceLT, Nat.reduceLeDiff, Nat.reducePow, Int.reduceToNat, Int.reduceLT, Int.reduceLE, Int.reduceGT, Int.reduceGE, Int.reduceEq, Int.reduceNeg, Int.reduceAdd, Int.reduceSub, ↓reduceIte, reduceCtorEq])) ?_
  rintro o ⟨st2, rfl, _, q1, qg, z1⟩
  simp only at q1 qg z1
  obtain ⟨k2, hk2, hz2, hgr2, qk2⟩ : ∃ k2 : Key, (k2 = (0, 21) ∨ k2 = (0, 34) ∨ k2 = (0, 47)) ∧ (s.stars.length + s.gals.length = 0 → k2 = (0, 47)) ∧ grown 3 k1 (s.stars.length + s.gals.length) = grown 3 k2 (s.stars.length + s.gals.length) ∧ GrownB (st2 k2) 3 (iV ((idsA s).take (s.stars.length + s.gals.length))) := by
    by_cases h : s.stars.length + s.gals.length = 0
    · refine ⟨(0, 47), .inr (.inr rfl), fun _ => rfl, by rw [h]; rfl, ?_⟩
      have : iV ((idsA s).take (s.stars.length + s.gals.length)) = [] := by rw [h]; rfl
      rw [this]; exact GrownB_0 _ z1
    · exact ⟨k1, (hk1.elim .inl fun h => .inr (.inl h)), fun q => absurd q h, rfl, qg⟩
  rw [hgr2]
  simp only [hx43_2, p1, go_sem, Nat.reduceAdd, Nat.reduceSub, Nat.reduceMul, Nat.reduceEqDiff, Nat.reduceBEq, Nat.reduceLT, Nat.reduceLeDiff, Nat.reducePow, Int.reduceToNat, Int.reduceLT, Int.reduceLE, Int.reduceGT, Int.reduceGE, Int.reduceEq, Int.reduceNeg, Int.reduceAdd, Int.reduceSub, ↓reduceIte, reduceCtorEq, q1, box, Sky.D]
  refine loop_then (R := QA2 s k2 (0, _)) (loopA2 _ _ s hs k2 hk2 hz2 _ (0, _) _ ⟨by simp only; omega, q1, qk2⟩ (by simp only; omega) (by simp only [hA2, p1, hd43_4, Nat.add_zero, go_sem, Nat.reduceAdd, Nat.reduceSub, Nat.reduceMul, Nat.reduceEqDiff, Nat.reduceBEq, Nat.reduceLT, Nat.reduceLeDiff, Nat.reducePow, Int.reduceToNat, Int.reduceLT, Int.reduceLE, Int.reduceGT, Int.reduceGE, Int.reduceEq, Int.reduceNeg, Int.reduceAdd, Int.reduceSub, ↓reduceIte, reduceCtorEq])) ?_
  rintro o ⟨st3, rfl, _, q1, qg⟩
  simp only at q1 qg
  rw [← hlen] at qg ⊢
  rw [List.take_length] at qg
  generalize idsA s = ns at *
  clear hlen
  cases hm : ns.length with
  | zero =>
    have hns : ns = [] := List.eq_nil_of_length_eq_zero hm
    have hso : sortC Try.prog 39 39 [.nils 3] = fun lv st => some (.tup [], st) := by
      funext lv st; unfold sortC; rw [if_pos rfl]
    subst hns
    simp only [hx43_4, grown, go_sem, Nat.reduceAdd, Nat.reduceSub, Nat.reduceMul, Nat.reduceEqDiff, Nat.reduceBEq, Nat.reduceLT, Nat.reduceLeDiff, Nat.reducePow, Int.reduceToNat, Int.reduceLT, Int.reduceLE, Int.reduceGT, Int.reduceGE, Int.reduceEq, Int.reduceNeg, Int.reduceAdd, Int.reduceSub, ↓reduceIte, reduceCtorEq, hso, sortI, List.mergeSort_nil]
  | succ m =>
    have hso := fun lv => sort_grown lv st3 k2 ns m hm hsm qg
    have hl3 : (sortI ns).length = m + 1 := by rw [sortI_len, hm]
    have htk : (List.map (fun n => V.d (.int .i64 n)) (sortI ns)).take (m + 1) = List.map (fun n => V.d (.int .i64 n)) (sortI ns) := List.take_of_length_le (by simp [hl3])
    simp only [hx43_4, grown, go_sem, Nat.reduceAdd, Nat.reduceSub, Nat.reduceMul, Nat.reduceEqDiff, Nat.reduceBEq, Nat.reduceLT, Nat.reduceLeDiff, Nat.reducePow, Int.reduceToNat, Int.reduceLT, Int.reduceLE, Int.reduceGT, Int.reduceGE, Int.reduceEq, Int.reduceNeg, Int.reduceAdd, Int.reduceSub, ↓reduceIte, reduceCtorEq, hso]
    unfold iV
    simp only [go_sem, Nat.reduceAdd, Nat.reduceSub, Nat.reduceMul, Nat.reduceEqDiff, Nat.reduceBEq, Nat.reduceLT, Nat.reduceLeDiff, Nat.reducePow, Int.reduceToNat, Int.reduceLT, Int.reduceLE, Int.reduceGT, Int.reduceGE, Int.reduceEq, Int.reduceNeg, Int.reduceAdd, Int.reduceSub, ↓reduceIte, reduceCtorEq, hl3, htk, Nat.zero_add, Nat.le_refl, mapO_fin]
theorem ids_ok : SpecOk Try.prog 43 sIds := spec_of_caller fun s hs => ⟨evB Try.prog [] T (s.stars.length + s.gals.length + s.bods.length + 1) (sortC Try.prog 39), evB_sound mixed specs_nil T_ok (sortC_ok SortP.sort_ok), eIds s hs⟩
#print axioms ids_ok
end Go.Proofs.YtmhjmjodchbhlaaR.IdsIds
end
section
set_option linter.unusedVariables false
set_option linter.unusedSimpArgs false
set_option maxRecDepth 100000
namespace Go.Proofs.YtmhjmjodchbhlaaR.TopSkyChecks
open Go.Ev Go.Ari Go.Proofs.YtmhjmjodchbhlaaR.FxIds Go.Proofs.YtmhjmjodchbhlaaR.PullPull Go.Proofs.YtmhjmjodchbhlaaR.TypesRate Go.Proofs.YtmhjmjodchbhlaaR.SkiesPull Go.Proofs.YtmhjmjodchbhlaaR.SkyInRate
open Go.Proofs.YtmhjmjodchbhlaaR.PathPath (Bod bD)
open Go.Proofs.YtmhjmjodchbhlaaR.ThingsRate (small loop_then)
open Go.Proofs.YtmhjmjodchbhlaaR.SkyFRate (okSky sFault skyFault_ok)
open Go.Proofs.YtmhjmjodchbhlaaR.SkyCRate (check_ok)
open Go.Proofs.YtmhjmjodchbhlaaR.RateARate (sFault_run sky_D)
open Go.Proofs.YtmhjmjodchbhlaaR.FaultRate (fault)
open Go.Proofs.YtmhjmjodchbhlaaR.IdsIds (box p1 idsA idsA_len iV_step sort_grown toDs_iV sortI_len sIds ids_ok)
open Go.Proofs.YtmhjmjodchbhlaaR.Eq42Ids (s42 s42_ok s42_run)
attribute [local go_sem] Ev.putR_s Ev.putR_0 Ev.thenO_s Ev.thenO_0 Ev.seqR_n Ev.seqR_e Ev.seqR_r Ev.seqR_0 Ev.blkR_e Ev.blkR_n Ev.blkR_r Ev.blkR_0 Ev.normR_s Ev.normR_0 Ev.outR_r Ev.outR_n Ev.outR_0 Ev.retS_s Ev.retS_0 Ev.pureO_s Ev.pureO_0 Ev.topR_0 Ev.topR_t Ev.topR_t0 Ev.oneL_0 Ev.oneL_s Ev.topR_d Ev.topR_nils Ev.topR_agg Ev.topR_rs Ev.evOp_move Ev.evOp_assign Ev.evOp_pick Ev.evOp_alloc Ev.evOp_box Ev.evOp_build Ev.evOp_buildSlice Ev.evOp_load Ev.evOp_store Ev.evOp_makeMap Ev.evOp_lookup Ev.evOp_mapUpdate Ev.evOp_insert Ev.evOp_nilCheck Ev.evOp_binOp Ev.evOp_unOp Ev.evOp_convert Ev.evOp_makeFunc Ev.evOp_makeSlice Ev.evOp_slice Ev.evOp_fieldAddr Ev.evOp_field Ev.evOp_indexAddr Ev.evOp_index Ev.evOp_extract Ev.evOp_call Ev.evOp_append Ev.evOp_len Ev.evOp_min Ev.evOp_max Ev.condR_b Ev.condR_t Ev.evOps_nil Ev.evOps_plain Ev.evOps_guard Ev.runG_eq Ev.skipG_eq Ev.condL_tt Ev.condL_ff Ev.condL_tf Ev.condL_ft Ev.condL_u Ev.condC_t Ev.condC_f Ev.evC_skip Ev.evC_ret Ev.evC_exit Ev.evC_label Ev.evC_region Ev.evC_draw Ev.evC_seq Ev.evC_cond Ev.evC_block Ev.evC_loop Ev.fin_d Ev.fin_nils Ev.fin_agg_ Ev.fin_rs Ev.finS_s Ev.mapO_fin Ev.upd_upd Ev.argv_d Ev.argv_nils Ev.argv_agg Ev.argv_rs Ev.argv_p Ev.appendTo_nils Ev.appendTo_rs Ev.consV_d Ev.consV_agg Ev.consV_p Ev.consV_rs Ev.consV_nils Ev.consV_fn Ev.consV_und Ev.consV_jk Ev.consV_grown Ev.topR_grown Ev.len_grown Ev.consV_mp Ev.sameK_i Ev.sameK_s Ev.mget_0 Ev.mget_hit Ev.mget_miss Ev.mput_0 Ev.mput_hit Ev.mput_miss Ev.apartAll Ev.apartL Ev.apartV Ev.freeAll Ev.sel Ev.keyOfV Ev.evLookup Ev.evPut Ev.hintOk Ev.keyOk Ev.consP Ev.lookV Ev.guardV Ev.dstAt Ev.evPure Ev.evStore Ev.evPureB Ev.evBin Ev.evBinO Ev.evNil Ev.isNilC Ev.evUn Ev.evConv Ev.evSlice Ev.optI Ev.lenV Ev.elemT Ev.foldI Ev.capsOk Ev.noTup Ev.nth Ev.setN Ev.pad Ev.V.get Ev.V.put Ev.putD Ev.hasT Ev.newBlk Ev.upd Ev.keq Ev.empty Ev.evCall Ev.V.args Ev.argP Ev.callOf Ev.evNilP Ev.isNilP Ev.look Ev.V.view.views Ev.V.view Ev.V.toD Ev.V.toD.V.toDs Ev.V.pure.pures Ev.V.pure Ev.D.flat.flats Ev.D.flat Ev.mkAgg Ev.allD Ev.aggParts Ev.setParts Ev.setElems Ev.getPath Ev.setPath Ev.subL Ev.eqD Ev.eqD.eqDs Ev.and2 Ev.strCut Ev.evalT Ev.constT Ev.evArgs Ev.mask Ev.maskOf Ev.tableOf Ev.compT Ev.resV Ev.retV Ev.mapO Ev.elemsOf Int.cast_ofNat_Int IntWalk.i64_in IntWalk.u64_in IntWalk.u8_in beq_self_eq_true Bool.true_beq Bool.false_beq Bool.and_true Bool.true_and Bool.false_and Bool.and_false Bool.and_self Bool.not_true Bool.not_false Bool.not_eq_true cond_true cond_false if_true if_false and_true true_and and_self decide_true decide_false Bool.or_true Bool.true_or Bool.or_false Bool.false_or List.isEmpty List.isEmpty_nil List.size_toArray List.map List.length_map List.length_cons List.length_nil Option.map Option.bind Option.getD Option.isSome List.replicate Bool.false_eq_true implies_true forall_const Array.toList Array.isEmpty List.append List.nil_append List.cons_append List.drop_zero List.take_length List.take_succ_cons List.take_zero List.take_nil List.getElem?_map List.getElem?_cons_zero List.getElem?_cons_succ List.getElem?_nil List.append_nil
attribute [local go_sem] FxIds.tk2 FxIds.ik2 FxIds.zv2 FxIds.tk3 FxIds.ik3 FxIds.zv3 FxIds.by3 FxIds.so3 FxIds.tk4 FxIds.ub4 FxIds.zv4 FxIds.tk23 FxIds.ct23 FxIds.zv23 FxIds.tk27 FxIds.ik27 FxIds.zv27 FxIds.tk37 FxIds.ik37 FxIds.zv37 FxIds.by37 FxIds.so37 FxIds.tk39 FxIds.ct39 FxIds.zv39 FxIds.by39 FxIds.so39 FxIds.tk43 FxIds.zv43 FxIds.tk44 FxIds.zv44 FxIds.tk45 FxIds.zv45 FxIds.tk47 FxIds.ct47 FxIds.zv47 FxIds.tk48 FxIds.ik48 FxIds.zv48 FxIds.tk74 FxIds.zv74 FxIds.tk76 FxIds.ct76 FxIds.zv76 FxIds.by76 FxIds.so76 FxIds.tk77 FxIds.zv77 FxIds.tk79 FxIds.ct79 FxIds.zv79 FxIds.by79 FxIds.so79 FxIds.dw12_18 FxIds.nc12_18 FxIds.mk12_0 FxIds.mk12_2 FxIds.mk12_4 FxIds.mk12_1000001 FxIds.mk12_1000002 FxIds.mk12_1000003 FxIds.mk12_1000004 FxIds.mk12_1000005 FxIds.mk12_1000006 FxIds.mk12_1000000 FxIds.dw42_6 FxIds.nc42_6 FxIds.mk42_0 FxIds.mk42_1000001 FxIds.mk42_1000002 FxIds.mk42_1000000 FxIds.mk43_0 FxIds.mk43_2 FxIds.mk43_4 FxIds.mk43_1000001 FxIds.mk43_1000002 FxIds.mk43_1000003 FxIds.mk43_1000004 FxIds.mk43_1000005 FxIds.mk43_1000006 FxIds.mk43_1000000
noncomputable def G : Specs := [(14, known [.bool true]), (40, sFault), (41, sFault), (43, sIds), (42, s42)]
noncomputable def T : Table := tableOf [(12, en12)]
theorem G_ok : ∀ g s, Ev.look G g = some s → SpecOk Try.prog g s := specs_cons skies_ok (specs_cons check_ok (specs_cons skyFault_ok (specs_cons ids_ok (specs_cons s42_ok specs_nil))))
theorem T_ok : TableOk Try.prog (G.map (·.1)) T := (table_cons Try.func12 (by kernel_rfl) (by kernel_rfl) table_nil)
noncomputable def base : Caller := sortC Try.prog 39
theorem base_ok : CallerOk Try.prog base := sortC_ok SortP.sort_ok
def idsB (s : Sky) : List Int := s.bods.map Prod.fst ++ (s.gals.map Gal.id ++ s.stars.map Star.id)
theorem idsB_len (s : Sky) : (idsB s).length = s.bods.length + s.gals.length + s.stars.length := by simp [idsB]; omega
theorem idsB_0 {s : Sky} {i : Nat} (h : i < s.bods.length) : (idsB s)[i]? = some s.bods[i].1 := by
  unfold idsB
  rw [List.getElem?_append_left (by simp; omega)]; simp [h]
theorem idsB_1 {s : Sky} {i : Nat} (h : i < s.gals.length) : (idsB s)[s.bods.length + i]? = some s.gals[i].id := by
  unfold idsB
  rw [List.getElem?_append_right (by simp), List.getElem?_append_left (by simp; omega)]; simp [h]
theorem idsB_2 {s : Sky} {i : Nat} (h : i < s.stars.length) : (idsB s)[s.bods.length + s.gals.length + i]? = some s.stars[i].id := by
  unfold idsB
  rw [List.getElem?_append_right (by simp; omega), List.getElem?_append_right (by simp; omega)]
  simp only [List.length_map]
  rw [show s.bods.length + s.gals.length + i - s.bods.length - s.gals.length = i by omega]; simp [h]
/-- The order in which the ids are gathered does not matter. -/
theorem sort_perm {a b : List Int} (h : a.Perm b) : sortI a = sortI b := by
  have tr : ∀ x y z : Int, decide (x ≤ y) = true → decide (y ≤ z) = true → decide (x ≤ z) = true := by intro x y z h1 h2; simp only [decide_eq_true_eq] at *; omega
  have tot : ∀ x y : Int, (decide (x ≤ y) || decide (y ≤ x)) = true := by intro x y; simp only [Bool.or_eq_true, decide_eq_true_eq]; omega
  refine List.Perm.eq_of_pairwise (le := fun x y => decide (x ≤ y) = true) ?_ (List.pairwise_mergeSort tr tot a) (List.pairwise_mergeSort tr tot b) (((List.mergeSort_perm a _).trans h).trans (List.mergeSort_perm b _).symm)
  intro x y _ _ h1 h2
  simp only [decide_eq_true_eq] at h1 h2
  omega
theorem sort_ab (s : Sky) : sortI (idsA s) = sortI (idsB s) := by
  apply sort_perm
  unfold idsA idsB
  exact (List.perm_append_comm.trans (List.perm_append_comm.append_right _)).trans (by rw [List.append_assoc])
/-! ### bods -/
def JB0 (s : Sky) (k : Key) (x : Nat × Store) : Prop := x.1 ≤ s.bods.length ∧ x.2 (0, 1) = box s ∧ GrownB (x.2 k) 3 (iV ((idsB s).take (x.1))) ∧ (x.2 (0, 34)).ver = 0 ∧ (x.2 (0, 47)).ver = 0
def hB0 (s : Sky) (k : Key) (i : Nat) : List V := hd12_0 p1 (grown 3 k (i)) (.d (.sl 39 (s.bods.map bD))) (.d (.int .i64 s.bods.length)) (.d (.int .i64 i))
def QB0 (s : Sky) (k : Key) (x : Nat × Store) (o : Out) : Prop := ∃ st', o = some (.exit 0, hx12_0 p1 (grown 3 k (s.bods.length)), st') ∧ JB0 s k (s.bods.length, st')
theorem loopB0 (L : Nat) (call : Caller) (s : Sky) (hs : small s) (k : Key) (hk : k = (0, 21)) :
    ∀ (m : Nat) (x : Nat × Store) (env : List V), JB0 s k x → s.bods.length - x.1 < m → mask (maskOf en12.ms 0) env = hB0 s k x.1 →
      QB0 s k x (iter (evC Try.prog G call L en12.ms 0 0 lb12_0) (maskOf en12.ms 0) m env x.2) := by
  refine iter_rel _ _ (JB0 s k) (fun x => hB0 s k x.1) (fun x => x.2) (QB0 s k) (fun x => s.bods.length - x.1) ?_
  rintro ⟨i, st⟩ ⟨hi, q1, qg, z0, z1⟩ kk hkk
  obtain ⟨hs1, hs2, hs3⟩ := hs
  simp only at hi q1 qg z0 z1
  have hlen := idsB_len s
  by_cases hin : i < s.bods.length
  case neg =>
    obtain rfl : i = s.bods.length := by omega
    have hlt : ¬ (s.bods.length : Int) < s.bods.length := by omega
    refine ⟨st, ?_, hi, q1, qg, z0, z1⟩
    simp only [lb12_0, loopN, loops, hB0, p1, hd12_0, hx12_0, Try.f12, go_sem, Nat.reduceAdd, Nat.reduceSub, Nat.reduceMul, Nat.reduceEqDiff, Nat.reduceBEq, Nat.reduceLT, Nat.reduceLeDiff, Nat.reducePow, Int.reduceToNat, Int.reduceLT, Int.reduceLE, Int.reduceGT, Int.reduceGE, Int.reduceEq, Int.reduceNeg, Int.reduceAdd, Int.reduceSub, ↓reduceIte, reduceCtorEq, hlt]
  have hlt : (i : Int) < s.bods.length := by omega
  have hx : s.bods[i]? = some s.bods[i] := by simp [hin]
  have g0 : (0 : Int) ≤ (i : Int) := by omega
  have ht : ((i : Int)).toNat = i := by omega
  have hw : IntKind.i64.wrap ((i : Int) + 1) = ((i + 1 : Nat) : Int) := by rw [IntWalk.i64_in _ (by omega)]; rfl
  have hm1 : 1 ≤ maxRow := by unfold maxRow; omega
  have hstp : iV ((idsB s).take (i)) ++ [.d (.int .i64 s.bods[i].1)] = iV ((idsB s).take ((i + 1))) := iV_step (idsB_0 hin)
  have hpl : ∀ n, n ≤ (idsB s).length → (iV ((idsB s).take n)).length = n := fun n hn => by simp only [iV, List.length_map, List.length_take]; omega
  generalize s.bods[i] = y at *
  have ha : ∀ st' : Store, GrownB (st' k) 3 (iV ((idsB s).take (i))) → appendTo Try.prog 0 21 st' 3 (grown 3 k (i)) [.d (.int .i64 y.1)] = some (grown 3 k ((i + 1)), upd st' k ⟨(i + 1), 3, iV ((idsB s).take (i)) ++ [.d (.int .i64 y.1)], true⟩) := fun st' hg =>
    appendTo_k (hpl _ (by omega)) (fun h => hk) rfl (by unfold maxRow; omega) (by simp only [go_sem, Nat.reduceAdd, Nat.reduceSub, Nat.reduceMul, Nat.reduceEqDiff, Nat.reduceBEq, Nat.reduceLT, Nat.reduceLeDiff, Nat.reducePow, Int.reduceToNat, Int.reduceLT, Int.reduceLE, Int.reduceGT, Int.reduceGE, Int.reduceEq, Int.reduceNeg, Int.reduceAdd, Int.reduceSub, ↓reduceIte, reduceCtorEq]; unfold maxRow; omega) st' hg
  simp only [hstp] at ha
  have hgl : GrownB ⟨(i + 1), 3, iV ((idsB s).take ((i + 1))), true⟩ 3 (iV ((idsB s).take ((i + 1)))) := GrownB_put _ _ _ (hpl _ (by omega))
  have hstep := fun st1 env h1 h2 h3 => (hkk (i + 1, st1) env h1 h2 h3 : QB0 s k (i + 1, st1) _)
  rcases hk with rfl
  all_goals
    simp only [lb12_0, loopN, loops, hB0, p1, hd12_0, Try.f12, go_sem, Nat.reduceAdd, Nat.reduceSub, Nat.reduceMul, Nat.reduceEqDiff, Nat.reduceBEq, Nat.reduceLT, Nat.reduceLeDiff, Nat.reducePow, Int.reduceToNat, Int.reduceLT, Int.reduceLE, Int.reduceGT, Int.reduceGE, Int.reduceEq, Int.reduceNeg, Int.reduceAdd, Int.reduceSub, ↓reduceIte, reduceCtorEq, hlt, q1, box, Sky.D, bD, vD, hx, g0, ht, hm1, ha, qg, hw]
    exact hstep _ _ ⟨by simp only; omega, by simp only [go_sem, Nat.reduceAdd, Nat.reduceSub, Nat.reduceMul, Nat.reduceEqDiff, Nat.reduceBEq, Nat.reduceLT, Nat.reduceLeDiff, Nat.reducePow, Int.reduceToNat, Int.reduceLT, Int.reduceLE, Int.reduceGT, Int.reduceGE, Int.reduceEq, Int.reduceNeg, Int.reduceAdd, Int.reduceSub, ↓reduceIte, reduceCtorEq, q1, box], by simp only [go_sem, Nat.reduceAdd, Nat.reduceSub, Nat.reduceMul, Nat.reduceEqDiff, Nat.reduceBEq, Nat.reduceLT, Nat.reduceLeDiff, Nat.reducePow, Int.reduceToNat, Int.reduceLT, Int.reduceLE, Int.reduceGT, Int.reduceGE, Int.reduceEq, Int.reduceNeg, Int.reduceAdd, Int.reduceSub, ↓reduceIte, reduceCtorEq]; exact hgl, by simp only [go_sem, Nat.reduceAdd, Nat.reduceSub, Nat.reduceMul, Nat.reduceEqDiff, Nat.reduceBEq, Nat.reduceLT, Nat.reduceLeDiff, Nat.reducePow, Int.reduceToNat, Int.reduceLT, Int.reduceLE, Int.reduceGT, Int.reduceGE, Int.reduceEq, Int.reduceNeg, Int.reduceAdd, Int.reduceSub, ↓reduceIte, reduceCtorEq, z0], by simp only [go_sem, Nat.reduceAdd, Nat.reduceSub, Nat.reduceMul, Nat.reduceEqDiff, Nat.reduceBEq, Nat.reduceLT, Nat.reduceLeDiff, Nat.reducePow, Int.reduceToNat, Int.reduceLT, Int.reduceLE, Int.reduceGT, Int.reduceGE, Int.reduceEq, Int.reduceNeg, Int.reduceAdd, Int.reduceSub, ↓reduceIte, reduceCtorEq, z1]⟩ (by simp only; omega) (by simp only [hB0, p1, hd12_0, bD, vD, go_sem, Nat.reduceAdd, Nat.reduceSub, Nat.reduceMul, Nat.reduceEqDiff, Nat.reduceBEq, Nat.reduceLT, Nat.reduceLeDiff, Nat.reducePow, Int.reduceToNat, Int.reduceLT, Int.reduceLE, Int.reduceGT, Int.reduceGE, Int.reduceEq, Int.reduceNeg, Int.reduceAdd, Int.reduceSub, ↓reduceIte, reduceCtorEq, hw])
/-! ### gals -/
def JB1 (s : Sky) (k : Key) (x : Nat × Store) : Prop := x.1 ≤ s.gals.length ∧ x.2 (0, 1) = box s ∧ GrownB (x.2 k) 3 (iV ((idsB s).take (s.bods.length + x.1))) ∧ (x.2 (0, 47)).ver = 0
def hB1 (s : Sky) (k : Key) (i : Nat) : List V := hd12_2 p1 (grown 3 k (s.bods.length + i)) (.d (.sl 76 (s.gals.map Gal.D))) (.d (.int .i64 s.gals.length)) (.d (.int .i64 i))
def QB1 (s : Sky) (k : Key) (x : Nat × Store) (o : Out) : Prop := ∃ st', o = some (.exit 2, hx12_2 p1 (grown 3 k (s.bods.length + s.gals.length)), st') ∧ JB1 s k (s.gals.length, st')
theorem loopB1 (L : Nat) (call : Caller) (s : Sky) (hs : small s) (k : Key) (hk : k = (0, 21) ∨ k = (0, 34)) (hk0 : s.bods.length = 0 → k = (0, 34)) :
    ∀ (m : Nat) (x : Nat × Store) (env : List V), JB1 s k x → s.gals.length - x.1 < m → mask (maskOf en12.ms 2) env = hB1 s k x.1 →
      QB1 s k x (iter (evC Try.prog G call L en12.ms 0 2 lb12_2) (maskOf en12.ms 2) m env x.2) := by
  refine iter_rel _ _ (JB1 s k) (fun x => hB1 s k x.1) (fun x => x.2) (QB1 s k) (fun x => s.gals.length - x.1) ?_
  rintro ⟨i, st⟩ ⟨hi, q1, qg, z0⟩ kk hkk
  obtain ⟨hs1, hs2, hs3⟩ := hs
  simp only at hi q1 qg z0
  have hlen := idsB_len s
  by_cases hin : i < s.gals.length
  case neg =>
    obtain rfl : i = s.gals.length := by omega
    have hlt : ¬ (s.gals.length : Int) < s.gals.length := by omega
    refine ⟨st, ?_, hi, q1, qg, z0⟩
    simp only [lb12_2, loopN, loops, hB1, p1, hd12_2, hx12_2, Try.f12, go_sem, Nat.reduceAdd, Nat.reduceSub, Nat.reduceMul, Nat.reduceEqDiff, Nat.reduceBEq, Nat.reduceLT, Nat.reduceLeDiff, Nat.reducePow, Int.reduceToNat, Int.reduceLT, Int.reduceLE, Int.reduceGT, Int.reduceGE, Int.reduceEq, Int.reduceNeg, Int.reduceAdd, Int.reduceSub, ↓reduceIte, reduceCtorEq, hlt]
  have hlt : (i : Int) < s.gals.length := by omega
  have hx : s.gals[i]? = some s.gals[i] := by simp [hin]
  have g0 : (0 : Int) ≤ (i : Int) := by omega
  have ht : ((i : Int)).toNat = i := by omega
  have hw : IntKind.i64.wrap ((i : Int) + 1) = ((i + 1 : Nat) : Int) := by rw [IntWalk.i64_in _ (by omega)]; rfl
  have hm1 : 1 ≤ maxRow := by unfold maxRow; omega
  have hstp : iV ((idsB s).take (s.bods.length + i)) ++ [.d (.int .i64 s.gals[i].id)] = iV ((idsB s).take (s.bods.length + (i + 1))) := iV_step (idsB_1 hin)
  have hpl : ∀ n, n ≤ (idsB s).length → (iV ((idsB s).take n)).length = n := fun n hn => by simp only [iV, List.length_map, List.length_take]; omega
  generalize s.gals[i] = y at *
  have ha : ∀ st' : Store, GrownB (st' k) 3 (iV ((idsB s).take (s.bods.length + i))) → appendTo Try.prog 0 34 st' 3 (grown 3 k (s.bods.length + i)) [.d (.int .i64 y.id)] = some (grown 3 k (s.bods.length + (i + 1)), upd st' k ⟨s.bods.length + (i + 1), 3, iV ((idsB s).take (s.bods.length + i)) ++ [.d (.int .i64 y.id)], true⟩) := fun st' hg =>
    appendTo_k (hpl _ (by omega)) (fun h => hk0 (by omega)) rfl (by unfold maxRow; omega) (by simp only [go_sem, Nat.reduceAdd, Nat.reduceSub, Nat.reduceMul, Nat.reduceEqDiff, Nat.reduceBEq, Nat.reduceLT, Nat.reduceLeDiff, Nat.reducePow, Int.reduceToNat, Int.reduceLT, Int.reduceLE, Int.reduceGT, Int.reduceGE, Int.reduceEq, Int.reduceNeg, Int.reduceAdd, Int.reduceSub, ↓reduceIte, reduceCtorEq]; unfold maxRow; omega) st' hg
  simp only [hstp] at ha
  have hgl : GrownB ⟨s.bods.length + (i + 1), 3, iV ((idsB s).take (s.bods.length + (i + 1))), true⟩ 3 (iV ((idsB s).take (s.bods.length + (i + 1)))) := GrownB_put _ _ _ (hpl _ (by omega))
  have hstep := fun st1 env h1 h2 h3 => (hkk (i + 1, st1) env h1 h2 h3 : QB1 s k (i + 1, st1) _)
  rcases hk with rfl | rfl
  all_goals
    simp only [lb12_2, loopN, loops, hB1, p1, hd12_2, Try.f12, go_sem, Nat.reduceAdd, Nat.reduceSub, Nat.reduceMul, Nat.reduceEqDiff, Nat.reduceBEq, Nat.reduceLT, Nat.reduceLeDiff, Nat.reducePow, Int.reduceToNat, Int.reduceLT, Int.reduceLE, Int.reduceGT, Int.reduceGE, Int.reduceEq, Int.reduceNeg, Int.reduceAdd, Int.reduceSub, ↓reduceIte, reduceCtorEq, hlt, q1, box, Sky.D, Gal.D, vD, hx, g0, ht, hm1, ha, qg, hw]
    exact hstep _ _ ⟨by simp only; omega, by simp only [go_sem, Nat.reduceAdd, Nat.reduceSub, Nat.reduceMul, Nat.reduceEqDiff, Nat.reduceBEq, Nat.reduceLT, Nat.reduceLeDiff, Nat.reducePow, Int.reduceToNat, Int.reduceLT, Int.reduceLE, Int.reduceGT, Int.reduceGE, Int.reduceEq, Int.reduceNeg, Int.reduceAdd, Int.reduceSub, ↓reduceIte, reduceCtorEq, q1, box], by simp only [go_sem, Nat.reduceAdd, Nat.reduceSub, Nat.reduceMul, Nat.reduceEqDiff, Nat.reduceBEq, Nat.reduceLT, Nat.reduceLeDiff, Nat.reducePow, Int.reduceToNat, Int.reduceLT, Int.reduceLE, Int.reduceGT, Int.reduceGE, Int.reduceEq, Int.reduceNeg, Int.reduceAdd, Int.reduceSub, ↓reduceIte, reduceCtorEq]; exact hgl, by simp only [go_sem, Nat.reduceAdd, Nat.reduceSub, Nat.reduceMul, Nat.reduceEqDiff, Nat.reduceBEq, Nat.reduceLT, Nat.reduceLeDiff, Nat.reducePow, Int.reduceToNat, Int.reduceLT, Int.reduceLE, Int.reduceGT, Int.reduceGE, Int.reduceEq, Int.reduceNeg, Int.reduceAdd, Int.reduceSub, ↓reduceIte, reduceCtorEq, z0]⟩ (by simp only; omega) (by simp only [hB1, p1, hd12_2, Gal.D, vD, go_sem, Nat.reduceAdd, Nat.reduceSub, Nat.reduceMul, Nat.reduceEqDiff, Nat.reduceBEq, Nat.reduceLT, Nat.reduceLeDiff, Nat.reducePow, Int.reduceToNat, Int.reduceLT, Int.reduceLE, Int.reduceGT, Int.reduceGE, Int.reduceEq, Int.reduceNeg, Int.reduceAdd, Int.reduceSub, ↓reduceIte, reduceCtorEq, hw])
/-! ### stars -/
def JB2 (s : Sky) (k : Key) (x : Nat × Store) : Prop := x.1 ≤ s.stars.length ∧ x.2 (0, 1) = box s ∧ GrownB (x.2 k) 3 (iV ((idsB s).take (s.bods.length + s.gals.length + x.1)))
def hB2 (s : Sky) (k : Key) (i : Nat) : List V := hd12_4 p1 (grown 3 k (s.bods.length + s.gals.length + i)) (.d (.sl 79 (s.stars.map Star.D))) (.d (.int .i64 s.stars.length)) (.d (.int .i64 i))
def QB2 (s : Sky) (k : Key) (x : Nat × Store) (o : Out) : Prop := ∃ st', o = some (.exit 4, hx12_4 p1 (grown 3 k (s.bods.length + s.gals.length + s.stars.length)), st') ∧ JB2 s k (s.stars.length, st')
theorem loopB2 (L : Nat) (call : Caller) (s : Sky) (hs : small s) (k : Key) (hk : k = (0, 21) ∨ k = (0, 34) ∨ k = (0, 47)) (hk0 : s.bods.length + s.gals.length = 0 → k = (0, 47)) :
    ∀ (m : Nat) (x : Nat × Store) (env : List V), JB2 s k x → s.stars.length - x.1 < m → mask (maskOf en12.ms 4) env = hB2 s k x.1 →
      QB2 s k x (iter (evC Try.prog G call L en12.ms 0 4 lb12_4) (maskOf en12.ms 4) m env x.2) := by
  refine iter_rel _ _ (JB2 s k) (fun x => hB2 s k x.1) (fun x => x.2) (QB2 s k) (fun x => s.stars.length - x.1) ?_
  rintro ⟨i, st⟩ ⟨hi, q1, qg⟩ kk hkk
  obtain ⟨hs1, hs2, hs3⟩ := hs
  simp only at hi q1 qg
  have hlen := idsB_len s
  by_cases hin : i < s.stars.length
  case neg =>
    obtain rfl : i = s.stars.length := by omega
    have hlt : ¬ (s.stars.length : Int) < s.stars.length := by omega
    refine ⟨st, ?_, hi, q1, qg⟩
    simp only [lb12_4, loopN, loops, hB2, p1, hd12_4, hx12_4, Try.f12, go_sem, Nat.reduceAdd, Nat.reduceSub, Nat.reduceMul, Nat.reduceEqDiff, Nat.reduceBEq, Nat.reduceLT, Nat.reduceLeDiff, Nat.reducePow, Int.reduceToNat, Int.reduceLT, Int.reduceLE, Int.reduceGT, Int.reduceGE, Int.reduceEq, Int.reduceNeg, Int.reduceAdd, Int.reduceSub, ↓reduceIte, reduceCtorEq, hlt]
  have hlt : (i : Int) < s.stars.length := by omega
  have hx : s.stars[i]? = some s.stars[i] := by simp [hin]
  have g0 : (0 : Int) ≤ (i : Int) := by omega
  have ht : ((i : Int)).toNat = i := by omega
  have hw : IntKind.i64.wrap ((i : Int) + 1) = ((i + 1 : Nat) : Int) := by rw [IntWalk.i64_in _ (by omega)]; rfl
  have hm1 : 1 ≤ maxRow := by unfold maxRow; omega
  have hstp : iV ((idsB s).take (s.bods.length + s.gals.length + i)) ++ [.d (.int .i64 s.stars[i].id)] = iV ((idsB s).take (s.bods.length + s.gals.length + (i + 1))) := iV_step (idsB_2 hin)
  have hpl : ∀ n, n ≤ (idsB s).length → (iV ((idsB s).take n)).length = n := fun n hn => by simp only [iV, List.length_map, List.length_take]; omega
  generalize s.stars[i] = y at *
  have ha : ∀ st' : Store, GrownB (st' k) 3 (iV ((idsB s).take (s.bods.length + s.gals.length + i))) → appendTo Try.prog 0 47 st' 3 (grown 3 k (s.bods.length + s.gals.length + i)) [.d (.int .i64 y.id)] = some (grown 3 k (s.bods.length + s.gals.length + (i + 1)), upd st' k ⟨s.bods.length + s.gals.length + (i + 1), 3, iV ((idsB s).take (s.bods.length + s.gals.length + i)) ++ [.d (.int .i64 y.id)], true⟩) := fun st' hg =>
    appendTo_k (hpl _ (by omega)) (fun h => hk0 (by omega)) rfl (by unfold maxRow; omega) (by simp only [go_sem, Nat.reduceAdd, Nat.reduceSub, Nat.reduceMul, Nat.reduceEqDiff, Nat.reduceBEq, Nat.reduceLT, Nat.reduceLeDiff, Nat.reducePow, Int.reduceToNat, Int.reduceLT, Int.reduceLE, Int.reduceGT, Int.reduceGE, Int.reduceEq, Int.reduceNeg, Int.reduceAdd, Int.reduceSub, ↓reduceIte, reduceCtorEq]; unfold maxRow; omega) st' hg
  simp only [hstp] at ha
  have hgl : GrownB ⟨s.bods.length + s.gals.length + (i + 1), 3, iV ((idsB s).take (s.bods.length + s.gals.length + (i + 1))), true⟩ 3 (iV ((idsB s).take (s.bods.length + s.gals.length + (i + 1)))) := GrownB_put _ _ _ (hpl _ (by omega))
  have hstep := fun st1 env h1 h2 h3 => (hkk (i + 1, st1) env h1 h2 h3 : QB2 s k (i + 1, st1) _)
  rcases hk with rfl | rfl | rfl
  all_goals
    simp only [lb12_4, loopN, loops, hB2, p1, hd12_4, Try.f12, go_sem, Nat.reduceAdd, Nat.reduceSub, Nat.reduceMul, Nat.reduceEqDiff, Nat.reduceBEq, Nat.reduceLT, Nat.reduceLeDiff, Nat.reducePow, Int.reduceToNat, Int.reduceLT, Int.reduceLE, Int.reduceGT, Int.reduceGE, Int.reduceEq, Int.reduceNeg, Int.reduceAdd, Int.reduceSub, ↓reduceIte, reduceCtorEq, hlt, q1, box, Sky.D, Star.D, vD, hx, g0, ht, hm1, ha, qg, hw]
    exact hstep _ _ ⟨by simp only; omega, by simp only [go_sem, Nat.reduceAdd, Nat.reduceSub, Nat.reduceMul, Nat.reduceEqDiff, Nat.reduceBEq, Nat.reduceLT, Nat.reduceLeDiff, Nat.reducePow, Int.reduceToNat, Int.reduceLT, Int.reduceLE, Int.reduceGT, Int.reduceGE, Int.reduceEq, Int.reduceNeg, Int.reduceAdd, Int.reduceSub, ↓reduceIte, reduceCtorEq, q1, box], by simp only [go_sem, Nat.reduceAdd, Nat.reduceSub, Nat.reduceMul, Nat.reduceEqDiff, Nat.reduceBEq, Nat.reduceLT, Nat.reduceLeDiff, Nat.reducePow, Int.reduceToNat, Int.reduceLT, Int.reduceLE, Int.reduceGT, Int.reduceGE, Int.reduceEq, Int.reduceNeg, Int.reduceAdd, Int.reduceSub, ↓reduceIte, reduceCtorEq]; exact hgl⟩ (by simp only; omega) (by simp only [hB2, p1, hd12_4, Star.D, vD, go_sem, Nat.reduceAdd, Nat.reduceSub, Nat.reduceMul, Nat.reduceEqDiff, Nat.reduceBEq, Nat.reduceLT, Nat.reduceLeDiff, Nat.reducePow, Int.reduceToNat, Int.reduceLT, Int.reduceLE, Int.reduceGT, Int.reduceGE, Int.reduceEq, Int.reduceNeg, Int.reduceAdd, Int.reduceSub, ↓reduceIte, reduceCtorEq, hw])
theorem eLaw (s : Sky) (ho : okSky s) : topR (evB Try.prog G T (s.bods.length + s.gals.length + s.stars.length + 1) base 12 [.d s.D] 0 empty) = some [.bool true] := by
  have hs := ho.1
  have hlen := idsB_len s
  have hsm : (idsB s).length ≤ 4194304 := by obtain ⟨a, b, c⟩ := hs; omega
  have hf := sFault_run s ho
  have hi : sIds.run [s.D] = some [.sl 3 ((sortI (idsA s)).map (.int .i64))] := specC_run (cOne cSky) _ _ s hs
  rw [sort_ab] at hi
  generalize fault s = E at hf
  have hB : box s = ⟨1, 47, [.d s.D], true⟩ := rfl
  rw [sky_D] at hf hi hB
  rw [evB_s (fn := Try.f12) (msk := en12.ms) (hT := by rfl) (hb := by rfl)]
  simp only [Try.f12, go_sem, Nat.reduceAdd, Nat.reduceSub, Nat.reduceMul, Nat.reduceEqDiff, Nat.reduceBEq, Nat.reduceLT, Nat.reduceLeDiff, Nat.reducePow, Int.reduceToNat, Int.reduceLT, Int.reduceLE, Int.reduceGT, Int.reduceGE, Int.reduceEq, Int.reduceNeg, Int.reduceAdd, Int.reduceSub, ↓reduceIte, reduceCtorEq, Sky.D]
  refine loop_then (R := QB0 s (0, 21) (0, _)) (loopB0 _ _ s hs (0, 21) rfl _ (0, _) _ ⟨by simp only; omega, by simp only [go_sem, Nat.reduceAdd, Nat.reduceSub, Nat.reduceMul, Nat.reduceEqDiff, Nat.reduceBEq, Nat.reduceLT, Nat.reduceLeDiff, Nat.reducePow, Int.reduceToNat, Int.reduceLT, Int.reduceLE, Int.reduceGT, Int.reduceGE, Int.reduceEq, Int.reduceNeg, Int.reduceAdd, Int.reduceSub, ↓reduceIte, reduceCtorEq, box, Sky.D], by simp only [go_sem, Nat.reduceAdd, Nat.reduceSub, Nat.reduceMul, Nat.reduceEqDiff, Nat.reduceBEq, Nat.reduceLT, Nat.reduceLeDiff, Nat.reducePow, Int.reduceToNat, Int.reduceLT, Int.reduceLE, Int.reduceGT, Int.reduceGE, Int.reduceEq, Int.reduceNeg, Int.reduceAdd, Int.reduceSub, ↓reduceIte, reduceCtorEq]; exact GrownB_0 _ rfl, by simp only [go_sem, Nat.reduceAdd, Nat.reduceSub, Nat.reduceMul, Nat.reduceEqDiff, Nat.reduceBEq, Nat.reduceLT, Nat.reduceLeDiff, Nat.reducePow, Int.reduceToNat, Int.reduceLT, Int.reduceLE, Int.reduceGT, Int.reduceGE, Int.reduceEq, Int.reduceNeg, Int.reduceAdd, Int.reduceSub, ↓reduceIte, reduceCtorEq, empty], by simp only [go_sem, Nat.reduceAdd, Nat.reduceSub, Nat.reduceMul, Nat.reduceEqDiff, Nat.reduceBEq, Nat.reduceLT, Nat.reduceLeDiff, Nat.reducePow, Int.reduceToNat, Int.reduceLT, Int.reduceLE, Int.reduceGT, Int.reduceGE, Int.reduceEq, Int.reduceNeg, Int.reduceAdd, Int.reduceSub, ↓reduceIte, reduceCtorEq, empty]⟩ (by simp only; omega) (by simp only [hB0, p1, hd12_0, grown, go_sem, Nat.reduceAdd, Nat.reduceSub, Nat.reduceMul, Nat.reduceEqDiff, Nat.reduceBEq, Nat.reduceLT, Nat.reduceLeDiff, Nat.reducePow, Int.reduceToNat, Int.reduceLT, Int.reduceLE, Int.reduceGT, Int.reduceGE, Int.reduceEq, Int.reduceNeg, Int.reduceAdd, Int.reduceSub, ↓reduceIte, reduceCtorEq])) ?_
  rintro o ⟨st1, rfl, _, q1, qg, z0, z1⟩
  simp only at q1 qg z0 z1
  obtain ⟨k1, hk1, hz1, hgr1, qk1⟩ : ∃ k1 : Key, (k1 = (0, 21) ∨ k1 = (0, 34)) ∧ (s.bods.length = 0 → k1 = (0, 34)) ∧ grown 3 (0, 21) (s.bods.length) = grown 3 k1 (s.bods.length) ∧ GrownB (st1 k1) 3 (iV ((idsB s).take (s.bods.length))) := by
    by_cases h : s.bods.length = 0
    · refine ⟨(0, 34), .inr rfl, fun _ => rfl, by rw [h]; rfl, ?_⟩
      have : iV ((idsB s).take (s.bods.length)) = [] := by rw [h]; rfl
      rw [this]; exact GrownB_0 _ z0
    · exact ⟨(0, 21), .inl rfl, fun q => absurd q h, rfl, qg⟩
  rw [hgr1]
  simp only [hx12_0, p1, go_sem, Nat.reduceAdd, Nat.reduceSub, Nat.reduceMul, Nat.reduceEqDiff, Nat.reduceBEq, Nat.reduceLT, Nat.reduceLeDiff, Nat.reducePow, Int.reduceToNat, Int.reduceLT, Int.reduceLE, Int.reduceGT, Int.reduceGE, Int.reduceEq, Int.reduceNeg, Int.reduceAdd, Int.reduceSub, ↓reduceIte, reduceCtorEq, q1, box, Sky.D]
  refine loop_then (R := QB1 s k1 (0, _)) (loopB1 _ _ s hs k1 hk1 hz1 _ (0, _) _ ⟨by simp only; omega, q1, qk1, z1⟩ (by simp only; omega) (by simp only [hB1, p1, hd12_2, Nat.add_zero, go_sem, Nat.reduceAdd, Nat.reduceSub, Nat.reduceMul, Nat.reduceEqDiff, Nat.reduceBEq, Nat.reduceLT, Nat.reduceLeDiff, Nat.reducePow, Int.reduceToNat, Int.reduceLT, Int.reduceLE, Int.reduceGT, Int.reduceGE, Int.reduceEq, Int.reduceNeg, Int.reduceAdd, Int.reduceSub, ↓reduceIte, reduceCtorEq])) ?_
  rintro o ⟨st2, rfl, _, q1, qg, z1⟩
  simp only at q1 qg z1
  obtain ⟨k2, hk2, hz2, hgr2, qk2⟩ : ∃ k2 : Key, (k2 = (0, 21) ∨ k2 = (0, 34) ∨ k2 = (0, 47)) ∧ (s.bods.length + s.gals.length = 0 → k2 = (0, 47)) ∧ grown 3 k1 (s.bods.length + s.gals.length) = grown 3 k2 (s.bods.length + s.gals.length) ∧ GrownB (st2 k2) 3 (iV ((idsB s).take (s.bods.length + s.gals.length))) := by
    by_cases h : s.bods.length + s.gals.length = 0
    · refine ⟨(0, 47), .inr (.inr rfl), fun _ => rfl, by rw [h]; rfl, ?_⟩
      have : iV ((idsB s).take (s.bods.length + s.gals.length)) = [] := by rw [h]; rfl
      rw [this]; exact GrownB_0 _ z1
    · exact ⟨k1, (hk1.elim .inl fun h => .inr (.inl h)), fun q => absurd q h, rfl, qg⟩
  rw [hgr2]
  simp only [hx12_2, p1, go_sem, Nat.reduceAdd, Nat.reduceSub, Nat.reduceMul, Nat.reduceEqDiff, Nat.reduceBEq, Nat.reduceLT, Nat.reduceLeDiff, Nat.reducePow, Int.reduceToNat, Int.reduceLT, Int.reduceLE, Int.reduceGT, Int.reduceGE, Int.reduceEq, Int.reduceNeg, Int.reduceAdd, Int.reduceSub, ↓reduceIte, reduceCtorEq, q1, box, Sky.D]
  refine loop_then (R := QB2 s k2 (0, _)) (loopB2 _ _ s hs k2 hk2 hz2 _ (0, _) _ ⟨by simp only; omega, q1, qk2⟩ (by simp only; omega) (by simp only [hB2, p1, hd12_4, Nat.add_zero, go_sem, Nat.reduceAdd, Nat.reduceSub, Nat.reduceMul, Nat.reduceEqDiff, Nat.reduceBEq, Nat.reduceLT, Nat.reduceLeDiff, Nat.reducePow, Int.reduceToNat, Int.reduceLT, Int.reduceLE, Int.reduceGT, Int.reduceGE, Int.reduceEq, Int.reduceNeg, Int.reduceAdd, Int.reduceSub, ↓reduceIte, reduceCtorEq])) ?_
  rintro o ⟨st3, rfl, _, q1, qg⟩
  simp only at q1 qg
  rw [← hlen] at qg ⊢
  rw [hB] at q1
  rw [List.take_length] at qg
  generalize idsB s = ns at *
  clear hlen
  have heq := s42_run (sortI ns) (sortI ns) (by rw [sortI_len]; omega)
  rw [decide_eq_true rfl] at heq
  cases hm : ns.length with
  | zero =>
    have hns : ns = [] := List.eq_nil_of_length_eq_zero hm
    have hso : base 39 [.nils 3] = fun lv st => some (.tup [], st) := by
      funext lv st; unfold base sortC; rw [if_pos rfl]
    subst hns
    have hz : sortI [] = [] := List.mergeSort_nil
    simp only [hz, List.map_nil] at hi heq
    simp only [hx12_4, grown, p1, Try.f12, G, go_sem, Nat.reduceAdd, Nat.reduceSub, Nat.reduceMul, Nat.reduceEqDiff, Nat.reduceBEq, Nat.reduceLT, Nat.reduceLeDiff, Nat.reducePow, Int.reduceToNat, Int.reduceLT, Int.reduceLE, Int.reduceGT, Int.reduceGE, Int.reduceEq, Int.reduceNeg, Int.reduceAdd, Int.reduceSub, ↓reduceIte, reduceCtorEq, hso, q1, known_run, hf, hi, heq]
  | succ m =>
    have hso : ∀ lv, base 39 [.rs 3 k2 (m + 1) 0 (m + 1) true] lv st3 = _ := fun lv => sort_grown lv st3 k2 ns m hm hsm qg
    have hl2 : (iV (sortI ns)).length = m + 1 := by simp [iV, sortI_len, hm]
    have htk : (iV (sortI ns)).take (m + 1) = iV (sortI ns) := List.take_of_length_le (by omega)
    have htd := toDs_iV (sortI ns)
    clear qg qk1 qk2 hgr1 hgr2
    rcases hk2 with rfl | rfl | rfl
    all_goals simp only [hx12_4, grown, p1, Try.f12, G, go_sem, Nat.reduceAdd, Nat.reduceSub, Nat.reduceMul, Nat.reduceEqDiff, Nat.reduceBEq, Nat.reduceLT, Nat.reduceLeDiff, Nat.reducePow, Int.reduceToNat, Int.reduceLT, Int.reduceLE, Int.reduceGT, Int.reduceGE, Int.reduceEq, Int.reduceNeg, Int.reduceAdd, Int.reduceSub, ↓reduceIte, reduceCtorEq, hso, q1, known_run, hf, hi, hl2, htk, htd, heq, Nat.zero_add, Nat.le_refl]
theorem top (a0_0 : Int) (a0_1 : List (Int × (Int × Int × Int × Unit) × Int × List Int × Int × Int × Int × Unit)) (a0_2 : List (Int × (Int × Int × Int × Unit) × Int × Int × Int × Unit)) (a0_3 : List (Int × (Int × Int × Int × Unit) × (Int × Int × Int × Unit) × Int × Unit)) (a0_4_0 : Int) (a0_4_1_0 : Int) (a0_4_1_1 : Int) (a0_4_1_2 : Int) (a0_4_2_0 : Int) (a0_4_2_1 : Int) (a0_4_2_2 : Int) (a0_4_3 : Int) (h0 : ((Lit.int .i64 a0_0).wf = true) ∧ (a0_1.length ≤ 1048576 ∧ ∀ y ∈ a0_1, ((Lit.int .i64 y.1).wf = true) ∧ (((Lit.int .i64 y.2.1.1).wf = true) ∧ ((Lit.int .i64 y.2.1.2.1).wf = true) ∧ ((Lit.int .i64 y.2.1.2.2.1).wf = true) ∧ True) ∧ ((Lit.int .i64 y.2.2.1).wf = true) ∧ (y.2.2.2.1.length ≤ 1048576 ∧ ∀ zy2221 ∈ y.2.2.2.1, (Lit.int .i64 zy2221).wf = true) ∧ ((Lit.int .i64 y.2.2.2.2.1).wf = true) ∧ ((Lit.int .i64 y.2.2.2.2.2.1).wf = true) ∧ ((Lit.int .i64 y.2.2.2.2.2.2.1).wf = true) ∧ True) ∧ (a0_2.length ≤ 1048576 ∧ ∀ y ∈ a0_2, ((Lit.int .i64 y.1).wf = true) ∧ (((Lit.int .i64 y.2.1.1).wf = true) ∧ ((Lit.int .i64 y.2.1.2.1).wf = true) ∧ ((Lit.int .i64 y.2.1.2.2.1).wf = true) ∧ True) ∧ ((Lit.int .i64 y.2.2.1).wf = true) ∧ ((Lit.int .i64 y.2.2.2.1).wf = true) ∧ ((Lit.int .i64 y.2.2.2.2.1).wf = true) ∧ True) ∧ (a0_3.length ≤ 1048576 ∧ ∀ y ∈ a0_3, ((Lit.int .i64 y.1).wf = true) ∧ (((Lit.int .i64 y.2.1.1).wf = true) ∧ ((Lit.int .i64 y.2.1.2.1).wf = true) ∧ ((Lit.int .i64 y.2.1.2.2.1).wf = true) ∧ True) ∧ (((Lit.int .i64 y.2.2.1.1).wf = true) ∧ ((Lit.int .i64 y.2.2.1.2.1).wf = true) ∧ ((Lit.int .i64 y.2.2.1.2.2.1).wf = true) ∧ True) ∧ ((Lit.int .i64 y.2.2.2.1).wf = true) ∧ True) ∧ (((Lit.int .i64 a0_4_0).wf = true) ∧ (((Lit.int .i64 a0_4_1_0).wf = true) ∧ ((Lit.int .i64 a0_4_1_1).wf = true) ∧ ((Lit.int .i64 a0_4_1_2).wf = true) ∧ True) ∧ (((Lit.int .i64 a0_4_2_0).wf = true) ∧ ((Lit.int .i64 a0_4_2_1).wf = true) ∧ ((Lit.int .i64 a0_4_2_2).wf = true) ∧ True) ∧ ((Lit.int .i64 a0_4_3).wf = true) ∧ True) ∧ True) : ∃ L, topR (evB Try.prog G T L base 12 ([D.agg 47 [.int .i64 a0_0, D.sl 79 (a0_1.map (fun ya0_1 : Int × (Int × Int × Int × Unit) × Int × List Int × Int × Int × Int × Unit => D.agg 79 [.int .i64 ya0_1.1, D.agg 23 [.int .i64 ya0_1.2.1.1, .int .i64 ya0_1.2.1.2.1, .int .i64 ya0_1.2.1.2.2.1], .int .i64 ya0_1.2.2.1, D.sl 37 (ya0_1.2.2.2.1.map (.int .i64)), .int .i64 ya0_1.2.2.2.2.1, .int .i64 ya0_1.2.2.2.2.2.1, .int .i64 ya0_1.2.2.2.2.2.2.1])), D.sl 76 (a0_2.map (fun ya0_2 : Int × (Int × Int × Int × Unit) × Int × Int × Int × Unit => D.agg 76 [.int .i64 ya0_2.1, D.agg 23 [.int .i64 ya0_2.2.1.1, .int .i64 ya0_2.2.1.2.1, .int .i64 ya0_2.2.1.2.2.1], .int .i64 ya0_2.2.2.1, .int .i64 ya0_2.2.2.2.1, .int .i64 ya0_2.2.2.2.2.1])), D.sl 39 (a0_3.map (fun ya0_3 : Int × (Int × Int × Int × Unit) × (Int × Int × Int × Unit) × Int × Unit => D.agg 39 [.int .i64 ya0_3.1, D.agg 23 [.int .i64 ya0_3.2.1.1, .int .i64 ya0_3.2.1.2.1, .int .i64 ya0_3.2.1.2.2.1], D.agg 23 [.int .i64 ya0_3.2.2.1.1, .int .i64 ya0_3.2.2.1.2.1, .int .i64 ya0_3.2.2.1.2.2.1], .int .i64 ya0_3.2.2.2.1])), D.agg 39 [.int .i64 a0_4_0, D.agg 23 [.int .i64 a0_4_1_0, .int .i64 a0_4_1_1, .int .i64 a0_4_1_2], D.agg 23 [.int .i64 a0_4_2_0, .int .i64 a0_4_2_1, .int .i64 a0_4_2_2], .int .i64 a0_4_3]]].map V.d) 0 empty) = some [.bool true] := by
  refine ⟨(a0_3.map toBod).length + (a0_2.map toGal).length + (a0_1.map toStar).length + 1, ?_⟩
  rw [st_map, ga_map, bo_map]
  exact eLaw ⟨a0_0, a0_1.map toStar, a0_2.map toGal, a0_3.map toBod, (a0_4_0, (a0_4_1_0, a0_4_1_1, a0_4_1_2), (a0_4_2_0, a0_4_2_1, a0_4_2_2), a0_4_3)⟩ (ok_in h0.2.1.1 (fun y hy => (h0.2.1.2 y hy).2.2.2.1.1) h0.2.2.1.1 h0.2.2.2.1.1)
end Go.Proofs.YtmhjmjodchbhlaaR.TopSkyChecks
end
section
set_option linter.unusedVariables false
set_option linter.unusedSimpArgs false
namespace Go.Proofs.YtmhjmjodchbhlaaR.skyChecks
open Go.ChangeShapes Go.WideShapes Go.ChangeAt Go.RowKit
open Go.ChangeMaps (open_string shut_string)
open Go.Ev (Opens OpensF OpensU OpensFU bulk_at returns_cond_sized witness_small call_of_caller evB_sound arg_agg arg_one weight_at law_calls call_of_ev ArgsOk D Fl)
theorem own : ownKnob Try.prog.godebug = none := by kernel_rfl
theorem laidOut : laidOutB Try.prog = true := by kernel_rfl
set_option maxRecDepth 100000 in
set_option maxHeartbeats 4000000 in
theorem lifted (os : Os) (started : os.Started) (H : Type) (enc : TypeId × Value → H) (F : Stop.Interp) :
    ReturnsInHanded {} Try.checked os 12 .any ((Rows.OpenSpec.upto Rows.skyChecksSpec).pre6 enc Try.prog Try.f12 Rows.skyChecksUptoRow.domain false) (((Rows.OpenSpec.upto Rows.skyChecksSpec).at F).post enc Try.prog Try.f12 false true false false) := by
  refine returns_cond_sized (C := Try.checked) (s := Rows.OpenSpec.upto Rows.skyChecksSpec) (k := Rows.uptoSmall) rfl (F := F) own started (by kernel_rfl) Try.func12
    (witness_small (enc := enc) (C := Try.checked) (s := Rows.OpenSpec.upto Rows.skyChecksSpec) (k := Rows.uptoSmall) rfl false ⟨#[], #[.agg #[.int .i64 0, .slice none 0 0, .slice none 0 0, .slice none 0 0, .int .i64 0, .int .i64 0, .int .i64 0, .int .i64 0, .int .i64 0, .int .i64 0, .int .i64 0, .int .i64 0]], []⟩ 8 (by kernel_rfl) (by kernel_rfl) (by kernel_rfl) (by kernel_rfl) (by kernel_rfl)) ?_
  intro W base args ds gs before hval0 hW hsz0 hbk0
  have hsz : (DataW.weightsEach Try.prog (Try.f12.params.toList ++ Rows.skyChecksSpec.plain.varTypes Try.prog) (ds ++ gs)).all (· ≤ reachBytes) = true := hsz0
  have hval : ∀ (j : Nat) t v, Try.f12.params[j]? = some t → args[j]? = some v → Value.okWide Try.prog W .any base t v := hval0
  have hW' := hW
  obtain ⟨p, q, hA0, hV, rfl, hfz, hnd⟩ := hW
  have hA : DataW.TrodAll enc Try.prog W 0 (fun _ => true) true Try.f12.params.toList args.toList ds p := hA0
  rw [Try.params12] at hA hval hsz
  obtain ⟨v0, vs0, d0, ds0, p0, q0, hargs, rfl, rfl, h0, r0⟩ := trodAll_cons hA
  obtain ⟨rfl, rfl, rfl⟩ := trodAll_nil r0
  obtain rfl : args = #[v0] := by cases args; simp_all
  obtain ⟨rfl, rfl⟩ := trodVars_none hV
  have hbk := of_decide_eq_true (hbk0 : decide (Rows.uptoBulkAll _ ≤ 1048576) = true)
  obtain ⟨cs0, rfl, hcs0⟩ := okWide_struct Try.underlying47 (hval 0 47 v0 rfl rfl)
  have k0_ := h0
  have lt0 : ∀ x ∈ p0, x.block < W.heap.size := by obtain ⟨m, hm⟩ := k0_; exact DataW.trod_lt m _ _ _ hm
  obtain ⟨fuel0, hf0⟩ := h0
  obtain ⟨x0, hK0, hw0⟩ := (OpensU.struct Try.underlying47 (by kernel_rfl) (OpensFU.cons rfl (OpensU.of (Opens.int Try.underlying37)) (OpensFU.cons rfl (OpensU.slice (B := 88) Try.underlying43 (of_decide_eq_true (by kernel_rfl)) (by kernel_rfl) (OpensU.struct Try.underlying79 (by kernel_rfl) (OpensFU.cons rfl (OpensU.of (Opens.int Try.underlying3)) (OpensFU.cons rfl (OpensU.struct Try.underlying23 (by kernel_rfl) (OpensFU.cons rfl (OpensU.of (Opens.int Try.underlying2)) (OpensFU.cons rfl (OpensU.of (Opens.int Try.underlying2)) (OpensFU.cons rfl (OpensU.of (Opens.int Try.underlying2)) OpensFU.nil)))) (OpensFU.cons rfl (OpensU.of (Opens.int Try.underlying37)) (OpensFU.cons rfl (OpensU.slice (B := 8) Try.underlying77 (of_decide_eq_true (by kernel_rfl)) (by kernel_rfl) (OpensU.of (Opens.int Try.underlying37))) (OpensFU.cons rfl (OpensU.of (Opens.int Try.underlying48)) (OpensFU.cons rfl (OpensU.of (Opens.int Try.underlying48)) (OpensFU.cons rfl (OpensU.of (Opens.int Try.underlying48)) OpensFU.nil))))))))) (OpensFU.cons rfl (OpensU.slice (B := 56) Try.underlying44 (of_decide_eq_true (by kernel_rfl)) (by kernel_rfl) (OpensU.struct Try.underlying76 (by kernel_rfl) (OpensFU.cons rfl (OpensU.of (Opens.int Try.underlying3)) (OpensFU.cons rfl (OpensU.struct Try.underlying23 (by kernel_rfl) (OpensFU.cons rfl (OpensU.of (Opens.int Try.underlying2)) (OpensFU.cons rfl (OpensU.of (Opens.int Try.underlying2)) (OpensFU.cons rfl (OpensU.of (Opens.int Try.underlying2)) OpensFU.nil)))) (OpensFU.cons rfl (OpensU.of (Opens.int Try.underlying37)) (OpensFU.cons rfl (OpensU.of (Opens.int Try.underlying3)) (OpensFU.cons rfl (OpensU.of (Opens.int Try.underlying3)) OpensFU.nil))))))) (OpensFU.cons rfl (OpensU.slice (B := 64) Try.underlying45 (of_decide_eq_true (by kernel_rfl)) (by kernel_rfl) (OpensU.struct Try.underlying39 (by kernel_rfl) (OpensFU.cons rfl (OpensU.of (Opens.int Try.underlying3)) (OpensFU.cons rfl (OpensU.struct Try.underlying23 (by kernel_rfl) (OpensFU.cons rfl (OpensU.of (Opens.int Try.underlying2)) (OpensFU.cons rfl (OpensU.of (Opens.int Try.underlying2)) (OpensFU.cons rfl (OpensU.of (Opens.int Try.underlying2)) OpensFU.nil)))) (OpensFU.cons rfl (OpensU.struct Try.underlying23 (by kernel_rfl) (OpensFU.cons rfl (OpensU.of (Opens.int Try.underlying2)) (OpensFU.cons rfl (OpensU.of (Opens.int Try.underlying2)) (OpensFU.cons rfl (OpensU.of (Opens.int Try.underlying2)) OpensFU.nil)))) (OpensFU.cons rfl (OpensU.of (Opens.int Try.underlying37)) OpensFU.nil)))))) (OpensFU.cons rfl (OpensU.struct Try.underlying39 (by kernel_rfl) (OpensFU.cons rfl (OpensU.of (Opens.int Try.underlying3)) (OpensFU.cons rfl (OpensU.struct Try.underlying23 (by kernel_rfl) (OpensFU.cons rfl (OpensU.of (Opens.int Try.underlying2)) (OpensFU.cons rfl (OpensU.of (Opens.int Try.underlying2)) (OpensFU.cons rfl (OpensU.of (Opens.int Try.underlying2)) OpensFU.nil)))) (OpensFU.cons rfl (OpensU.struct Try.underlying23 (by kernel_rfl) (OpensFU.cons rfl (OpensU.of (Opens.int Try.underlying2)) (OpensFU.cons rfl (OpensU.of (Opens.int Try.underlying2)) (OpensFU.cons rfl (OpensU.of (Opens.int Try.underlying2)) OpensFU.nil)))) (OpensFU.cons rfl (OpensU.of (Opens.int Try.underlying37)) OpensFU.nil))))) OpensFU.nil)))))) enc W fuel0 _ _ hf0 (weight_at hsz (j := 0) rfl rfl) (bulk_at hbk (j := 0) rfl)
  obtain ⟨a0_0, a0_1, a0_2, a0_3, ⟨a0_4_0, ⟨a0_4_1_0, a0_4_1_1, a0_4_1_2, ⟨⟩⟩, ⟨a0_4_2_0, a0_4_2_1, a0_4_2_2, ⟨⟩⟩, a0_4_3, ⟨⟩⟩, ⟨⟩⟩ := x0
  clear hA0 hval0 hsz0 hsz hbk0 hbk
  obtain ⟨L, ht⟩ := TopSkyChecks.top a0_0 a0_1 a0_2 a0_3 a0_4_0 a0_4_1_0 a0_4_1_1 a0_4_1_2 a0_4_2_0 a0_4_2_1 a0_4_2_2 a0_4_3 hw0
  have hok : ArgsOk Try.prog (Go.Ev.Old W) W [D.agg 47 [.int .i64 a0_0, D.sl 79 (a0_1.map (fun ya0_1 : Int × (Int × Int × Int × Unit) × Int × List Int × Int × Int × Int × Unit => D.agg 79 [.int .i64 ya0_1.1, D.agg 23 [.int .i64 ya0_1.2.1.1, .int .i64 ya0_1.2.1.2.1, .int .i64 ya0_1.2.1.2.2.1], .int .i64 ya0_1.2.2.1, D.sl 37 (ya0_1.2.2.2.1.map (.int .i64)), .int .i64 ya0_1.2.2.2.2.1, .int .i64 ya0_1.2.2.2.2.2.1, .int .i64 ya0_1.2.2.2.2.2.2.1])), D.sl 76 (a0_2.map (fun ya0_2 : Int × (Int × Int × Int × Unit) × Int × Int × Int × Unit => D.agg 76 [.int .i64 ya0_2.1, D.agg 23 [.int .i64 ya0_2.2.1.1, .int .i64 ya0_2.2.1.2.1, .int .i64 ya0_2.2.1.2.2.1], .int .i64 ya0_2.2.2.1, .int .i64 ya0_2.2.2.2.1, .int .i64 ya0_2.2.2.2.2.1])), D.sl 39 (a0_3.map (fun ya0_3 : Int × (Int × Int × Int × Unit) × (Int × Int × Int × Unit) × Int × Unit => D.agg 39 [.int .i64 ya0_3.1, D.agg 23 [.int .i64 ya0_3.2.1.1, .int .i64 ya0_3.2.1.2.1, .int .i64 ya0_3.2.1.2.2.1], D.agg 23 [.int .i64 ya0_3.2.2.1.1, .int .i64 ya0_3.2.2.1.2.1, .int .i64 ya0_3.2.2.1.2.2.1], .int .i64 ya0_3.2.2.2.1])), D.agg 39 [.int .i64 a0_4_0, D.agg 23 [.int .i64 a0_4_1_0, .int .i64 a0_4_1_1, .int .i64 a0_4_1_2], D.agg 23 [.int .i64 a0_4_2_0, .int .i64 a0_4_2_1, .int .i64 a0_4_2_2], .int .i64 a0_4_3]]] [(.agg cs0 : Value)] := fun σ st => ⟨_, _, rfl, arg_agg rfl hK0, rfl⟩
  refine (law_calls Try.func12 (by kernel_rfl) (by kernel_rfl) (call_of_caller (evB_sound FxIds.mixed TopSkyChecks.G_ok TopSkyChecks.T_ok TopSkyChecks.base_ok) ht (fun _ h => h) hok)).mono fun e W' ⟨he, bel⟩ => ?_
  subst he
  exact ⟨_, rfl, _, _, _, [], _, [], hW', trodAll_mk1 (shut_bool Try.underlying4 _), (trodAll_cons_mk (Below.trod laidOut (by kernel_rfl) (of_decide_eq_true (by kernel_rfl)) k0_ bel lt0) trodAll_mk0), rfl, bel.frame _, fun h => by cases h⟩
theorem over : Rows.skyChecksUptoRow.holds Try.pinned (Rows.OpenSpec.upto Rows.skyChecksSpec) :=
  OpenClaim.holds_of_cond 12 Try.f12 rfl rfl rfl rfl rfl rfl rfl ⟨rfl, rfl, rfl, rfl, rfl⟩ rfl rfl rfl rfl rfl (by kernel_rfl) Try.func12 (by kernel_rfl)
    (of_decide_eq_true (by kernel_rfl)) (by unfold Func.isWrapper; first | (rw [if_pos (by decide +kernel)]; kernel_rfl) | (rw [if_neg (by decide +kernel)]; exact ⟨rfl, rfl⟩))
    (fun os started H enc _ F => lifted os started H enc F)
theorem proved : Rows.SkyChecksUptoSaid := over
#print axioms proved
end Go.Proofs.YtmhjmjodchbhlaaR.skyChecks
namespace Go.Proofs.YtmhjmjodchbhlaaR
/-- The row, under a short name, for the claim. -/
theorem skyChecks_holds : Rows.SkyChecksUptoSaid := skyChecks.proved
end Go.Proofs.YtmhjmjodchbhlaaR
end
