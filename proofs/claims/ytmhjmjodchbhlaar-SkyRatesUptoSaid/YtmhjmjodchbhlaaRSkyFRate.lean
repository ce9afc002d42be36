/- spyref3.SkyFault: what is wrong with a sky. -/
import Derived.Test.YtmhjmjodchbhlaaRStarRate
import Derived.Test.YtmhjmjodchbhlaaRThingsRate
import Derived.Test.YtmhjmjodchbhlaaRIdx129Rate
set_option linter.unusedVariables false
set_option linter.unusedSimpArgs false
set_option maxRecDepth 100000
namespace Go.Proofs.YtmhjmjodchbhlaaR.SkyFRate
open Go.Ev Go.Ari Go.Proofs.YtmhjmjodchbhlaaR.FxRate Go.Proofs.YtmhjmjodchbhlaaR.PullPull Go.Proofs.YtmhjmjodchbhlaaR.TypesRate Go.Proofs.YtmhjmjodchbhlaaR.FaultRate Go.Proofs.YtmhjmjodchbhlaaR.OwnRate
open Go.Proofs.YtmhjmjodchbhlaaR.PathPath (Bod bD cBod)
open Go.Proofs.YtmhjmjodchbhlaaR.ThingsRate (thD small sThings things_ok loop_then)
open Go.Proofs.YtmhjmjodchbhlaaR.StarRate (sStar sStar_run okStar fault_ok)
open Go.Proofs.YtmhjmjodchbhlaaR.Idx129Rate (cf)
attribute [local go_sem] Ev.putR_s Ev.putR_0 Ev.thenO_s Ev.thenO_0 Ev.seqR_n Ev.seqR_e Ev.seqR_r Ev.seqR_0 Ev.blkR_e Ev.blkR_n Ev.blkR_r Ev.blkR_0 Ev.normR_s Ev.normR_0 Ev.outR_r Ev.outR_n Ev.outR_0 Ev.retS_s Ev.retS_0 Ev.pureO_s Ev.pureO_0 Ev.topR_0 Ev.topR_t Ev.topR_t0 Ev.oneL_0 Ev.oneL_s Ev.topR_d Ev.topR_nils Ev.topR_agg Ev.topR_rs Ev.evOp_move Ev.evOp_assign Ev.evOp_pick Ev.evOp_alloc Ev.evOp_box Ev.evOp_build Ev.evOp_buildSlice Ev.evOp_load Ev.evOp_store Ev.evOp_makeMap Ev.evOp_lookup Ev.evOp_mapUpdate Ev.evOp_insert Ev.evOp_nilCheck Ev.evOp_binOp Ev.evOp_unOp Ev.evOp_convert Ev.evOp_makeFunc Ev.evOp_makeSlice Ev.evOp_slice Ev.evOp_fieldAddr Ev.evOp_field Ev.evOp_indexAddr Ev.evOp_index Ev.evOp_extract Ev.evOp_call Ev.evOp_append Ev.evOp_len Ev.evOp_min Ev.evOp_max Ev.condR_b Ev.condR_t Ev.evOps_nil Ev.evOps_plain Ev.evOps_guard Ev.runG_eq Ev.skipG_eq Ev.condL_tt Ev.condL_ff Ev.condL_tf Ev.condL_ft Ev.condL_u Ev.condC_t Ev.condC_f Ev.evC_skip Ev.evC_ret Ev.evC_exit Ev.evC_label Ev.evC_region Ev.evC_draw Ev.evC_seq Ev.evC_cond Ev.evC_block Ev.evC_loop Ev.fin_d Ev.fin_nils Ev.fin_agg_ Ev.fin_rs Ev.finS_s Ev.mapO_fin Ev.upd_upd Ev.argv_d Ev.argv_nils Ev.argv_agg Ev.argv_rs Ev.argv_p Ev.appendTo_nils Ev.appendTo_rs Ev.consV_d Ev.consV_agg Ev.consV_p Ev.consV_rs Ev.consV_nils Ev.consV_fn Ev.consV_und Ev.consV_jk Ev.consV_grown Ev.topR_grown Ev.len_grown Ev.consV_mp Ev.sameK_i Ev.sameK_s Ev.mget_0 Ev.mget_hit Ev.mget_miss Ev.mput_0 Ev.mput_hit Ev.mput_miss Ev.apartAll Ev.apartL Ev.apartV Ev.freeAll Ev.sel Ev.keyOfV Ev.evLookup Ev.evPut Ev.hintOk Ev.keyOk Ev.consP Ev.lookV Ev.guardV Ev.dstAt Ev.evPure Ev.evStore Ev.evPureB Ev.evBin Ev.evBinO Ev.evNil Ev.isNilC Ev.evUn Ev.evConv Ev.evSlice Ev.optI Ev.lenV Ev.elemT Ev.foldI Ev.capsOk Ev.noTup Ev.nth Ev.setN Ev.pad Ev.V.get Ev.V.put Ev.putD Ev.hasT Ev.newBlk Ev.upd Ev.keq Ev.empty Ev.evCall Ev.V.args Ev.argP Ev.callOf Ev.evNilP Ev.isNilP Ev.look Ev.V.view.views Ev.V.view Ev.V.toD Ev.V.toD.V.toDs Ev.V.pure.pures Ev.V.pure Ev.D.flat.flats Ev.D.flat Ev.mkAgg Ev.allD Ev.aggParts Ev.setParts Ev.setElems Ev.getPath Ev.setPath Ev.subL Ev.eqD Ev.eqD.eqDs Ev.and2 Ev.strCut Ev.evalT Ev.constT Ev.evArgs Ev.mask Ev.maskOf Ev.tableOf Ev.compT Ev.resV Ev.retV Ev.mapO Ev.elemsOf Int.cast_ofNat_Int IntWalk.i64_in IntWalk.u64_in IntWalk.u8_in beq_self_eq_true Bool.true_beq Bool.false_beq Bool.and_true Bool.true_and Bool.false_and Bool.and_false Bool.and_self Bool.not_true Bool.not_false Bool.not_eq_true cond_true cond_false if_true if_false and_true true_and and_self decide_true decide_false Bool.or_true Bool.true_or Bool.or_false Bool.false_or List.isEmpty List.isEmpty_nil List.size_toArray List.map List.length_map List.length_cons List.length_nil Option.map Option.bind Option.getD Option.isSome List.replicate Bool.false_eq_true implies_true forall_const Array.toList Array.isEmpty List.append List.nil_append List.cons_append List.drop_zero List.take_length List.take_succ_cons List.take_zero List.take_nil List.getElem?_map List.getElem?_cons_zero List.getElem?_cons_succ List.getElem?_nil List.append_nil
attribute [local go_sem] FxRate.tk2 FxRate.ik2 FxRate.ek2 FxRate.zv2 FxRate.tk3 FxRate.ik3 FxRate.ek3 FxRate.zv3 FxRate.by3 FxRate.so3 FxRate.tk4 FxRate.ub4 FxRate.zv4 FxRate.tk23 FxRate.ct23 FxRate.ek23 FxRate.zv23 FxRate.tk27 FxRate.ik27 FxRate.zv27 FxRate.tk37 FxRate.ik37 FxRate.zv37 FxRate.by37 FxRate.so37 FxRate.tk39 FxRate.ct39 FxRate.zv39 FxRate.by39 FxRate.so39 FxRate.tk43 FxRate.zv43 FxRate.tk44 FxRate.zv44 FxRate.tk45 FxRate.zv45 FxRate.tk47 FxRate.ct47 FxRate.zv47 FxRate.tk48 FxRate.ik48 FxRate.zv48 FxRate.by48 FxRate.so48 FxRate.tk74 FxRate.zv74 FxRate.tk76 FxRate.ct76 FxRate.zv76 FxRate.by76 FxRate.so76 FxRate.tk77 FxRate.zv77 FxRate.tk79 FxRate.ct79 FxRate.zv79 FxRate.by79 FxRate.so79 FxRate.tk108 FxRate.zv108 FxRate.tk110 FxRate.ek110 FxRate.zv110 FxRate.tk111 FxRate.ek111 FxRate.zv111 FxRate.tk112 FxRate.zv112 FxRate.tk114 FxRate.ct114 FxRate.zv114 FxRate.by114 FxRate.so114 FxRate.tk136 FxRate.mt136 FxRate.sm136 FxRate.zw4 FxRate.zv136 FxRate.tk141 FxRate.zv141 FxRate.tk145 FxRate.zv145 FxRate.tk161 FxRate.ct161 FxRate.zv161 FxRate.tk182 FxRate.zv182 FxRate.mk7_1000000 FxRate.mk24_0 FxRate.mk24_2 FxRate.mk24_4 FxRate.mk24_1000001 FxRate.mk24_1000002 FxRate.mk24_1000003 FxRate.mk24_1000004 FxRate.mk24_1000005 FxRate.mk24_1000006 FxRate.mk24_1000000 FxRate.dw25_19 FxRate.nc25_19 FxRate.mk25_0 FxRate.mk25_2 FxRate.mk25_1000001 FxRate.mk25_1000002 FxRate.mk25_1000003 FxRate.mk25_1000004 FxRate.mk25_1000000 FxRate.mk40_0 FxRate.mk40_2 FxRate.mk40_4 FxRate.mk40_1000001 FxRate.mk40_1000002 FxRate.mk40_1000003 FxRate.mk40_1000004 FxRate.mk40_1000005 FxRate.mk40_1000006 FxRate.mk40_1000007 FxRate.mk40_1000000 FxRate.mk41_0 FxRate.mk41_1000001 FxRate.mk41_1000002 FxRate.mk41_1000003 FxRate.mk41_1000004 FxRate.mk41_1000000 FxRate.mk66_1000000 FxRate.dw67_9 FxRate.nc67_9 FxRate.mk67_1000000 FxRate.dw68_5 FxRate.nc68_5 FxRate.dw68_10 FxRate.nc68_10 FxRate.dw68_15 FxRate.nc68_15 FxRate.mk68_0 FxRate.mk68_2 FxRate.mk68_4 FxRate.mk68_1000001 FxRate.mk68_1000002 FxRate.mk68_1000003 FxRate.mk68_1000004 FxRate.mk68_1000005 FxRate.mk68_1000006 FxRate.mk68_1000000 FxRate.mk87_1000001 FxRate.mk87_1000000 FxRate.mk88_1000001 FxRate.mk88_1000000 FxRate.mk89_0 FxRate.mk89_1000001 FxRate.mk89_1000002 FxRate.mk89_1000000 FxRate.mk90_1000000 FxRate.mk91_1000000 FxRate.dw92_10 FxRate.nc92_10 FxRate.mk92_0 FxRate.mk92_2 FxRate.mk92_1000001 FxRate.mk92_1000002 FxRate.mk92_1000003 FxRate.mk92_1000004 FxRate.mk92_1000000 FxRate.mk93_1000001 FxRate.mk93_1000000 FxRate.mk94_1000000 FxRate.mk95_1000000 FxRate.mk128_1000000 FxRate.mk129_0 FxRate.mk129_1000001 FxRate.mk129_1000002 FxRate.mk129_1000000 FxRate.mk130_1000000 FxRate.mk131_0 FxRate.mk131_1000001 FxRate.mk131_1000002 FxRate.mk131_1000000 FxRate.mk150_0 FxRate.mk150_1000001 FxRate.mk150_1000002 FxRate.mk150_1000000
theorem thD_ex (x : Thing) : ∃ a b c, thD x = .agg 114 [.int .i64 x.id, .int .i64 x.rate, a, b, c] := by
  cases x <;> exact ⟨_, _, _, rfl⟩
theorem thD_inj (x y : Thing) (h : thD x = thD y) : x = y := by
  cases x <;> cases y <;> simp only [thD, D.agg.injEq, List.cons.injEq, true_and, and_true, D.ptr.injEq, reduceCtorEq, false_and, and_false] at h
  · rw [cStar.inj _ _ h.2.2]
  · rw [cGal.inj _ _ h.2.2]
  · rw [cBod.inj _ _ h.2.2]
def cTh : Cod Thing := ⟨thD, thD_inj⟩
def cPT : Cod Thing := ⟨fun x => .ptr (thD x), fun x y h => thD_inj x y (D.ptr.inj h)⟩
/-! ### the closure -/
def same (x y : Thing) : Bool := decide (y.id = x.id)
noncomputable def sSame : Ev.Spec := specC (cCons cTh (cOne cPT)) (fun _ => True) fun x => [.bool (same x.2 x.1)]
theorem sSame_run (y x : Thing) : sSame.run [thD y, .ptr (thD x)] = some [.bool (same x y)] := specC_run (cCons cTh (cOne cPT)) _ _ (y, x) trivial
noncomputable def T1 : Table := tableOf [(91, en91)]
theorem T1_ok : TableOk Try.prog (([] : Specs).map (·.1)) T1 := (table_cons Try.func91 (by kernel_rfl) (by kernel_rfl) table_nil)
theorem eSame (y x : Thing) : evTop Try.prog [] T1 0 1 91 [thD y, .ptr (thD x)] = some [.bool (same x y)] := by
  obtain ⟨a, b, c, h1⟩ := thD_ex y
  obtain ⟨a', b', c', h2⟩ := thD_ex x
  rw [h1, h2]
  unfold evTop
  simp only [List.map]
  rw [evF_s (fn := Try.f91) (msk := en91.ms) (hT := by rfl) (hb := by rfl)]
  simp only [Try.f91, go_sem, Nat.reduceAdd, Nat.reduceSub, Nat.reduceMul, Nat.reduceEqDiff, Nat.reduceBEq, Nat.reduceLT, Nat.reduceLeDiff, Nat.reducePow, Int.reduceToNat, Int.reduceLT, Int.reduceLE, Int.reduceGT, Int.reduceGE, Int.reduceEq, Int.reduceNeg, Int.reduceAdd, Int.reduceSub, ↓reduceIte, reduceCtorEq, same]
theorem same_ok : SpecOk Try.prog 91 sSame := specC_ok mixed specs_nil T1_ok fun x _ => ⟨0, 1, eSame x.1 x.2⟩
/-! ### SkyFault -/
def okSky (s : Sky) : Prop := small s ∧ ∀ x ∈ s.stars, x.wave.length ≤ 1048576
noncomputable def sFault : Ev.Spec := specC (cOne cSky) okSky fun s => [.int .i64 (fault s)]
noncomputable def G : Specs := [(68, sThings), (91, sSame), (92, sStar), (93, sChk), (94, sHalf), (50, sIn)]
noncomputable def T : Table := tableOf [(41, en41), (90, en90), (129, en129)]
theorem G_ok : ∀ g s, Ev.look G g = some s → SpecOk Try.prog g s := specs_cons things_ok (specs_cons same_ok (specs_cons fault_ok (specs_cons chk_ok (specs_cons half_ok (specs_cons inside_ok specs_nil)))))
theorem T_ok : TableOk Try.prog (G.map (·.1)) T := (table_cons Try.func41 (by kernel_rfl) (by kernel_rfl) (table_cons Try.func90 (by kernel_rfl) (by kernel_rfl) (table_cons Try.func129 (by kernel_rfl) (by kernel_rfl) table_nil)))
def box (s : Sky) : Blk := ⟨1, 47, [.d s.D], true⟩
def p1 : V := .p (0, 1) 1 0 []
def hd (l : List Thing) (i : Nat) : List V := hd41_0 p1 (.d (.sl 114 (l.map thD))) (.d (.sl 114 (l.map thD))) (.d (.int .i64 l.length)) (.d (.int .i64 i))
def J (s : Sky) (l : List Thing) (x : Nat × Store) : Prop := x.1 ≤ l.length ∧ x.2 (0, 1) = box s ∧ faults [] (l.take x.1) = 0
def Q (s : Sky) (l : List Thing) (x : Nat × Store) (o : Out) : Prop := ∃ st', if faults [] l = 0 then o = some (.exit 0, hx41_0 p1, st') ∧ st' (0, 1) = box s else o = some (.ret, hr41 (.d (.int .i64 (faults [] l))), st')
theorem any_same (l : List Thing) (x : Thing) : l.any (same x) = decide (x.id ∈ l.map Thing.id) := by
  induction l with
  | nil => simp
  | cons y r ih =>
    simp only [List.any_cons, ih, same, List.map_cons, List.mem_cons]
    by_cases h : y.id = x.id
    · simp [h]
    · have h' : ¬ x.id = y.id := fun q => h q.symm
      simp [h, h']
theorem headF_1 {seen : List Int} {id rate : Int} (h : id < 1 ∨ id > 1073741824) : headF seen id rate = 4 := if_pos h
theorem headF_2 {seen : List Int} {id rate : Int} (h : ¬ (id < 1 ∨ id > 1073741824)) (h2 : id ∈ seen) : headF seen id rate = 7 := by unfold headF; rw [if_neg h, if_pos h2]
theorem headF_3 {seen : List Int} {id rate : Int} (h : ¬ (id < 1 ∨ id > 1073741824)) (h2 : ¬ id ∈ seen) (h3 : rate < 0 ∨ rate > 1048576) : headF seen id rate = 4 := by unfold headF; rw [if_neg h, if_neg h2, if_pos h3]
theorem headF_0 {seen : List Int} {id rate : Int} (h : ¬ (id < 1 ∨ id > 1073741824)) (h2 : ¬ id ∈ seen) (h3 : ¬ (rate < 0 ∨ rate > 1048576)) : headF seen id rate = 0 := by unfold headF; rw [if_neg h, if_neg h2, if_neg h3]
theorem one_h {seen : List Int} {x : Thing} {e : Int} (h : headF seen x.id x.rate = e) (he : ¬ e = 0) : one seen x = e := by unfold one; rw [if_neg (by rw [h]; exact he), h]
theorem one_o {seen : List Int} {x : Thing} (h : headF seen x.id x.rate = 0) : one seen x = own x := by unfold one; rw [if_pos h]
theorem loop (L : Nat) (s : Sky) (l : List Thing) (hl : l.length ≤ 40) (hL : 40 < L) (hw : ∀ x, .st x ∈ l → x.wave.length ≤ 1048576) :
    ∀ (m : Nat) (x : Nat × Store) (env : List V), J s l x → l.length - x.1 < m → mask (maskOf en41.ms 0) env = hd l x.1 →
      Q s l x (iter (evC Try.prog G (evF Try.prog G T L 2) L en41.ms 0 0 lb41_0) (maskOf en41.ms 0) m env x.2) := by
  refine iter_rel _ _ (J s l) (fun x => hd l x.1) (fun x => x.2) (Q s l) (fun x => l.length - x.1) ?_
  rintro ⟨i, st⟩ ⟨hi, q1, qf⟩ k hk
  simp only at hi q1 qf
  by_cases hin : i < l.length
  case neg =>
    obtain rfl : i = l.length := by omega
    have hlt : ¬ (l.length : Int) < l.length := by omega
    rw [List.take_length] at qf
    refine ⟨st, ?_⟩
    rw [if_pos qf]
    refine ⟨?_, q1⟩
    simp only [lb41_0, loopN, loops, hd, p1, hd41_0, hx41_0, Try.f41, go_sem, Nat.reduceAdd, Nat.reduceSub, Nat.reduceMul, Nat.reduceEqDiff, Nat.reduceBEq, Nat.reduceLT, Nat.reduceLeDiff, Nat.reducePow, Int.reduceToNat, Int.reduceLT, Int.reduceLE, Int.reduceGT, Int.reduceGE, Int.reduceEq, Int.reduceNeg, Int.reduceAdd, Int.reduceSub, ↓reduceIte, reduceCtorEq, hlt]
  have hlt : (i : Int) < l.length := by omega
  have hx : l[i]? = some l[i] := by simp [hin]
  have hmem : l[i] ∈ l := List.getElem_mem _
  have g0 : (0 : Int) ≤ (i : Int) := by omega
  have ht : ((i : Int)).toNat = i := by omega
  have hle : (i : Int) ≤ l.length := by omega
  have hle' : i ≤ l.length := by omega
  have hw1 : IntKind.i64.wrap ((i : Int) + 1) = ((i + 1 : Nat) : Int) := by rw [IntWalk.i64_in _ (by omega)]; rfl
  obtain ⟨ht0, ht1⟩ := faults_take hin qf
  have hseen := any_same (l.take i) l[i]
  have hcf : ∀ (lv ver : Nat) (st : Store), (st (0, 5)).ver = ver → (st (0, 5)).live = true → (st (0, 5)).vs = [.d (thD l[i])] →
      evF Try.prog G T L 2 90 [.d (.sl 114 ((l.map thD).take i)), .fn 91 [.p (0, 5) ver 0 []]] lv st = some (.d (.bool ((l.take i).any (same l[i]))), st) := fun lv ver st a1 a2 a3 => by
    rw [← List.map_take]
    exact cf thD G T rfl rfl sSame rfl rfl 0 lv (same l[i]) (thD l[i]) (0, 5) ver (l.take i) st (fun y _ => sSame_run y l[i]) (fun y => by obtain ⟨a, b, c, h⟩ := thD_ex y; rw [h]; simp only [go_sem, Nat.reduceAdd, Nat.reduceSub, Nat.reduceMul, Nat.reduceEqDiff, Nat.reduceBEq, Nat.reduceLT, Nat.reduceLeDiff, Nat.reducePow, Int.reduceToNat, Int.reduceLT, Int.reduceLE, Int.reduceGT, Int.reduceGE, Int.reduceEq, Int.reduceNeg, Int.reduceAdd, Int.reduceSub, ↓reduceIte, reduceCtorEq]) a1 a2 a3 (by rw [List.length_take]; omega) L (by rw [List.length_take]; omega)
  generalize hxi : l[i] = x at *
  have hret : ∀ e : Int, one ((l.take i).map Thing.id) x = e → ¬ e = 0 → ∀ st1, Q s l (i, st) (some (.ret, hr41 (.d (.int .i64 e)), st1)) := fun e h1 h2 st1 => by
    have h3 := ht1 (by rw [h1]; exact h2)
    rw [h1] at h3
    exact ⟨st1, by rw [if_neg (by rw [h3]; exact h2), h3]⟩
  have hgo : one ((l.take i).map Thing.id) x = 0 → ∀ st1 env, st1 (0, 1) = box s → mask (maskOf en41.ms 0) env = hd l (i + 1) → Q s l (i, st) (k env st1) := fun h1 st1 env h2 h3 =>
    (hk (i + 1, st1) env ⟨by simp only; omega, h2, ht0 h1⟩ (by simp only; omega) h3 : Q s l (i + 1, st1) _)
  obtain ⟨a, b, c, hth⟩ := thD_ex x
  have hcg := hcf
  simp only [hth, G] at hcg
  have hseen' := hseen
  by_cases c1 : x.id < 1
  · have hq := hret 4 (one_h (headF_1 (.inl c1)) (by decide)) (by decide)
    simp only [lb41_0, loopN, loops, hd, p1, hd41_0, Try.f41, G, go_sem, Nat.reduceAdd, Nat.reduceSub, Nat.reduceMul, Nat.reduceEqDiff, Nat.reduceBEq, Nat.reduceLT, Nat.reduceLeDiff, Nat.reducePow, Int.reduceToNat, Int.reduceLT, Int.reduceLE, Int.reduceGT, Int.reduceGE, Int.reduceEq, Int.reduceNeg, Int.reduceAdd, Int.reduceSub, ↓reduceIte, reduceCtorEq, hlt, hx, hxi, hth, g0, ht, c1]
    exact hq _
  by_cases c2 : x.id > 1073741824
  · have hq := hret 4 (one_h (headF_1 (.inr c2)) (by decide)) (by decide)
    simp only [lb41_0, loopN, loops, hd, p1, hd41_0, Try.f41, G, go_sem, Nat.reduceAdd, Nat.reduceSub, Nat.reduceMul, Nat.reduceEqDiff, Nat.reduceBEq, Nat.reduceLT, Nat.reduceLeDiff, Nat.reducePow, Int.reduceToNat, Int.reduceLT, Int.reduceLE, Int.reduceGT, Int.reduceGE, Int.reduceEq, Int.reduceNeg, Int.reduceAdd, Int.reduceSub, ↓reduceIte, reduceCtorEq, hlt, hx, hxi, hth, g0, ht, c1, c2]
    exact hq _
  by_cases c3 : x.id ∈ (l.take i).map Thing.id
  · have hq := hret 7 (one_h (headF_2 (by omega) c3) (by decide)) (by decide)
    rw [decide_eq_true c3] at hseen
    simp only [lb41_0, loopN, loops, hd, p1, hd41_0, Try.f41, G, go_sem, Nat.reduceAdd, Nat.reduceSub, Nat.reduceMul, Nat.reduceEqDiff, Nat.reduceBEq, Nat.reduceLT, Nat.reduceLeDiff, Nat.reducePow, Int.reduceToNat, Int.reduceLT, Int.reduceLE, Int.reduceGT, Int.reduceGE, Int.reduceEq, Int.reduceNeg, Int.reduceAdd, Int.reduceSub, ↓reduceIte, reduceCtorEq, hlt, hx, hxi, hth, g0, ht, hle, hle', c1, c2, hcg, hseen]
    exact hq _
  rw [decide_eq_false c3] at hseen
  by_cases c4 : x.rate < 0
  · have hq := hret 4 (one_h (headF_3 (by omega) c3 (.inl c4)) (by decide)) (by decide)
    simp only [lb41_0, loopN, loops, hd, p1, hd41_0, Try.f41, G, go_sem, Nat.reduceAdd, Nat.reduceSub, Nat.reduceMul, Nat.reduceEqDiff, Nat.reduceBEq, Nat.reduceLT, Nat.reduceLeDiff, Nat.reducePow, Int.reduceToNat, Int.reduceLT, Int.reduceLE, Int.reduceGT, Int.reduceGE, Int.reduceEq, Int.reduceNeg, Int.reduceAdd, Int.reduceSub, ↓reduceIte, reduceCtorEq, hlt, hx, hxi, hth, g0, ht, hle, hle', c1, c2, hcg, hseen, c4]
    exact hq _
  by_cases c5 : x.rate > 1048576
  · have hq := hret 4 (one_h (headF_3 (by omega) c3 (.inr c5)) (by decide)) (by decide)
    simp only [lb41_0, loopN, loops, hd, p1, hd41_0, Try.f41, G, go_sem, Nat.reduceAdd, Nat.reduceSub, Nat.reduceMul, Nat.reduceEqDiff, Nat.reduceBEq, Nat.reduceLT, Nat.reduceLeDiff, Nat.reducePow, Int.reduceToNat, Int.reduceLT, Int.reduceLE, Int.reduceGT, Int.reduceGE, Int.reduceEq, Int.reduceNeg, Int.reduceAdd, Int.reduceSub, ↓reduceIte, reduceCtorEq, hlt, hx, hxi, hth, g0, ht, hle, hle', c1, c2, hcg, hseen, c4, c5]
    exact hq _
  have ho : one ((l.take i).map Thing.id) x = own x := one_o (headF_0 (by omega) c3 (by omega))
  rw [ho] at hgo hret
  clear ht0 ht1 hth hcg
  cases x with
  | st y =>
    obtain ⟨id, ⟨u, v, w⟩, r, wv, p, f, t⟩ := y
    simp only [Thing.id, Thing.rate] at c1 c2 c4 c5
    have rs := sStar_run ⟨id, (u, v, w), r, wv, p, f, t⟩ ⟨⟨by simp only; omega, by simp only; omega⟩, by have := hw _ hmem; simp only at this ⊢; omega⟩
    simp only [own] at hgo hret
    generalize starF ⟨id, (u, v, w), r, wv, p, f, t⟩ = F at *
    simp only [Star.D, vD] at rs
    simp only [thD, Star.D, vD, G] at hcf
    by_cases c6 : F = 0
    · have hq := hgo c6
      simp only [lb41_0, loopN, loops, hd, p1, hd41_0, Try.f41, G, go_sem, Nat.reduceAdd, Nat.reduceSub, Nat.reduceMul, Nat.reduceEqDiff, Nat.reduceBEq, Nat.reduceLT, Nat.reduceLeDiff, Nat.reducePow, Int.reduceToNat, Int.reduceLT, Int.reduceLE, Int.reduceGT, Int.reduceGE, Int.reduceEq, Int.reduceNeg, Int.reduceAdd, Int.reduceSub, ↓reduceIte, reduceCtorEq, hlt, hx, hxi, thD, Star.D, vD, g0, ht, hle, hle', c1, c2, hcf, hseen, c4, c5, rs, c6, hw1]
      exact hq _ _ (by simp only [go_sem, Nat.reduceAdd, Nat.reduceSub, Nat.reduceMul, Nat.reduceEqDiff, Nat.reduceBEq, Nat.reduceLT, Nat.reduceLeDiff, Nat.reducePow, Int.reduceToNat, Int.reduceLT, Int.reduceLE, Int.reduceGT, Int.reduceGE, Int.reduceEq, Int.reduceNeg, Int.reduceAdd, Int.reduceSub, ↓reduceIte, reduceCtorEq, q1]) (by simp only [hd, p1, hd41_0, go_sem, Nat.reduceAdd, Nat.reduceSub, Nat.reduceMul, Nat.reduceEqDiff, Nat.reduceBEq, Nat.reduceLT, Nat.reduceLeDiff, Nat.reducePow, Int.reduceToNat, Int.reduceLT, Int.reduceLE, Int.reduceGT, Int.reduceGE, Int.reduceEq, Int.reduceNeg, Int.reduceAdd, Int.reduceSub, ↓reduceIte, reduceCtorEq, hw1])
    · have hq := hret F rfl c6
      simp only [lb41_0, loopN, loops, hd, p1, hd41_0, Try.f41, G, go_sem, Nat.reduceAdd, Nat.reduceSub, Nat.reduceMul, Nat.reduceEqDiff, Nat.reduceBEq, Nat.reduceLT, Nat.reduceLeDiff, Nat.reducePow, Int.reduceToNat, Int.reduceLT, Int.reduceLE, Int.reduceGT, Int.reduceGE, Int.reduceEq, Int.reduceNeg, Int.reduceAdd, Int.reduceSub, ↓reduceIte, reduceCtorEq, hlt, hx, hxi, thD, Star.D, vD, g0, ht, hle, hle', c1, c2, hcf, hseen, c4, c5, rs, c6, hw1]
      exact hq _
  | ga y =>
    obtain ⟨id, ⟨u, v, w⟩, r, wide, high⟩ := y
    simp only [Thing.id, Thing.rate] at c1 c2 c4 c5
    have rc := sChk_run u v w
    have r1 := sHalf_run wide
    have r2 := sHalf_run high
    simp only [own, galF] at hgo hret
    simp only [thD, Gal.D, vD, G] at hcf
    by_cases c6 : chkV (u, v, w) = 0
    case neg =>
      rw [if_neg c6] at hret
      have hq := hret _ rfl c6
      simp only [lb41_0, loopN, loops, hd, p1, hd41_0, Try.f41, G, go_sem, Nat.reduceAdd, Nat.reduceSub, Nat.reduceMul, Nat.reduceEqDiff, Nat.reduceBEq, Nat.reduceLT, Nat.reduceLeDiff, Nat.reducePow, Int.reduceToNat, Int.reduceLT, Int.reduceLE, Int.reduceGT, Int.reduceGE, Int.reduceEq, Int.reduceNeg, Int.reduceAdd, Int.reduceSub, ↓reduceIte, reduceCtorEq, hlt, hx, hxi, thD, Gal.D, vD, g0, ht, hle, hle', c1, c2, hcf, hseen, c4, c5, rc, c6, hw1]
      exact hq _
    rw [if_pos c6] at hgo hret
    by_cases c7 : sizeOk wide = true
    case neg =>
      rw [if_neg (by simp [c7])] at hret
      have hq := hret _ rfl (by decide)
      have c7' : sizeOk wide = false := by simpa using c7
      simp only [lb41_0, loopN, loops, hd, p1, hd41_0, Try.f41, G, go_sem, Nat.reduceAdd, Nat.reduceSub, Nat.reduceMul, Nat.reduceEqDiff, Nat.reduceBEq, Nat.reduceLT, Nat.reduceLeDiff, Nat.reducePow, Int.reduceToNat, Int.reduceLT, Int.reduceLE, Int.reduceGT, Int.reduceGE, Int.reduceEq, Int.reduceNeg, Int.reduceAdd, Int.reduceSub, ↓reduceIte, reduceCtorEq, hlt, hx, hxi, thD, Gal.D, vD, g0, ht, hle, hle', c1, c2, hcf, hseen, c4, c5, rc, c6, r1, c7', hw1]
      exact hq _
    by_cases c8 : sizeOk high = true
    case neg =>
      rw [if_neg (by simp [c8])] at hret
      have hq := hret _ rfl (by decide)
      have c8' : sizeOk high = false := by simpa using c8
      simp only [lb41_0, loopN, loops, hd, p1, hd41_0, Try.f41, G, go_sem, Nat.reduceAdd, Nat.reduceSub, Nat.reduceMul, Nat.reduceEqDiff, Nat.reduceBEq, Nat.reduceLT, Nat.reduceLeDiff, Nat.reducePow, Int.reduceToNat, Int.reduceLT, Int.reduceLE, Int.reduceGT, Int.reduceGE, Int.reduceEq, Int.reduceNeg, Int.reduceAdd, Int.reduceSub, ↓reduceIte, reduceCtorEq, hlt, hx, hxi, thD, Gal.D, vD, g0, ht, hle, hle', c1, c2, hcf, hseen, c4, c5, rc, c6, r1, c7, r2, c8', hw1]
      exact hq _
    rw [if_pos ⟨c7, c8⟩] at hgo
    have hq := hgo rfl
    simp only [lb41_0, loopN, loops, hd, p1, hd41_0, Try.f41, G, go_sem, Nat.reduceAdd, Nat.reduceSub, Nat.reduceMul, Nat.reduceEqDiff, Nat.reduceBEq, Nat.reduceLT, Nat.reduceLeDiff, Nat.reducePow, Int.reduceToNat, Int.reduceLT, Int.reduceLE, Int.reduceGT, Int.reduceGE, Int.reduceEq, Int.reduceNeg, Int.reduceAdd, Int.reduceSub, ↓reduceIte, reduceCtorEq, hlt, hx, hxi, thD, Gal.D, vD, g0, ht, hle, hle', c1, c2, hcf, hseen, c4, c5, rc, c6, r1, c7, r2, c8, hw1]
    exact hq _ _ (by simp only [go_sem, Nat.reduceAdd, Nat.reduceSub, Nat.reduceMul, Nat.reduceEqDiff, Nat.reduceBEq, Nat.reduceLT, Nat.reduceLeDiff, Nat.reducePow, Int.reduceToNat, Int.reduceLT, Int.reduceLE, Int.reduceGT, Int.reduceGE, Int.reduceEq, Int.reduceNeg, Int.reduceAdd, Int.reduceSub, ↓reduceIte, reduceCtorEq, q1]) (by simp only [hd, p1, hd41_0, go_sem, Nat.reduceAdd, Nat.reduceSub, Nat.reduceMul, Nat.reduceEqDiff, Nat.reduceBEq, Nat.reduceLT, Nat.reduceLeDiff, Nat.reducePow, Int.reduceToNat, Int.reduceLT, Int.reduceLE, Int.reduceGT, Int.reduceGE, Int.reduceEq, Int.reduceNeg, Int.reduceAdd, Int.reduceSub, ↓reduceIte, reduceCtorEq, hw1])
  | bo y =>
    obtain ⟨id, ⟨u, v, w⟩, ⟨u', v', w'⟩, r⟩ := y
    simp only [Thing.id, Thing.rate] at c1 c2 c4 c5
    have r1 := sIn_run u v w 4194304 (by decide) (by decide)
    have r2 := sIn_run u' v' w' 4194304 (by decide) (by decide)
    simp only [own, bodF] at hgo hret
    simp only [thD, bD, vD, G] at hcf
    by_cases c6 : okV 4194304 (u, v, w) = true
    case neg =>
      rw [if_neg (by simp [c6])] at hret
      have hq := hret _ rfl (by decide)
      have c6' : okV 4194304 (u, v, w) = false := by simpa using c6
      simp only [lb41_0, loopN, loops, hd, p1, hd41_0, Try.f41, G, go_sem, Nat.reduceAdd, Nat.reduceSub, Nat.reduceMul, Nat.reduceEqDiff, Nat.reduceBEq, Nat.reduceLT, Nat.reduceLeDiff, Nat.reducePow, Int.reduceToNat, Int.reduceLT, Int.reduceLE, Int.reduceGT, Int.reduceGE, Int.reduceEq, Int.reduceNeg, Int.reduceAdd, Int.reduceSub, ↓reduceIte, reduceCtorEq, hlt, hx, hxi, thD, bD, vD, g0, ht, hle, hle', c1, c2, hcf, hseen, c4, c5, r1, c6', hw1]
      exact hq _
    by_cases c7 : okV 4194304 (u', v', w') = true
    case neg =>
      rw [if_neg (by simp [c7])] at hret
      have hq := hret _ rfl (by decide)
      have c7' : okV 4194304 (u', v', w') = false := by simpa using c7
      simp only [lb41_0, loopN, loops, hd, p1, hd41_0, Try.f41, G, go_sem, Nat.reduceAdd, Nat.reduceSub, Nat.reduceMul, Nat.reduceEqDiff, Nat.reduceBEq, Nat.reduceLT, Nat.reduceLeDiff, Nat.reducePow, Int.reduceToNat, Int.reduceLT, Int.reduceLE, Int.reduceGT, Int.reduceGE, Int.reduceEq, Int.reduceNeg, Int.reduceAdd, Int.reduceSub, ↓reduceIte, reduceCtorEq, hlt, hx, hxi, thD, bD, vD, g0, ht, hle, hle', c1, c2, hcf, hseen, c4, c5, r1, c6, r2, c7', hw1]
      exact hq _
    rw [if_pos ⟨c6, c7⟩] at hgo
    have hq := hgo rfl
    simp only [lb41_0, loopN, loops, hd, p1, hd41_0, Try.f41, G, go_sem, Nat.reduceAdd, Nat.reduceSub, Nat.reduceMul, Nat.reduceEqDiff, Nat.reduceBEq, Nat.reduceLT, Nat.reduceLeDiff, Nat.reducePow, Int.reduceToNat, Int.reduceLT, Int.reduceLE, Int.reduceGT, Int.reduceGE, Int.reduceEq, Int.reduceNeg, Int.reduceAdd, Int.reduceSub, ↓reduceIte, reduceCtorEq, hlt, hx, hxi, thD, bD, vD, g0, ht, hle, hle', c1, c2, hcf, hseen, c4, c5, r1, c6, r2, c7, hw1]
    exact hq _ _ (by simp only [go_sem, Nat.reduceAdd, Nat.reduceSub, Nat.reduceMul, Nat.reduceEqDiff, Nat.reduceBEq, Nat.reduceLT, Nat.reduceLeDiff, Nat.reducePow, Int.reduceToNat, Int.reduceLT, Int.reduceLE, Int.reduceGT, Int.reduceGE, Int.reduceEq, Int.reduceNeg, Int.reduceAdd, Int.reduceSub, ↓reduceIte, reduceCtorEq, q1]) (by simp only [hd, p1, hd41_0, go_sem, Nat.reduceAdd, Nat.reduceSub, Nat.reduceMul, Nat.reduceEqDiff, Nat.reduceBEq, Nat.reduceLT, Nat.reduceLeDiff, Nat.reducePow, Int.reduceToNat, Int.reduceLT, Int.reduceLE, Int.reduceGT, Int.reduceGE, Int.reduceEq, Int.reduceNeg, Int.reduceAdd, Int.reduceSub, ↓reduceIte, reduceCtorEq, hw1])
/-! ### as a whole -/
theorem th_mem {s : Sky} {x : Star} (h : Thing.st x ∈ things s) : x ∈ s.stars := by
  simp only [things, List.mem_append, List.mem_map, Thing.st.injEq, exists_eq_right, reduceCtorEq, and_false, exists_false, or_false] at h
  exact h
theorem sThings_run (s : Sky) (h : small s) : sThings.run [s.D] = some [.sl 114 ((things s).map thD)] := specC_run (cOne cSky) _ _ s h
theorem eFault (s : Sky) (hs : okSky s) : evTop Try.prog G T 41 3 41 [s.D] = some [.int .i64 (fault s)] := by
  have hlen := things_len s
  have hw : ∀ x, .st x ∈ things s → x.wave.length ≤ 1048576 := fun x hx => hs.2 x (th_mem hx)
  have hth := sThings_run s hs.1
  have hloop := fun h => loop 41 s (things s) h (by omega) hw
  unfold fault
  rw [← hlen]
  generalize things s = l at *
  obtain ⟨bk, stars, gals, bods, ⟨hid, ⟨a, b, c⟩, ⟨u, v, w⟩, hr⟩⟩ := s
  have hS : Sky.D ⟨bk, stars, gals, bods, ⟨hid, ⟨a, b, c⟩, ⟨u, v, w⟩, hr⟩⟩ = .agg 47 [.int .i64 bk, .sl 79 (stars.map Star.D), .sl 76 (gals.map Gal.D), .sl 39 (bods.map bD), .agg 39 [.int .i64 hid, .agg 23 [.int .i64 a, .int .i64 b, .int .i64 c], .agg 23 [.int .i64 u, .int .i64 v, .int .i64 w], .int .i64 hr]] := rfl
  have hB : box ⟨bk, stars, gals, bods, ⟨hid, ⟨a, b, c⟩, ⟨u, v, w⟩, hr⟩⟩ = ⟨1, 47, [.d (Sky.D ⟨bk, stars, gals, bods, ⟨hid, ⟨a, b, c⟩, ⟨u, v, w⟩, hr⟩⟩)], true⟩ := rfl
  rw [hS] at hth hB ⊢
  have r1 := sIn_run a b c 4194304 (by decide) (by decide)
  have r2 := sIn_run u v w 4194304 (by decide) (by decide)
  unfold evTop
  simp only [List.map]
  rw [evF_s (fn := Try.f41) (msk := en41.ms) (hT := by rfl) (hb := by rfl)]
  by_cases c1 : l.length > 40
  · have c1' : (l.length : Int) > 40 := by omega
    rw [if_pos c1]
    simp only [Try.f41, G, go_sem, Nat.reduceAdd, Nat.reduceSub, Nat.reduceMul, Nat.reduceEqDiff, Nat.reduceBEq, Nat.reduceLT, Nat.reduceLeDiff, Nat.reducePow, Int.reduceToNat, Int.reduceLT, Int.reduceLE, Int.reduceGT, Int.reduceGE, Int.reduceEq, Int.reduceNeg, Int.reduceAdd, Int.reduceSub, ↓reduceIte, reduceCtorEq, hth, c1']
  have c1' : ¬ (l.length : Int) > 40 := by omega
  rw [if_neg c1]
  by_cases c2 : bk < 0
  · rw [if_pos (.inl c2)]
    simp only [Try.f41, G, go_sem, Nat.reduceAdd, Nat.reduceSub, Nat.reduceMul, Nat.reduceEqDiff, Nat.reduceBEq, Nat.reduceLT, Nat.reduceLeDiff, Nat.reducePow, Int.reduceToNat, Int.reduceLT, Int.reduceLE, Int.reduceGT, Int.reduceGE, Int.reduceEq, Int.reduceNeg, Int.reduceAdd, Int.reduceSub, ↓reduceIte, reduceCtorEq, hth, c1', c2]
  by_cases c3 : bk > 1048576
  · rw [if_pos (.inr c3)]
    simp only [Try.f41, G, go_sem, Nat.reduceAdd, Nat.reduceSub, Nat.reduceMul, Nat.reduceEqDiff, Nat.reduceBEq, Nat.reduceLT, Nat.reduceLeDiff, Nat.reducePow, Int.reduceToNat, Int.reduceLT, Int.reduceLE, Int.reduceGT, Int.reduceGE, Int.reduceEq, Int.reduceNeg, Int.reduceAdd, Int.reduceSub, ↓reduceIte, reduceCtorEq, hth, c1', c2, c3]
  rw [if_neg (by omega)]
  simp only [Try.f41, G, go_sem, Nat.reduceAdd, Nat.reduceSub, Nat.reduceMul, Nat.reduceEqDiff, Nat.reduceBEq, Nat.reduceLT, Nat.reduceLeDiff, Nat.reducePow, Int.reduceToNat, Int.reduceLT, Int.reduceLE, Int.reduceGT, Int.reduceGE, Int.reduceEq, Int.reduceNeg, Int.reduceAdd, Int.reduceSub, ↓reduceIte, reduceCtorEq, hth, c1', c2, c3]
  refine loop_then (R := Q ⟨bk, stars, gals, bods, ⟨hid, ⟨a, b, c⟩, ⟨u, v, w⟩, hr⟩⟩ l (0, _)) (hloop (by omega) _ (0, _) _ ⟨by simp only; omega, by simp only [go_sem, Nat.reduceAdd, Nat.reduceSub, Nat.reduceMul, Nat.reduceEqDiff, Nat.reduceBEq, Nat.reduceLT, Nat.reduceLeDiff, Nat.reducePow, Int.reduceToNat, Int.reduceLT, Int.reduceLE, Int.reduceGT, Int.reduceGE, Int.reduceEq, Int.reduceNeg, Int.reduceAdd, Int.reduceSub, ↓reduceIte, reduceCtorEq, hB], rfl⟩ (by simp only; omega) (by simp only [hd, p1, hd41_0, go_sem, Nat.reduceAdd, Nat.reduceSub, Nat.reduceMul, Nat.reduceEqDiff, Nat.reduceBEq, Nat.reduceLT, Nat.reduceLeDiff, Nat.reducePow, Int.reduceToNat, Int.reduceLT, Int.reduceLE, Int.reduceGT, Int.reduceGE, Int.reduceEq, Int.reduceNeg, Int.reduceAdd, Int.reduceSub, ↓reduceIte, reduceCtorEq])) ?_
  rintro o ⟨st', ho⟩
  by_cases c4 : faults [] l = 0
  case neg =>
    rw [if_neg c4] at ho
    rw [ho, if_neg c4]
    simp only [hr41, go_sem, Nat.reduceAdd, Nat.reduceSub, Nat.reduceMul, Nat.reduceEqDiff, Nat.reduceBEq, Nat.reduceLT, Nat.reduceLeDiff, Nat.reducePow, Int.reduceToNat, Int.reduceLT, Int.reduceLE, Int.reduceGT, Int.reduceGE, Int.reduceEq, Int.reduceNeg, Int.reduceAdd, Int.reduceSub, ↓reduceIte, reduceCtorEq]
  rw [if_pos c4] at ho
  obtain ⟨ho, q1⟩ := ho
  rw [ho, if_pos c4]
  rw [hB] at q1
  unfold bodF
  simp only
  by_cases c5 : hid = 0
  case neg =>
    rw [if_pos (.inl c5)]
    simp only [hx41_0, p1, Try.f41, G, go_sem, Nat.reduceAdd, Nat.reduceSub, Nat.reduceMul, Nat.reduceEqDiff, Nat.reduceBEq, Nat.reduceLT, Nat.reduceLeDiff, Nat.reducePow, Int.reduceToNat, Int.reduceLT, Int.reduceLE, Int.reduceGT, Int.reduceGE, Int.reduceEq, Int.reduceNeg, Int.reduceAdd, Int.reduceSub, ↓reduceIte, reduceCtorEq, q1, decide_eq_false c5]
  by_cases c6 : hr = 0
  case neg =>
    rw [if_pos (.inr c6)]
    simp only [hx41_0, p1, Try.f41, G, go_sem, Nat.reduceAdd, Nat.reduceSub, Nat.reduceMul, Nat.reduceEqDiff, Nat.reduceBEq, Nat.reduceLT, Nat.reduceLeDiff, Nat.reducePow, Int.reduceToNat, Int.reduceLT, Int.reduceLE, Int.reduceGT, Int.reduceGE, Int.reduceEq, Int.reduceNeg, Int.reduceAdd, Int.reduceSub, ↓reduceIte, reduceCtorEq, q1, decide_eq_true c5, decide_eq_false c6]
  rw [if_neg (by simp [c5, c6])]
  by_cases c7 : okV 4194304 (a, b, c) = true
  case neg =>
    rw [if_neg (by simp [c7])]
    have c7' : okV 4194304 (a, b, c) = false := by simpa using c7
    simp only [hx41_0, p1, Try.f41, G, go_sem, Nat.reduceAdd, Nat.reduceSub, Nat.reduceMul, Nat.reduceEqDiff, Nat.reduceBEq, Nat.reduceLT, Nat.reduceLeDiff, Nat.reducePow, Int.reduceToNat, Int.reduceLT, Int.reduceLE, Int.reduceGT, Int.reduceGE, Int.reduceEq, Int.reduceNeg, Int.reduceAdd, Int.reduceSub, ↓reduceIte, reduceCtorEq, q1, decide_eq_true c5, decide_eq_true c6, r1, c7']
  by_cases c8 : okV 4194304 (u, v, w) = true
  case neg =>
    rw [if_neg (by simp [c8])]
    have c8' : okV 4194304 (u, v, w) = false := by simpa using c8
    simp only [hx41_0, p1, Try.f41, G, go_sem, Nat.reduceAdd, Nat.reduceSub, Nat.reduceMul, Nat.reduceEqDiff, Nat.reduceBEq, Nat.reduceLT, Nat.reduceLeDiff, Nat.reducePow, Int.reduceToNat, Int.reduceLT, Int.reduceLE, Int.reduceGT, Int.reduceGE, Int.reduceEq, Int.reduceNeg, Int.reduceAdd, Int.reduceSub, ↓reduceIte, reduceCtorEq, q1, decide_eq_true c5, decide_eq_true c6, r1, c7, r2, c8']
  rw [if_pos ⟨c7, c8⟩]
  simp only [hx41_0, p1, Try.f41, G, go_sem, Nat.reduceAdd, Nat.reduceSub, Nat.reduceMul, Nat.reduceEqDiff, Nat.reduceBEq, Nat.reduceLT, Nat.reduceLeDiff, Nat.reducePow, Int.reduceToNat, Int.reduceLT, Int.reduceLE, Int.reduceGT, Int.reduceGE, Int.reduceEq, Int.reduceNeg, Int.reduceAdd, Int.reduceSub, ↓reduceIte, reduceCtorEq, q1, decide_eq_true c5, decide_eq_true c6, r1, c7, r2, c8]
theorem skyFault_ok : SpecOk Try.prog 41 sFault := specC_ok mixed G_ok T_ok fun s h => ⟨_, 3, eFault s h⟩
#print axioms skyFault_ok
end Go.Proofs.YtmhjmjodchbhlaaR.SkyFRate
