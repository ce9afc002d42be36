/- Parts of one proof, joined: SkyFRate, SkyCRate. -/
import Derived.Test.YtmhjmjodchbhlaaRMSkyDirs12
section
set_option linter.unusedVariables false
set_option linter.unusedSimpArgs false
set_option maxRecDepth 100000
namespace Go.Proofs.YtmhjmjodchbhlaaR.SkyFRate
open Go.Ev Go.Ari Go.Proofs.YtmhjmjodchbhlaaR.FxRate Go.Proofs.YtmhjmjodchbhlaaR.PullPull Go.Proofs.YtmhjmjodchbhlaaR.TypesRate Go.Proofs.YtmhjmjodchbhlaaR.FaultRate Go.Proofs.YtmhjmjodchbhlaaR.OwnRate
open Go.Proofs.YtmhjmjodchbhlaaR.PathPath (Bod bD cBod)
open Go.Proofs.YtmhjmjodchbhlaaR.ThingsRate (thD small sThings things_ok loop_then)
open Go.Proofs.YtmhjmjodchbhlaaR.StarRate (sStar sStar_run okStar fault_ok)
open Go.Proofs.YtmhjmjodchbhlaaR.Idx129Rate (cf)
attribute [local go_sem] Ev.putR_s Ev.putR_0 Ev.thenO_s Ev.thenO_0 Ev.seqR_n Ev.seqR_e Ev.seqR_r Ev.seqR_0 Ev.blkR_e Ev.blkR_n Ev.blkR_r Ev.blkR_0 Ev.normR_s Ev.normR_0 Ev.outR_r Ev.outR_n Ev.outR_0 Ev.retS_s Ev.retS_0 Ev.pureO_s Ev.pureO_0 Ev.topR_0 Ev.topR_t Ev.topR_t0 Ev.oneL_0 Ev.oneL_s Ev.topR_d Ev.topR_nils Ev.topR_agg Ev.topR_rs Ev.evOp_move Ev.evOp_assign Ev.evOp_pick Ev.evOp_alloc Ev.evOp_box Ev.evOp_build Ev.evOp_buildSlice Ev.evOp_load Ev.evOp_store Ev.evOp_makeMap Ev.evOp_lookup Ev.evOp_mapUpdate Ev.evOp_insert Ev.evOp_nilCheck Ev.evOp_binOp Ev.evOp_unOp Ev.evOp_convert Ev.evOp_makeFunc Ev.evOp_makeSlice Ev.evOp_slice Ev.evOp_fieldAddr Ev.evOp_field Ev.evOp_indexAddr Ev.evOp_index Ev.evOp_extract Ev.evOp_call Ev.evOp_append Ev.evOp_len Ev.evOp_min Ev.evOp_max Ev.condR_b Ev.condR_t Ev.evOps_nil Ev.evOps_plain Ev.evOps_guard Ev.runG_eq Ev.skipG_eq Ev.condL_tt Ev.condL_ff Ev.condL_tf Ev.condL_ft Ev.condL_u Ev.condC_t Ev.condC_f Ev.evC_skip Ev.evC_ret Ev.evC_exit Ev.evC_label Ev.evC_region Ev.evC_draw Ev.evC_seq Ev.evC_cond Ev.evC_block Ev.evC_loop Ev.fin_d Ev.fin_nils Ev.fin_agg_ Ev.fin_rs Ev.finS_s Ev.mapO_fin Ev.upd_upd Ev.argv_d Ev.argv_nils Ev.argv_agg Ev.argv_rs Ev.argv_p Ev.appendTo_nils Ev.appendTo_rs Ev.consV_d Ev.consV_agg Ev.consV_p Ev.consV_rs Ev.consV_nils Ev.consV_fn Ev.consV_und Ev.consV_jk Ev.consV_grown Ev.topR_grown Ev.len_grown Ev.consV_mp Ev.sameK_i Ev.sameK_s Ev.mget_0 Ev.mget_hit Ev.mget_miss Ev.mput_0 Ev.mput_hit Ev.mput_miss Ev.apartAll Ev.apartL Ev.apartV Ev.freeAll Ev.sel Ev.keyOfV Ev.evLookup Ev.evPut Ev.hintOk Ev.keyOk Ev.consP Ev.lookV Ev.guardV Ev.dstAt Ev.evPure Ev.evStore Ev.evPureB Ev.evBin Ev.evBinO Ev.evNil Ev.isNilC Ev.evUn Ev.evConv Ev.evSlice Ev.optI Ev.lenV Ev.elemT Ev.foldI Ev.capsOk Ev.noTup Ev.nth Ev.setN Ev.pad Ev.V.get Ev.V.put Ev.putD Ev.hasT Ev.newBlk Ev.upd Ev.keq Ev.empty Ev.evCall Ev.V.args Ev.argP Ev.callOf Ev.evNilP Ev.isNilP Ev.look Ev.V.view.views Ev.V.view Ev.V.toD Ev.V.toD.V.toDs Ev.V.pure.pures Ev.V.pure Ev.D.flat.flats Ev.D.flat Ev.mkAgg Ev.allD Ev.aggParts Ev.setParts Ev.setElems Ev.getPath Ev.setPath Ev.subL Ev.eqD Ev.eqD.eqDs Ev.and2 Ev.strCut Ev.evalT Ev.constT Ev.evArgs Ev.mask Ev.maskOf Ev.tableOf Ev.compT Ev.resV Ev.retV Ev.mapO Ev.elemsOf Int.cast_ofNat_Int IntWalk.i64_in IntWalk.u64_in IntWalk.u8_in beq_self_eq_true Bool.true_beq Bool.false_beq Bool.and_true Bool.true_and Bool.false_and Bool.and_false Bool.and_self Bool.not_true Bool.not_false Bool.not_eq_true cond_true cond_false if_true if_false and_true true_and and_self decide_true decide_false Bool.or_true Bool.true_or Bool.or_false Bool.false_or List.isEmpty List.isEmpty_nil List.size_toArray List.map List.length_map List.length_cons List.length_nil Option.map Option.bind Option.getD Option.isSome List.replicate Bool.false_eq_true implies_true forall_const Array.toList Array.isEmpty List.append List.nil_append List.cons_append List.drop_zero List.take_length List.take_succ_cons List.take_zero List.take_nil List.getElem?_map List.getElem?_cons_zero List.getElem?_cons_succ List.getElem?_nil List.append_nil
attribute [local go_sem] FxRate.tk2 FxRate.ik2 FxRate.ek2 FxRate.zv2 FxRate.tk3 FxRate.ik3 FxRate.ek3 FxRate.zv3 FxRate.by3 FxRate.so3 FxRate.tk4 FxRate.ub4 FxRate.zv4 FxRate.tk23 FxRate.ct23 FxRate.ek23 FxRate.zv23 FxRate.tk27 FxRate.ik27 FxRate.zv27 FxRate.tk37 FxRate.ik37 FxRate.zv37 FxRate.by37 FxRate.so37 FxRate.tk39 FxRate.ct39 FxRate.zv39 FxRate.by39 FxRate.so39 FxRate.tk43 FxRate.zv43 FxRate.tk44 FxRate.zv44 FxRate.tk45 FxRate.zv45 FxRate.tk47 FxRate.ct47 FxRate.zv47 FxRate.tk48 FxRate.ik48 FxRate.zv48 FxRate.by48 FxRate.so48 FxRate.tk74 FxRate.zv74 FxRate.tk76 FxRate.ct76 FxRate.zv76 FxRate.by76 FxRate.so76 FxRate.tk77 FxRate.zv77 FxRate.tk79 FxRate.ct79 FxRate.zv79 FxRate.by79 FxRate.so79 FxRate.tk108 FxRate.zv108 FxRate.tk110 FxRate.ek110 FxRate.zv110 FxRate.tk111 FxRate.ek111 FxRate.zv111 FxRate.tk112 FxRate.zv112 FxRate.tk114 FxRate.ct114 FxRate.zv114 FxRate.by114 FxRate.so114 FxRate.tk136 FxRate.mt136 FxRate.sm136 FxRate.zw4 FxRate.zv136 FxRate.tk141 FxRate.zv141 FxRate.tk145 FxRate.zv145 FxRate.tk161 FxRate.ct161 FxRate.zv161 FxRate.tk182 FxRate.zv182 FxRate.mk7_1000000 FxRate.mk24_0 FxRate.mk24_2 FxRate.mk24_4 FxRate.mk24_1000001 FxRate.mk24_1000002 FxRate.mk24_1000003 FxRate.mk24_1000004 FxRate.mk24_1000005 FxRate.mk24_1000006 FxRate.mk24_1000000 FxRate.dw25_19 FxRate.nc25_19 FxRate.mk25_0 FxRate.mk25_2 FxRate.mk25_1000001 FxRate.mk25_1000002 FxRate.mk25_1000003 FxRate.mk25_1000004 FxRate.mk25_1000000 FxRate.mk40_0 FxRate.mk40_2 FxRate.mk40_4 FxRate.mk40_1000001 FxRate.mk40_1000002 FxRate.mk40_1000003 FxRate.mk40_1000004 FxRate.mk40_1000005 FxRate.mk40_1000006 FxRate.mk40_1000007 FxRate.mk40_1000000 FxRate.mk41_0 FxRate.mk41_1000001 FxRate.mk41_1000002 FxRate.mk41_1000003 FxRate.mk41_1000004 FxRate.mk41_1000000 FxRate.mk66_1000000 FxRate.dw67_9 FxRate.nc67_9 FxRate.mk67_1000000 FxRate.dw68_5 FxRate.nc68_5 FxRate.dw68_10 FxRate.nc68_10 FxRate.dw68_15 FxRate.nc68_15 FxRate.mk68_0 FxRate.mk68_2 FxRate.mk68_4 FxRate.mk68_1000001 FxRate.mk68_1000002 FxRate.mk68_1000003 FxRate.mk68_1000004 FxRate.mk68_1000005 FxRate.mk68_1000006 FxRate.mk68_1000000 FxRate.mk87_1000001 FxRate.mk87_1000000 FxRate.mk88_1000001 FxRate.mk88_1000000 FxRate.mk89_0 FxRate.mk89_1000001 FxRate.mk89_1000002 FxRate.mk89_1000000 FxRate.mk90_1000000 FxRate.mk91_1000000 FxRate.dw92_10 FxRate.nc92_10 FxRate.mk92_0 FxRate.mk92_2 FxRate.mk92_1000001 FxRate.mk92_1000002 FxRate.mk92_1000003 FxRate.mk92_1000004 FxRate.mk92_1000000 FxRate.mk93_1000001 FxRate.mk93_1000000 FxRate.mk94_1000000 FxRate.mk95_1000000 FxRate.mk128_1000000 FxRate.mk129_0 FxRate.mk129_1000001 FxRate.mk129_1000002 FxRate.mk129_1000000 FxRate.mk130_1000000 FxRate.mk131_0 FxRate.mk131_1000001 FxRate.mk131_1000002 FxRate.mk131_1000000 FxRate.mk150_0 FxRate.mk150_1000001 FxRate.mk150_1000002 FxRate.mk150_1000000
theorem thD_ex (x : Thing) : ∃ a b c, thD x = .agg 114 [.int .i64 x.id, .int .i64 x.rate, a, b, c] := by
  cases x <;> exact ⟨_, _, _, rfl⟩
theorem thD_inj (x y : Thing) (h : thD x = thD y) : x = y := by
  cases x <;> cases y <;> simp only [thD, D.agg.injEq, List.cons.injEq, true_and, and_true, D.ptr.injEq, reduceCtorEq, false_and, and_false] at h
  · rw [cStar.inj _ _ h.2.2]
  · rw [cGal.inj _ _ h.2.2]
  · rw [cBod.inj _ _ h.2.2]
def cTh : Cod Thing := ⟨thD, thD_inj⟩
def cPT : Cod Thing := ⟨fun x => .ptr (thD x), fun x y h => thD_inj x y (D.ptr.inj h)⟩
/-! ### the closure -/
def same (x y : Thing) : Bool := decide (y.id = x.id)
noncomputable def sSame : Ev.Spec := specC (cCons cTh (cOne cPT)) (fun _ => True) fun x => [.bool (same x.2 x.1)]
theorem sSame_run (y x : Thing) : sSame.run [thD y, .ptr (thD x)] = some [.bool (same x y)] := specC_run (cCons cTh (cOne cPT)) _ _ (y, x) trivial
noncomputable def T1 : Table := tableOf [(91, en91)]
theorem T1_ok : TableOk Try.prog (([] : Specs).map (·.1)) T1 := (table_cons Try.func91 (by kernel_rfl) (by kernel_rfl) table_nil)
theorem eSame (y x : Thing) : evTop Try.prog [] T1 0 1 91 [thD y, .ptr (thD x)] = some [.bool (same x y)] := by
  obtain ⟨a, b, c, h1⟩ := thD_ex y
  obtain ⟨a', b', c', h2⟩ := thD_ex x
  rw [h1, h2]
  unfold evTop
  simp only [List.map]
  rw [evF_s (fn := Try.f91) (msk := en91.ms) (hT := by rfl) (hb := by rfl)]
  simp only [Try.f91, go_sem, Nat.reduceAdd, Nat.reduceSub, Nat.reduceMul, Nat.reduceEqDiff, Nat.reduceBEq, Nat.reduceLT, Nat.reduceLeDiff, Nat.reducePow, Int.reduceToNat, Int.reduceLT, Int.reduceLE, Int.reduceGT, Int.reduceGE, Int.reduceEq, Int.reduceNeg, Int.reduceAdd, Int.reduceSub, ↓reduceIte, reduceCtorEq, same]
theorem same_ok : SpecOk Try.prog 91 sSame := specC_ok mixed specs_nil T1_ok fun x _ => ⟨0, 1, eSame x.1 x.2⟩
/-! ### SkyFault -/
def okSky (s : Sky) : Prop := small s ∧ ∀ x ∈ s.stars, x.wave.length ≤ 1048576
noncomputable def sFault : Ev.Spec := specC (cOne cSky) okSky fun s => [.int .i64 (fault s)]
noncomputable def G : Specs := [(68, sThings), (91, sSame), (92, sStar), (93, sChk), (94, sHalf), (50, sIn)]
noncomputable def T : Table := tableOf [(41, en41), (90, en90), (129, en129)]
theorem G_ok : ∀ g s, Ev.look G g = some s → SpecOk Try.prog g s := specs_cons things_ok (specs_cons same_ok (specs_cons fault_ok (specs_cons chk_ok (specs_cons half_ok (specs_cons inside_ok specs_nil)))))
theorem T_ok : TableOk Try.prog (G.map (·.1)) T := (table_cons Try.func41 (by kernel_rfl) (by kernel_rfl) (table_cons Try.func90 (by kernel_rfl) (by kernel_rfl) (table_cons Try.func129 (by kernel_rfl) (by kernel_rfl) table_nil)))
def box (s : Sky) : Blk := ⟨1, 47, [.d s.D], true⟩
def p1 : V := .p (0, 1) 1 0 []
def hd (l : List Thing) (i : Nat) : List V := hd41_0 p1 (.d (.sl 114 (l.map thD))) (.d (.sl 114 (l.map thD))) (.d (.int .i64 l.length)) (.d (.int .i64 i))
def J (s : Sky) (l : List Thing) (x : Nat × Store) : Prop := x.1 ≤ l.length ∧ x.2 (0, 1) = box s ∧ faults [] (l.take x.1) = 0
def Q (s : Sky) (l : List Thing) (x : Nat × Store) (o : Out) : Prop := ∃ st', if faults [] l = 0 then o = some (.exit 0, hx41_0 p1, st') ∧ st' (0, 1) = box s else o = some (.ret, hr41 (.d (.int .i64 (faults [] l))), st')
theorem any_same (l : List Thing) (x : Thing) : l.any (same x) = decide (x.id ∈ l.map Thing.id) := by
  induction l with
  | nil => simp
  | cons y r ih =>
    simp only [List.any_cons, ih, same, List.map_cons, List.mem_cons]
    by_cases h : y.id = x.id
    · simp [h]
    · have h' : ¬ x.id = y.id := fun q => h q.symm
      simp [h, h']
theorem headF_1 {seen : List Int} {id rate : Int} (h : id < 1 ∨ id > 1073741824) : headF seen id rate = 4 := if_pos h
theorem headF_2 {seen : List Int} {id rate : Int} (h : ¬ (id < 1 ∨ id > 1073741824)) (h2 : id ∈ seen) : headF seen id rate = 7 := by unfold headF; rw [if_neg h, if_pos h2]
theorem headF_3 {seen : List Int} {id rate : Int} (h : ¬ (id < 1 ∨ id > 1073741824)) (h2 : ¬ id ∈ seen) (h3 : rate < 0 ∨ rate > 1048576) : headF seen id rate = 4 := by unfold headF; rw [if_neg h, if_neg h2, if_pos h3]
theorem headF_0 {seen : List Int} {id rate : Int} (h : ¬ (id < 1 ∨ id > 1073741824)) (h2 : ¬ id ∈ seen) (h3 : ¬ (rate < 0 ∨ rate > 1048576)) : headF seen id rate = 0 := by unfold headF; rw [if_neg h, if_neg h2, if_neg h3]
theorem one_h {seen : List Int} {x : Thing} {e : Int} (h : headF seen x.id x.rate = e) (he : ¬ e = 0) : one seen x = e := by unfold one; rw [if_neg (by rw [h]; exact he), h]
theorem one_o {seen : List Int} {x : Thing} (h : headF seen x.id x.rate = 0) : one seen x = own x := by unfold one; rw [if_pos h]
theorem loop (L : Nat) (s : Sky) (l : List Thing) (hl : l.length ≤ 40) (hL : 40 < L) (hw : ∀ x, .st x ∈ l → x.wave.length ≤ 1048576) :
    ∀ (m : Nat) (x : Nat × Store) (env : List V), J s l x → l.length - x.1 < m → mask (maskOf en41.ms 0) env = hd l x.1 →
      Q s l x (iter (evC Try.prog G (evF Try.prog G T L 2) L en41.ms 0 0 lb41_0) (maskOf en41.ms 0) m env x.2) := by
  refine iter_rel _ _ (J s l) (fun x => hd l x.1) (fun x => x.2) (Q s l) (fun x => l.length - x.1) ?_
  rintro ⟨i, st⟩ ⟨hi, q1, qf⟩ k hk
  simp only at hi q1 qf
  by_cases hin : i < l.length
  case neg =>
    obtain rfl : i = l.length := by omega
    have hlt : ¬ (l.length : Int) < l.length := by omega
    rw [List.take_length] at qf
    refine ⟨st, ?_⟩
    rw [if_pos qf]
    refine ⟨?_, q1⟩
    simp only [lb41_0, loopN, loops, hd, p1, hd41_0, hx41_0, Try.f41, go_sem, Nat.reduceAdd, Nat.reduceSub, Nat.reduceMul, Nat.reduceEqDiff, Nat.reduceBEq, Nat.reduceLT, Nat.reduceLeDiff, Nat.reducePow, Int.reduceToNat, Int.reduceLT, Int.reduceLE, Int.reduceGT, Int.reduceGE, Int.reduceEq, Int.reduceNeg, Int.reduceAdd, Int.reduceSub, ↓reduceIte, reduceCtorEq, hlt]
  have hlt : (i : Int) < l.length := by omega
  have hx : l[i]? = some l[i] := by simp [hin]
  have hmem : l[i] ∈ l := List.getElem_mem _
  have g0 : (0 : Int) ≤ (i : Int) := by omega
  have ht : ((i : Int)).toNat = i := by omega
  have hle : (i : Int) ≤ l.length := by omega
  have hle' : i ≤ l.length := by omega
  have hw1 : IntKind.i64.wrap ((i : Int) + 1) = ((i + 1 : Nat) : Int) := by rw [IntWalk.i64_in _ (by omega)]; rfl
  obtain ⟨ht0, ht1⟩ := faults_take hin qf
  have hseen := any_same (l.take i) l[i]
  have hcf : ∀ (lv ver : Nat) (st : Store), (st (0, 5)).ver = ver → (st (0, 5)).live = true → (st (0, 5)).vs = [.d (thD l[i])] →
      evF Try.prog G T L 2 90 [.d (.sl 114 ((l.map thD).take i)), .fn 91 [.p (0, 5) ver 0 []]] lv st = some (.d (.bool ((l.take i).any (same l[i]))), st) := fun lv ver st a1 a2 a3 => by
    rw [← List.map_take]
    exact cf thD G T rfl rfl sSame rfl rfl 0 lv (same l[i]) (thD l[i]) (0, 5) ver (l.take i) st (fun y _ => sSame_run y l[i]) (fun y => by obtain ⟨a, b, c, h⟩ := thD_ex y; rw [h]; simp only [go_sem, Nat.reduceAdd, Nat.reduceSub, Nat.reduceMul, Nat.reduceEqDiff, Nat.reduceBEq, Nat.reduceLT, Nat.reduceLeDiff, Nat.reducePow, Int.reduceToNat, Int.reduceLT, Int.reduceLE, Int.reduceGT, Int.reduceGE, Int.reduceEq, Int.reduceNeg, Int.reduceAdd, Int.reduceSub, ↓reduceIte, reduceCtorEq]) a1 a2 a3 (by rw [List.length_take]; omega) L (by rw [List.length_take]; omega)
  generalize hxi : l[i] = x at *
  have hret : ∀ e : Int, one ((l.take i).map Thing.id) x = e → ¬ e = 0 → ∀ st1, Q s l (i, st) (some (.ret, hr41 (.d (.int .i64 e)), st1)) := fun e h1 h2 st1 => by
    have h3 := ht1 (by rw [h1]; exact h2)
    rw [h1] at h3
    exact ⟨st1, by rw [if_neg (by rw [h3]; exact h2), h3]⟩
  have hgo : one ((l.take i).map Thing.id) x = 0 → ∀ st1 env, st1 (0, 1) = box s → mask (maskOf en41.ms 0) env = hd l (i + 1) → Q s l (i, st) (k env st1) := fun h1 st1 env h2 h3 =>
    (hk (i + 1, st1) env ⟨by simp only; omega, h2, ht0 h1⟩ (by simp only; omega) h3 : Q s l (i + 1, st1) _)
  obtain ⟨a, b, c, hth⟩ := thD_ex x
  have hcg := hcf
  simp only [hth, G] at hcg
  have hseen' := hseen
  by_cases c1 : x.id < 1
  · have hq := hret 4 (one_h (headF_1 (.inl c1)) (by decide)) (by decide)
    simp only [lb41_0, loopN, loops, hd, p1, hd41_0, Try.f41, G, go_sem, Nat.reduceAdd, Nat.reduceSub, Nat.reduceMul, Nat.reduceEqDiff, Nat.reduceBEq, Nat.reduceLT, Nat.reduceLeDiff, Nat.reducePow, Int.reduceToNat, Int.reduceLT, Int.reduceLE, Int.reduceGT, Int.reduceGE, Int.reduceEq, Int.reduceNeg, Int.reduceAdd, Int.reduceSub, ↓reduceIte, reduceCtorEq, hlt, hx, hxi, hth, g0, ht, c1]
    exact hq _
  by_cases c2 : x.id > 1073741824
  · have hq := hret 4 (one_h (headF_1 (.inr c2)) (by decide)) (by decide)
    simp only [lb41_0, loopN, loops, hd, p1, hd41_0, Try.f41, G, go_sem, Nat.reduceAdd, Nat.reduceSub, Nat.reduceMul, Nat.reduceEqDiff, Nat.reduceBEq, Nat.reduceLT, Nat.reduceLeDiff, Nat.reducePow, Int.reduceToNat, Int.reduceLT, Int.reduceLE, Int.reduceGT, Int.reduceGE, Int.reduceEq, Int.reduceNeg, Int.reduceAdd, Int.reduceSub, ↓reduceIte, reduceCtorEq, hlt, hx, hxi, hth, g0, ht, c1, c2]
    exact hq _
  by_cases c3 : x.id ∈ (l.take i).map Thing.id
  · have hq := hret 7 (one_h (headF_2 (by omega) c3) (by decide)) (by decide)
    rw [decide_eq_true c3] at hseen
    simp only [lb41_0, loopN, loops, hd, p1, hd41_0, Try.f41, G, go_sem, Nat.reduceAdd, Nat.reduceSub, Nat.reduceMul, Nat.reduceEqDiff, Nat.reduceBEq, Nat.reduceLT, Nat.reduceLeDiff, Nat.reducePow, Int.reduceToNat, Int.reduceLT, Int.reduceLE, Int.reduceGT, Int.reduceGE, Int.reduceEq, Int.reduceNeg, Int.reduceAdd, Int.reduceSub, ↓reduceIte, reduceCtorEq, hlt, hx, hxi, hth, g0, ht, hle, hle', c1, c2, hcg, hseen]
    exact hq _
  rw [decide_eq_false c3] at hseen
  by_cases c4 : x.rate < 0
  · have hq := hret 4 (one_h (headF_3 (by omega) c3 (.inl c4)) (by decide)) (by decide)
    simp only [lb41_0, loopN, loops, hd, p1, hd41_0, Try.f41, G, go_sem, Nat.reduceAdd, Nat.reduceSub, Nat.reduceMul, Nat.reduceEqDiff, Nat.reduceBEq, Nat.reduceLT, Nat.reduceLeDiff, Nat.reducePow, Int.reduceToNat, Int.reduceLT, Int.reduceLE, Int.reduceGT, Int.reduceGE, Int.reduceEq, Int.reduceNeg, Int.reduceAdd, Int.reduceSub, ↓reduceIte, reduceCtorEq, hlt, hx, hxi, hth, g0, ht, hle, hle', c1, c2, hcg, hseen, c4]
    exact hq _
  by_cases c5 : x.rate > 1048576
  · have hq := hret 4 (one_h (headF_3 (by omega) c3 (.inr c5)) (by decide)) (by decide)
    simp only [lb41_0, loopN, loops, hd, p1, hd41_0, Try.f41, G, go_sem, Nat.reduceAdd, Nat.reduceSub, Nat.reduceMul, Nat.reduceEqDiff, Nat.reduceBEq, Nat.reduceLT, Nat.reduceLeDiff, Nat.reducePow, Int.reduceToNat, Int.reduceLT, Int.reduceLE, Int.reduceGT, Int.reduceGE, Int.reduceEq, Int.reduceNeg, Int.reduceAdd, Int.reduceSub, ↓reduceIte, reduceCtorEq, hlt, hx, hxi, hth, g0, ht, hle, hle', c1, c2, hcg, hseen, c4, c5]
    exact hq _
  have ho : one ((l.take i).map Thing.id) x = own x := one_o (headF_0 (by omega) c3 (by omega))
  rw [ho] at hgo hret
  clear ht0 ht1 hth hcg
  cases x with
  | st y =>
    obtain ⟨id, ⟨u, v, w⟩, r, wv, p, f, t⟩ := y
    simp only [Thing.id, Thing.rate] at c1 c2 c4 c5
    have rs := sStar_run ⟨id, (u, v, w), r, wv, p, f, t⟩ ⟨⟨by simp only; omega, by simp only; omega⟩, by have := hw _ hmem; simp only at this ⊢; omega⟩
    simp only [own] at hgo hret
    generalize starF ⟨id, (u, v, w), r, wv, p, f, t⟩ = F at *
    simp only [Star.D, vD] at rs
    simp only [thD, Star.D, vD, G] at hcf
    by_cases c6 : F = 0
    · have hq := hgo c6
      simp only [lb41_0, loopN, loops, hd, p1, hd41_0, Try.f41, G, go_sem, Nat.reduceAdd, Nat.reduceSub, Nat.reduceMul, Nat.reduceEqDiff, Nat.reduceBEq, Nat.reduceLT, Nat.reduceLeDiff, Nat.reducePow, Int.reduceToNat, Int.reduceLT, Int.reduceLE, Int.reduceGT, Int.reduceGE, Int.reduceEq, Int.reduceNeg, Int.reduceAdd, Int.reduceSub, ↓reduceIte, reduceCtorEq, hlt, hx, hxi, thD, Star.D, vD, g0, ht, hle, hle', c1, c2, hcf, hseen, c4, c5, rs, c6, hw1]
      exact hq _ _ (by simp only [go_sem, Nat.reduceAdd, Nat.reduceSub, Nat.reduceMul, Nat.reduceEqDiff, Nat.reduceBEq, Nat.reduceLT, Nat.reduceLeDiff, Nat.reducePow, Int.reduceToNat, Int.reduceLT, Int.reduceLE, Int.reduceGT, Int.reduceGE, Int.reduceEq, Int.reduceNeg, Int.reduceAdd, Int.reduceSub, ↓reduceIte, reduceCtorEq, q1]) (by simp only [hd, p1, hd41_0, go_sem, Nat.reduceAdd, Nat.reduceSub, Nat.reduceMul, Nat.reduceEqDiff, Nat.reduceBEq, Nat.reduceLT, Nat.reduceLeDiff, Nat.reducePow, Int.reduceToNat, Int.reduceLT, Int.reduceLE, Int.reduceGT, Int.reduceGE, Int.reduceEq, Int.reduceNeg, Int.reduceAdd, Int.reduceSub, ↓reduceIte, reduceCtorEq, hw1])
    · have hq := hret F rfl c6
      simp only [lb41_0, loopN, loops, hd, p1, hd41_0, Try.f41, G, go_sem, Nat.reduceAdd, Nat.reduceSub, Nat.reduceMul, Nat.reduceEqDiff, Nat.reduceBEq, Nat.reduceLT, Nat.reduceLeDiff, Nat.reducePow, Int.reduceToNat, Int.reduceLT, Int.reduceLE, Int.reduceGT, Int.reduceGE, Int.reduceEq, Int.reduceNeg, Int.reduceAdd, Int.reduceSub, ↓reduceIte, reduceCtorEq, hlt, hx, hxi, thD, Star.D, vD, g0, ht, hle, hle', c1, c2, hcf, hseen, c4, c5, rs, c6, hw1]
      exact hq _
  | ga y =>
    obtain ⟨id, ⟨u, v, w⟩, r, wide, high⟩ := y
    simp only [Thing.id, Thing.rate] at c1 c2 c4 c5
    have rc := sChk_run u v w
    have r1 := sHalf_run wide
    have r2 := sHalf_run high
    simp only [own, galF] at hgo hret
    simp only [thD, Gal.D, vD, G] at hcf
    by_cases c6 : chkV (u, v, w) = 0
    case neg =>
      rw [if_neg c6] at hret
      have hq := hret _ rfl c6
      simp only [lb41_0, loopN, loops, hd, p1, hd41_0, Try.f41, G, go_sem, Nat.reduceAdd, Nat.reduceSub, Nat.reduceMul, Nat.reduceEqDiff, Nat.reduceBEq, Nat.reduceLT, Nat.reduceLeDiff, Nat.reducePow, Int.reduceToNat, Int.reduceLT, Int.reduceLE, Int.reduceGT, Int.reduceGE, Int.reduceEq, Int.reduceNeg, Int.reduceAdd, Int.reduceSub, ↓reduceIte, reduceCtorEq, hlt, hx, hxi, thD, Gal.D, vD, g0, ht, hle, hle', c1, c2, hcf, hseen, c4, c5, rc, c6, hw1]
      exact hq _
    rw [if_pos c6] at hgo hret
    by_cases c7 : sizeOk wide = true
    case neg =>
      rw [if_neg (by simp [c7])] at hret
      have hq := hret _ rfl (by decide)
      have c7' : sizeOk wide = false := by simpa using c7
      simp only [lb41_0, loopN, loops, hd, p1, hd41_0, Try.f41, G, go_sem, Nat.reduceAdd, Nat.reduceSub, Nat.reduceMul, Nat.reduceEqDiff, Nat.reduceBEq, Nat.reduceLT, Nat.reduceLeDiff, Nat.reducePow, Int.reduceToNat, Int.reduceLT, Int.reduceLE, Int.reduceGT, Int.reduceGE, Int.reduceEq, Int.reduceNeg, Int.reduceAdd, Int.reduceSub, ↓reduceIte, reduceCtorEq, hlt, hx, hxi, thD, Gal.D, vD, g0, ht, hle, hle', c1, c2, hcf, hseen, c4, c5, rc, c6, r1, c7', hw1]
      exact hq _
    by_cases c8 : sizeOk high = true
    case neg =>
      rw [if_neg (by simp [c8])] at hret
      have hq := hret _ rfl (by decide)
      have c8' : sizeOk high = false := by simpa using c8
      simp only [lb41_0, loopN, loops, hd, p1, hd41_0, Try.f41, G, go_sem, Nat.reduceAdd, Nat.reduceSub, Nat.reduceMul, Nat.reduceEqDiff, Nat.reduceBEq, Nat.reduceLT, Nat.reduceLeDiff, Nat.reducePow, Int.reduceToNat, Int.reduceLT, Int.reduceLE, Int.reduceGT, Int.reduceGE, Int.reduceEq, Int.reduceNeg, Int.reduceAdd, Int.reduceSub, ↓reduceIte, reduceCtorEq, hlt, hx, hxi, thD, Gal.D, vD, g0, ht, hle, hle', c1, c2, hcf, hseen, c4, c5, rc, c6, r1, c7, r2, c8', hw1]
      exact hq _
    rw [if_pos ⟨c7, c8⟩] at hgo
    have hq := hgo rfl
    simp only [lb41_0, loopN, loops, hd, p1, hd41_0, Try.f41, G, go_sem, Nat.reduceAdd, Nat.reduceSub, Nat.reduceMul, Nat.reduceEqDiff, Nat.reduceBEq, Nat.reduceLT, Nat.reduceLeDiff, Nat.reducePow, Int.reduceToNat, Int.reduceLT, Int.reduceLE, Int.reduceGT, Int.reduceGE, Int.reduceEq, Int.reduceNeg, Int.reduceAdd, Int.reduceSub, ↓reduceIte, reduceCtorEq, hlt, hx, hxi, thD, Gal.D, vD, g0, ht, hle, hle', c1, c2, hcf, hseen, c4, c5, rc, c6, r1, c7, r2, c8, hw1]
    exact hq _ _ (by simp only [go_sem, Nat.reduceAdd, Nat.reduceSub, Nat.reduceMul, Nat.reduceEqDiff, Nat.reduceBEq, Nat.reduceLT, Nat.reduceLeDiff, Nat.reducePow, Int.reduceToNat, Int.reduceLT, Int.reduceLE, Int.reduceGT, Int.reduceGE, Int.reduceEq, Int.reduceNeg, Int.reduceAdd, Int.reduceSub, ↓reduceIte, reduceCtorEq, q1]) (by simp only [hd, p1, hd41_0, go_sem, Nat.reduceAdd, Nat.reduceSub, Nat.reduceMul, Nat.reduceEqDiff, Nat.reduceBEq, Nat.reduceLT, Nat.reduceLeDiff, Nat.reducePow, Int.reduceToNat, Int.reduceLT, Int.reduceLE, Int.reduceGT, Int.reduceGE, Int.reduceEq, Int.reduceNeg, Int.reduceAdd, Int.reduceSub, ↓reduceIte, reduceCtorEq, hw1])
  | bo y =>
    obtain ⟨id, ⟨u, v, w⟩, ⟨u', v', w'⟩, r⟩ := y
    simp only [Thing.id, Thing.rate] at c1 c2 c4 c5
    have r1 := sIn_run u v w 4194304 (by decide) (by decide)
    have r2 := sIn_run u' v' w' 4194304 (by decide) (by decide)
    simp only [own, bodF] at hgo hret
    simp only [thD, bD, vD, G] at hcf
    by_cases c6 : okV 4194304 (u, v, w) = true
    case neg =>
      rw [if_neg (by simp [c6])] at hret
      have hq := hret _ rfl (by decide)
      have c6' : okV 4194304 (u, v, w) = false := by simpa using c6
      simp only [lb41_0, loopN, loops, hd, p1, hd41_0, Try.f41, G, go_sem, Nat.reduceAdd, Nat.reduceSub, Nat.reduceMul, Nat.reduceEqDiff, Nat.reduceBEq, Nat.reduceLT, Nat.reduceLeDiff, Nat.reducePow, Int.reduceToNat, Int.reduceLT, Int.reduceLE, Int.reduceGT, Int.reduceGE, Int.reduceEq, Int.reduceNeg, Int.reduceAdd, Int.reduceSub, ↓reduceIte, reduceCtorEq, hlt, hx, hxi, thD, bD, vD, g0, ht, hle, hle', c1, c2, hcf, hseen, c4, c5, r1, c6', hw1]
      exact hq _
    by_cases c7 : okV 4194304 (u', v', w') = true
    case neg =>
      rw [if_neg (by simp [c7])] at hret
      have hq := hret _ rfl (by decide)
      have c7' : okV 4194304 (u', v', w') = false := by simpa using c7
      simp only [lb41_0, loopN, loops, hd, p1, hd41_0, Try.f41, G, go_sem, Nat.reduceAdd, Nat.reduceSub, Nat.reduceMul, Nat.reduceEqDiff, Nat.reduceBEq, Nat.reduceLT, Nat.reduceLeDiff, Nat.reducePow, Int.reduceToNat, Int.reduceLT, Int.reduceLE, Int.reduceGT, Int.reduceGE, Int.reduceEq, Int.reduceNeg, Int.reduceAdd, Int.reduceSub, ↓reduceIte, reduceCtorEq, hlt, hx, hxi, thD, bD, vD, g0, ht, hle, hle', c1, c2, hcf, hseen, c4, c5, r1, c6, r2, c7', hw1]
      exact hq _
    rw [if_pos ⟨c6, c7⟩] at hgo
    have hq := hgo rfl
    simp only [lb41_0, loopN, loops, hd, p1, hd41_0, Try.f41, G, go_sem, Nat.reduceAdd, Nat.reduceSub, Nat.reduceMul, Nat.reduceEqDiff, Nat.reduceBEq, Nat.reduceLT, Nat.reduceLeDiff, Nat.reducePow, Int.reduceToNat, Int.reduceLT, Int.reduceLE, Int.reduceGT, Int.reduceGE, Int.reduceEq, Int.reduceNeg, Int.reduceAdd, Int.reduceSub, ↓reduceIte, reduceCtorEq, hlt, hx, hxi, thD, bD, vD, g0, ht, hle, hle', c1, c2, hcf, hseen, c4, c5, r1, c6, r2, c7, hw1]
    exact hq _ _ (by simp only [go_sem, Nat.reduceAdd, Nat.reduceSub, Nat.reduceMul, Nat.reduceEqDiff, Nat.reduceBEq, Nat.reduceLT, Nat.reduceLeDiff, Nat.reducePow, Int.reduceToNat, Int.reduceLT, Int.reduceLE, Int.reduceGT, Int.reduceGE, Int.reduceEq, Int.reduceNeg, Int.reduceAdd, Int.reduceSub, ↓reduceIte, reduceCtorEq, q1]) (by simp only [hd, p1, hd41_0, go_sem, Nat.reduceAdd, Nat.reduceSub, Nat.reduceMul, Nat.reduceEqDiff, Nat.reduceBEq, Nat.reduceLT, Nat.reduceLeDiff, Nat.reducePow, Int.reduceToNat, Int.reduceLT, Int.reduceLE, Int.reduceGT, Int.reduceGE, Int.reduceEq, Int.reduceNeg, Int.reduceAdd, Int.reduceSub, ↓reduceIte, reduceCtorEq, hw1])
/-! ### as a whole -/
theorem th_mem {s : Sky} {x : Star} (h : Thing.st x ∈ things s) : x ∈ s.stars := by
  simp only [things, List.mem_append, List.mem_map, Thing.st.injEq, exists_eq_right, reduceCtorEq, and_false, exists_false, or_false] at h
  exact h
theorem sThings_run (s : Sky) (h : small s) : sThings.run [s.D] = some [.sl 114 ((things s).map thD)] := specC_run (cOne cSky) _ _ s h
theorem eFault (s : Sky) (hs : okSky s) : evTop Try.prog G T 41 3 41 [s.D] = some [.int .i64 (fault s)] := by
  have hlen := things_len s
  have hw : ∀ x, .st x ∈ things s → x.wave.length ≤ 1048576 := fun x hx => hs.2 x (th_mem hx)
  have hth := sThings_run s hs.1
  have hloop := fun h => loop 41 s (things s) h (by omega) hw
  unfold fault
  rw [← hlen]
  generalize things s = l at *
  obtain ⟨bk, stars, gals, bods, ⟨hid, ⟨a, b, c⟩, ⟨u, v, w⟩, hr⟩⟩ := s
  have hS : Sky.D ⟨bk, stars, gals, bods, ⟨hid, ⟨a, b, c⟩, ⟨u, v, w⟩, hr⟩⟩ = .agg 47 [.int .i64 bk, .sl 79 (stars.map Star.D), .sl 76 (gals.map Gal.D), .sl 39 (bods.map bD), .agg 39 [.int .i64 hid, .agg 23 [.int .i64 a, .int .i64 b, .int .i64 c], .agg 23 [.int .i64 u, .int .i64 v, .int .i64 w], .int .i64 hr]] := rfl
  have hB : box ⟨bk, stars, gals, bods, ⟨hid, ⟨a, b, c⟩, ⟨u, v, w⟩, hr⟩⟩ = ⟨1, 47, [.d (Sky.D ⟨bk, stars, gals, bods, ⟨hid, ⟨a, b, c⟩, ⟨u, v, w⟩, hr⟩⟩)], true⟩ := rfl
  rw [hS] at hth hB ⊢
  have r1 := sIn_run a b c 4194304 (by decide) (by decide)
  have r2 := sIn_run u v w 4194304 (by decide) (by decide)
  unfold evTop
  simp only [List.map]
  rw [evF_s (fn := Try.f41) (msk := en41.ms) (hT := by rfl) (hb := by rfl)]
  by_cases c1 : l.length > 40
  · have c1' : (l.length : Int) > 40 := by omega
    rw [if_pos c1]
    simp only [Try.f41, G, go_sem, Nat.reduceAdd, Nat.reduceSub, Nat.reduceMul, Nat.reduceEqDiff, Nat.reduceBEq, Nat.reduceLT, Nat.reduceLeDiff, Nat.reducePow, Int.reduceToNat, Int.reduceLT, Int.reduceLE, Int.reduceGT, Int.reduceGE, Int.reduceEq, Int.reduceNeg, Int.reduceAdd, Int.reduceSub, ↓reduceIte, reduceCtorEq, hth, c1']
  have c1' : ¬ (l.length : Int) > 40 := by omega
  rw [if_neg c1]
  by_cases c2 : bk < 0
  · rw [if_pos (.inl c2)]
    simp only [Try.f41, G, go_sem, Nat.reduceAdd, Nat.reduceSub, Nat.reduceMul, Nat.reduceEqDiff, Nat.reduceBEq, Nat.reduceLT, Nat.reduceLeDiff, Nat.reducePow, Int.reduceToNat, Int.reduceLT, Int.reduceLE, Int.reduceGT, Int.reduceGE, Int.reduceEq, Int.reduceNeg, Int.reduceAdd, Int.reduceSub, ↓reduceIte, reduceCtorEq, hth, c1', c2]
  by_cases c3 : bk > 1048576
  · rw [if_pos (.inr c3)]
    simp only [Try.f41, G, go_sem, Nat.reduceAdd, Nat.reduceSub, Nat.reduceMul, Nat.reduceEqDiff, Nat.reduceBEq, Nat.reduceLT, Nat.reduceLeDiff, Nat.reducePow, Int.reduceToNat, Int.reduceLT, Int.reduceLE, Int.reduceGT, Int.reduceGE, Int.reduceEq, Int.reduceNeg, Int.reduceAdd, Int.reduceSub, ↓reduceIte, reduceCtorEq, hth, c1', c2, c3]
  rw [if_neg (by omega)]
  simp only [Try.f41, G, go_sem, Nat.reduceAdd, Nat.reduceSub, Nat.reduceMul, Nat.reduceEqDiff, Nat.reduceBEq, Nat.reduceLT, Nat.reduceLeDiff, Nat.reducePow, Int.reduceToNat, Int.reduceLT, Int.reduceLE, Int.reduceGT, Int.reduceGE, Int.reduceEq, Int.reduceNeg, Int.reduceAdd, Int.reduceSub, ↓reduceIte, reduceCtorEq, hth, c1', c2, c3]
  refine loop_then (R := Q ⟨bk, stars, gals, bods, ⟨hid, ⟨a, b, c⟩, ⟨u, v, w⟩, hr⟩⟩ l (0, _)) (hloop (by omega) _ (0, _) _ ⟨by simp only; omega, by simp only [go_sem, Nat.reduceAdd, Nat.reduceSub, Nat.reduceMul, Nat.reduceEqDiff, Nat.reduceBEq, Nat.reduceLT, Nat.reduceLeDiff, Nat.reducePow, Int.reduceToNat, Int.reduceLT, Int.reduceLE, Int.reduceGT, Int.reduceGE, Int.reduceEq, Int.reduceNeg, Int.reduceAdd, Int.reduceSub, ↓reduceIte, reduceCtorEq, hB], rfl⟩ (by simp only; omega) (by simp only [hd, p1, hd41_0, go_sem, Nat.reduceAdd, Nat.reduceSub, Nat.reduceMul, Nat.reduceEqDiff, Nat.reduceBEq, Nat.reduceLT, Nat.reduceLeDiff, Nat.reducePow, Int.reduceToNat, Int.reduceLT, Int.reduceLE, Int.reduceGT, Int.reduceGE, Int.reduceEq, Int.reduceNeg, Int.reduceAdd, Int.reduceSub, ↓reduceIte, reduceCtorEq])) ?_
  rintro o ⟨st', ho⟩
  by_cases c4 : faults [] l = 0
  case neg =>
    rw [if_neg c4] at ho
    rw [ho, if_neg c4]
    simp only [hr41, go_sem, Nat.reduceAdd, Nat.reduceSub, Nat.reduceMul, Nat.reduceEqDiff, Nat.reduceBEq, Nat.reduceLT, Nat.reduceLeDiff, Nat.reducePow, Int.reduceToNat, Int.reduceLT, Int.reduceLE, Int.reduceGT, Int.reduceGE, Int.reduceEq, Int.reduceNeg, Int.reduceAdd, Int.reduceSub, ↓reduceIte, reduceCtorEq]
  rw [if_pos c4] at ho
  obtain ⟨ho, q1⟩ := ho
  rw [ho, if_pos c4]
  rw [hB] at q1
  unfold bodF
  simp only
  by_cases c5 : hid = 0
  case neg =>
    rw [if_pos (.inl c5)]
    simp only [hx41_0, p1, Try.f41, G, go_sem, Nat.reduceAdd, Nat.reduceSub, Nat.reduceMul, Nat.reduceEqDiff, Nat.reduceBEq, Nat.reduceLT, Nat.reduceLeDiff, Nat.reducePow, Int.reduceToNat, Int.reduceLT, Int.reduceLE, Int.reduceGT, Int.reduceGE, Int.reduceEq, Int.reduceNeg, Int.reduceAdd, Int.reduceSub, ↓reduceIte, reduceCtorEq, q1, decide_eq_false c5]
  by_cases c6 : hr = 0
  case neg =>
    rw [if_pos (.inr c6)]
    simp only [hx41_0, p1, Try.f41, G, go_sem, Nat.reduceAdd, Nat.reduceSub, Nat.reduceMul, Nat.reduceEqDiff, Nat.reduceBEq, Nat.reduceLT, Nat.reduceLeDiff, Nat.reducePow, Int.reduceToNat, Int.reduceLT, Int.reduceLE, Int.reduceGT, Int.reduceGE, Int.reduceEq, Int.reduceNeg, Int.reduceAdd, Int.reduceSub, ↓reduceIte, reduceCtorEq, q1, decide_eq_true c5, decide_eq_false c6]
  rw [if_neg (by simp [c5, c6])]
  by_cases c7 : okV 4194304 (a, b, c) = true
  case neg =>
    rw [if_neg (by simp [c7])]
    have c7' : okV 4194304 (a, b, c) = false := by simpa using c7
    simp only [hx41_0, p1, Try.f41, G, go_sem, Nat.reduceAdd, Nat.reduceSub, Nat.reduceMul, Nat.reduceEqDiff, Nat.reduceBEq, Nat.reduceLT, Nat.reduceLeDiff, Nat.reducePow, Int.reduceToNat, Int.reduceLT, Int.reduceLE, Int.reduceGT, Int.reduceGE, Int.reduceEq, Int.reduceNeg, Int.reduceAdd, Int.reduceSub, ↓reduceIte, reduceCtorEq, q1, decide_eq_true c5, decide_eq_true c6, r1, c7']
  by_cases c8 : okV 4194304 (u, v, w) = true
  case neg =>
    rw [if_neg (by simp [c8])]
    have c8' : okV 4194304 (u, v, w) = false := by simpa using c8
    simp only [hx41_0, p1, Try.f41, G, go_sem, Nat.reduceAdd, Nat.reduceSub, Nat.reduceMul, Nat.reduceEqDiff, Nat.reduceBEq, Nat.reduceLT, Nat.reduceLeDiff, Nat.reducePow, Int.reduceToNat, Int.reduceLT, Int.reduceLE, Int.reduceGT, Int.reduceGE, Int.reduceEq, Int.reduceNeg, Int.reduceAdd, Int.reduceSub, ↓reduceIte, reduceCtorEq, q1, decide_eq_true c5, decide_eq_true c6, r1, c7, r2, c8']
  rw [if_pos ⟨c7, c8⟩]
  simp only [hx41_0, p1, Try.f41, G, go_sem, Nat.reduceAdd, Nat.reduceSub, Nat.reduceMul, Nat.reduceEqDiff, Nat.reduceBEq, Nat.reduceLT, Nat.reduceLeDiff, Nat.reducePow, Int.reduceToNat, Int.reduceLT, Int.reduceLE, Int.reduceGT, Int.reduceGE, Int.reduceEq, Int.reduceNeg, Int.reduceAdd, Int.reduceSub, ↓reduceIte, reduceCtorEq, q1, decide_eq_true c5, decide_eq_true c6, r1, c7, r2, c8]
theorem skyFault_ok : SpecOk Try.prog 41 sFault := specC_ok mixed G_ok T_ok fun s h => ⟨_, 3, eFault s h⟩
#print axioms skyFault_ok
end Go.Proofs.YtmhjmjodchbhlaaR.SkyFRate
end
section
set_option linter.unusedVariables false
set_option linter.unusedSimpArgs false
set_option maxRecDepth 100000
namespace Go.Proofs.YtmhjmjodchbhlaaR.SkyCRate
open Go.Ev Go.Ari Go.Proofs.YtmhjmjodchbhlaaR.FxRate Go.Proofs.YtmhjmjodchbhlaaR.PullPull Go.Proofs.YtmhjmjodchbhlaaR.TypesRate Go.Proofs.YtmhjmjodchbhlaaR.FaultRate Go.Proofs.YtmhjmjodchbhlaaR.OwnRate
open Go.Proofs.YtmhjmjodchbhlaaR.PathPath (Bod bD cBod sMov sMov_run mov_ok)
open Go.Proofs.YtmhjmjodchbhlaaR.ThingsRate (small loop_then th_st th_ga th_bo)
open Go.Proofs.YtmhjmjodchbhlaaR.StarRate (sStar sStar_run okStar star_ok)
open Go.Proofs.YtmhjmjodchbhlaaR.SkyFRate (okSky sFault box p1 headF_1 headF_2 headF_3 headF_0 one_h one_o)
attribute [local go_sem] Ev.putR_s Ev.putR_0 Ev.thenO_s Ev.thenO_0 Ev.seqR_n Ev.seqR_e Ev.seqR_r Ev.seqR_0 Ev.blkR_e Ev.blkR_n Ev.blkR_r Ev.blkR_0 Ev.normR_s Ev.normR_0 Ev.outR_r Ev.outR_n Ev.outR_0 Ev.retS_s Ev.retS_0 Ev.pureO_s Ev.pureO_0 Ev.topR_0 Ev.topR_t Ev.topR_t0 Ev.oneL_0 Ev.oneL_s Ev.topR_d Ev.topR_nils Ev.topR_agg Ev.topR_rs Ev.evOp_move Ev.evOp_assign Ev.evOp_pick Ev.evOp_alloc Ev.evOp_box Ev.evOp_build Ev.evOp_buildSlice Ev.evOp_load Ev.evOp_store Ev.evOp_makeMap Ev.evOp_lookup Ev.evOp_mapUpdate Ev.evOp_insert Ev.evOp_nilCheck Ev.evOp_binOp Ev.evOp_unOp Ev.evOp_convert Ev.evOp_makeFunc Ev.evOp_makeSlice Ev.evOp_slice Ev.evOp_fieldAddr Ev.evOp_field Ev.evOp_indexAddr Ev.evOp_index Ev.evOp_extract Ev.evOp_call Ev.evOp_append Ev.evOp_len Ev.evOp_min Ev.evOp_max Ev.condR_b Ev.condR_t Ev.evOps_nil Ev.evOps_plain Ev.evOps_guard Ev.runG_eq Ev.skipG_eq Ev.condL_tt Ev.condL_ff Ev.condL_tf Ev.condL_ft Ev.condL_u Ev.condC_t Ev.condC_f Ev.evC_skip Ev.evC_ret Ev.evC_exit Ev.evC_label Ev.evC_region Ev.evC_draw Ev.evC_seq Ev.evC_cond Ev.evC_block Ev.evC_loop Ev.fin_d Ev.fin_nils Ev.fin_agg_ Ev.fin_rs Ev.finS_s Ev.mapO_fin Ev.upd_upd Ev.argv_d Ev.argv_nils Ev.argv_agg Ev.argv_rs Ev.argv_p Ev.appendTo_nils Ev.appendTo_rs Ev.consV_d Ev.consV_agg Ev.consV_p Ev.consV_rs Ev.consV_nils Ev.consV_fn Ev.consV_und Ev.consV_jk Ev.consV_grown Ev.topR_grown Ev.len_grown Ev.consV_mp Ev.sameK_i Ev.sameK_s Ev.mget_0 Ev.mget_hit Ev.mget_miss Ev.mput_0 Ev.mput_hit Ev.mput_miss Ev.apartAll Ev.apartL Ev.apartV Ev.freeAll Ev.sel Ev.keyOfV Ev.evLookup Ev.evPut Ev.hintOk Ev.keyOk Ev.consP Ev.lookV Ev.guardV Ev.dstAt Ev.evPure Ev.evStore Ev.evPureB Ev.evBin Ev.evBinO Ev.evNil Ev.isNilC Ev.evUn Ev.evConv Ev.evSlice Ev.optI Ev.lenV Ev.elemT Ev.foldI Ev.capsOk Ev.noTup Ev.nth Ev.setN Ev.pad Ev.V.get Ev.V.put Ev.putD Ev.hasT Ev.newBlk Ev.upd Ev.keq Ev.empty Ev.evCall Ev.V.args Ev.argP Ev.callOf Ev.evNilP Ev.isNilP Ev.look Ev.V.view.views Ev.V.view Ev.V.toD Ev.V.toD.V.toDs Ev.V.pure.pures Ev.V.pure Ev.D.flat.flats Ev.D.flat Ev.mkAgg Ev.allD Ev.aggParts Ev.setParts Ev.setElems Ev.getPath Ev.setPath Ev.subL Ev.eqD Ev.eqD.eqDs Ev.and2 Ev.strCut Ev.evalT Ev.constT Ev.evArgs Ev.mask Ev.maskOf Ev.tableOf Ev.compT Ev.resV Ev.retV Ev.mapO Ev.elemsOf Int.cast_ofNat_Int IntWalk.i64_in IntWalk.u64_in IntWalk.u8_in beq_self_eq_true Bool.true_beq Bool.false_beq Bool.and_true Bool.true_and Bool.false_and Bool.and_false Bool.and_self Bool.not_true Bool.not_false Bool.not_eq_true cond_true cond_false if_true if_false and_true true_and and_self decide_true decide_false Bool.or_true Bool.true_or Bool.or_false Bool.false_or List.isEmpty List.isEmpty_nil List.size_toArray List.map List.length_map List.length_cons List.length_nil Option.map Option.bind Option.getD Option.isSome List.replicate Bool.false_eq_true implies_true forall_const Array.toList Array.isEmpty List.append List.nil_append List.cons_append List.drop_zero List.take_length List.take_succ_cons List.take_zero List.take_nil List.getElem?_map List.getElem?_cons_zero List.getElem?_cons_succ List.getElem?_nil List.append_nil
attribute [local go_sem] FxRate.tk2 FxRate.ik2 FxRate.ek2 FxRate.zv2 FxRate.tk3 FxRate.ik3 FxRate.ek3 FxRate.zv3 FxRate.by3 FxRate.so3 FxRate.tk4 FxRate.ub4 FxRate.zv4 FxRate.tk23 FxRate.ct23 FxRate.ek23 FxRate.zv23 FxRate.tk27 FxRate.ik27 FxRate.zv27 FxRate.tk37 FxRate.ik37 FxRate.zv37 FxRate.by37 FxRate.so37 FxRate.tk39 FxRate.ct39 FxRate.zv39 FxRate.by39 FxRate.so39 FxRate.tk43 FxRate.zv43 FxRate.tk44 FxRate.zv44 FxRate.tk45 FxRate.zv45 FxRate.tk47 FxRate.ct47 FxRate.zv47 FxRate.tk48 FxRate.ik48 FxRate.zv48 FxRate.by48 FxRate.so48 FxRate.tk74 FxRate.zv74 FxRate.tk76 FxRate.ct76 FxRate.zv76 FxRate.by76 FxRate.so76 FxRate.tk77 FxRate.zv77 FxRate.tk79 FxRate.ct79 FxRate.zv79 FxRate.by79 FxRate.so79 FxRate.tk108 FxRate.zv108 FxRate.tk110 FxRate.ek110 FxRate.zv110 FxRate.tk111 FxRate.ek111 FxRate.zv111 FxRate.tk112 FxRate.zv112 FxRate.tk114 FxRate.ct114 FxRate.zv114 FxRate.by114 FxRate.so114 FxRate.tk136 FxRate.mt136 FxRate.sm136 FxRate.zw4 FxRate.zv136 FxRate.tk141 FxRate.zv141 FxRate.tk145 FxRate.zv145 FxRate.tk161 FxRate.ct161 FxRate.zv161 FxRate.tk182 FxRate.zv182 FxRate.mk7_1000000 FxRate.mk24_0 FxRate.mk24_2 FxRate.mk24_4 FxRate.mk24_1000001 FxRate.mk24_1000002 FxRate.mk24_1000003 FxRate.mk24_1000004 FxRate.mk24_1000005 FxRate.mk24_1000006 FxRate.mk24_1000000 FxRate.dw25_19 FxRate.nc25_19 FxRate.mk25_0 FxRate.mk25_2 FxRate.mk25_1000001 FxRate.mk25_1000002 FxRate.mk25_1000003 FxRate.mk25_1000004 FxRate.mk25_1000000 FxRate.mk40_0 FxRate.mk40_2 FxRate.mk40_4 FxRate.mk40_1000001 FxRate.mk40_1000002 FxRate.mk40_1000003 FxRate.mk40_1000004 FxRate.mk40_1000005 FxRate.mk40_1000006 FxRate.mk40_1000007 FxRate.mk40_1000000 FxRate.mk41_0 FxRate.mk41_1000001 FxRate.mk41_1000002 FxRate.mk41_1000003 FxRate.mk41_1000004 FxRate.mk41_1000000 FxRate.mk66_1000000 FxRate.dw67_9 FxRate.nc67_9 FxRate.mk67_1000000 FxRate.dw68_5 FxRate.nc68_5 FxRate.dw68_10 FxRate.nc68_10 FxRate.dw68_15 FxRate.nc68_15 FxRate.mk68_0 FxRate.mk68_2 FxRate.mk68_4 FxRate.mk68_1000001 FxRate.mk68_1000002 FxRate.mk68_1000003 FxRate.mk68_1000004 FxRate.mk68_1000005 FxRate.mk68_1000006 FxRate.mk68_1000000 FxRate.mk87_1000001 FxRate.mk87_1000000 FxRate.mk88_1000001 FxRate.mk88_1000000 FxRate.mk89_0 FxRate.mk89_1000001 FxRate.mk89_1000002 FxRate.mk89_1000000 FxRate.mk90_1000000 FxRate.mk91_1000000 FxRate.dw92_10 FxRate.nc92_10 FxRate.mk92_0 FxRate.mk92_2 FxRate.mk92_1000001 FxRate.mk92_1000002 FxRate.mk92_1000003 FxRate.mk92_1000004 FxRate.mk92_1000000 FxRate.mk93_1000001 FxRate.mk93_1000000 FxRate.mk94_1000000 FxRate.mk95_1000000 FxRate.mk128_1000000 FxRate.mk129_0 FxRate.mk129_1000001 FxRate.mk129_1000002 FxRate.mk129_1000000 FxRate.mk130_1000000 FxRate.mk131_0 FxRate.mk131_1000001 FxRate.mk131_1000002 FxRate.mk131_1000000 FxRate.mk150_0 FxRate.mk150_1000001 FxRate.mk150_1000002 FxRate.mk150_1000000
noncomputable def G : Specs := [(88, sStar), (89, sGal), (64, sMov)]
noncomputable def T : Table := tableOf [(40, en40), (87, en87)]
theorem G_ok : ∀ g s, Ev.look G g = some s → SpecOk Try.prog g s := specs_cons star_ok (specs_cons gal_ok (specs_cons mov_ok specs_nil))
theorem T_ok : TableOk Try.prog (G.map (·.1)) T := (table_cons Try.func40 (by kernel_rfl) (by kernel_rfl) (table_cons Try.func87 (by kernel_rfl) (by kernel_rfl) table_nil))
/-! ### head and the map of what was seen -/
def mpk : V := .mp (0, 31) 1
def Has (m : List V) (ids : List Int) : Prop := keysI .i64 m ∧ ∀ j, mget m (.int .i64 j) = some (if j ∈ ids then some (.d (.bool true)) else none)
theorem Has_put {m : List V} {ids : List Int} (h : Has m ids) (id : Int) : ∃ m', mput m (.int .i64 id) (.d (.bool true)) = some m' ∧ Has m' (ids ++ [id]) := by
  obtain ⟨hk, hg⟩ := h
  obtain ⟨m', hp, hk', hget⟩ := keysI_put (n := id) (v := .d (.bool true)) hk
  refine ⟨m', hp, hk', fun j => ?_⟩
  rw [hget, hg]
  by_cases hj : j = id
  · simp [hj]
  · simp [hj]
theorem head_bad (L lv : Nat) (st : Store) (m : List V) (ids : List Int) (id rate : Int) (h : Has m ids) (hst : st (0, 31) = ⟨1, mapE 136, m, true⟩) (hf : ¬ headF ids id rate = 0) :
    evF Try.prog G T L 1 87 [.d (.int .i64 id), .d (.int .i64 rate), .mp (0, 31) 1] lv st = some (.d (.int .i64 (headF ids id rate)), st) := by
  obtain ⟨hk, hg⟩ := h
  have hm := hg id
  rw [evF_s (fn := Try.f87) (msk := en87.ms) (hT := by rfl) (hb := by rfl)]
  by_cases c1 : id < 1
  · rw [headF_1 (.inl c1)]
    simp only [Try.f87, G, go_sem, Nat.reduceAdd, Nat.reduceSub, Nat.reduceMul, Nat.reduceEqDiff, Nat.reduceBEq, Nat.reduceLT, Nat.reduceLeDiff, Nat.reducePow, Int.reduceToNat, Int.reduceLT, Int.reduceLE, Int.reduceGT, Int.reduceGE, Int.reduceEq, Int.reduceNeg, Int.reduceAdd, Int.reduceSub, ↓reduceIte, reduceCtorEq, c1]
  by_cases c2 : id > 1073741824
  · rw [headF_1 (.inr c2)]
    simp only [Try.f87, G, go_sem, Nat.reduceAdd, Nat.reduceSub, Nat.reduceMul, Nat.reduceEqDiff, Nat.reduceBEq, Nat.reduceLT, Nat.reduceLeDiff, Nat.reducePow, Int.reduceToNat, Int.reduceLT, Int.reduceLE, Int.reduceGT, Int.reduceGE, Int.reduceEq, Int.reduceNeg, Int.reduceAdd, Int.reduceSub, ↓reduceIte, reduceCtorEq, c1, c2]
  by_cases c3 : id ∈ ids
  · rw [if_pos c3] at hm
    rw [headF_2 (by omega) c3]
    simp only [Try.f87, G, go_sem, Nat.reduceAdd, Nat.reduceSub, Nat.reduceMul, Nat.reduceEqDiff, Nat.reduceBEq, Nat.reduceLT, Nat.reduceLeDiff, Nat.reducePow, Int.reduceToNat, Int.reduceLT, Int.reduceLE, Int.reduceGT, Int.reduceGE, Int.reduceEq, Int.reduceNeg, Int.reduceAdd, Int.reduceSub, ↓reduceIte, reduceCtorEq, c1, c2, hst, hm]
  rw [if_neg c3] at hm
  by_cases c4 : rate < 0
  · rw [headF_3 (by omega) c3 (.inl c4)]
    simp only [Try.f87, G, go_sem, Nat.reduceAdd, Nat.reduceSub, Nat.reduceMul, Nat.reduceEqDiff, Nat.reduceBEq, Nat.reduceLT, Nat.reduceLeDiff, Nat.reducePow, Int.reduceToNat, Int.reduceLT, Int.reduceLE, Int.reduceGT, Int.reduceGE, Int.reduceEq, Int.reduceNeg, Int.reduceAdd, Int.reduceSub, ↓reduceIte, reduceCtorEq, c1, c2, hst, hm, c4]
  by_cases c5 : rate > 1048576
  · rw [headF_3 (by omega) c3 (.inr c5)]
    simp only [Try.f87, G, go_sem, Nat.reduceAdd, Nat.reduceSub, Nat.reduceMul, Nat.reduceEqDiff, Nat.reduceBEq, Nat.reduceLT, Nat.reduceLeDiff, Nat.reducePow, Int.reduceToNat, Int.reduceLT, Int.reduceLE, Int.reduceGT, Int.reduceGE, Int.reduceEq, Int.reduceNeg, Int.reduceAdd, Int.reduceSub, ↓reduceIte, reduceCtorEq, c1, c2, hst, hm, c4, c5]
  exact absurd (headF_0 (by omega) c3 (by omega)) hf
theorem head_good (L lv : Nat) (st : Store) (m m' : List V) (ids : List Int) (id rate : Int) (h : Has m ids) (hp : mput m (.int .i64 id) (.d (.bool true)) = some m') (hst : st (0, 31) = ⟨1, mapE 136, m, true⟩) (hf : headF ids id rate = 0) :
    evF Try.prog G T L 1 87 [.d (.int .i64 id), .d (.int .i64 rate), .mp (0, 31) 1] lv st = some (.d (.int .i64 0), upd st (0, 31) ⟨1, mapE 136, m', true⟩) := by
  obtain ⟨hk, hg⟩ := h
  have hm := hg id
  rw [evF_s (fn := Try.f87) (msk := en87.ms) (hT := by rfl) (hb := by rfl)]
  by_cases c1 : id < 1
  · rw [headF_1 (.inl c1)] at hf; cases hf
  by_cases c2 : id > 1073741824
  · rw [headF_1 (.inr c2)] at hf; cases hf
  by_cases c3 : id ∈ ids
  · rw [headF_2 (by omega) c3] at hf; cases hf
  rw [if_neg c3] at hm
  by_cases c4 : rate < 0
  · rw [headF_3 (by omega) c3 (.inl c4)] at hf; cases hf
  by_cases c5 : rate > 1048576
  · rw [headF_3 (by omega) c3 (.inr c5)] at hf; cases hf
  simp only [Try.f87, G, go_sem, Nat.reduceAdd, Nat.reduceSub, Nat.reduceMul, Nat.reduceEqDiff, Nat.reduceBEq, Nat.reduceLT, Nat.reduceLeDiff, Nat.reducePow, Int.reduceToNat, Int.reduceLT, Int.reduceLE, Int.reduceGT, Int.reduceGE, Int.reduceEq, Int.reduceNeg, Int.reduceAdd, Int.reduceSub, ↓reduceIte, reduceCtorEq, c1, c2, hst, hm, c4, c5, hp]
theorem rate_of {seen : List Int} {id rate : Int} (h : headF seen id rate = 0) : 0 ≤ rate ∧ rate ≤ 1048576 := by
  unfold headF at h
  split at h
  · cases h
  · split at h
    · cases h
    · split at h
      · cases h
      · omega
theorem take_ids {l : List Thing} {n : Nat} {x : Thing} (h : l[n]? = some x) : (l.take (n + 1)).map Thing.id = (l.take n).map Thing.id ++ [x.id] := by
  rw [List.take_add_one, h]; simp
theorem take_at {l : List Thing} {n : Nat} {x : Thing} (h : l[n]? = some x) (hf : faults [] (l.take n) = 0) : (one ((l.take n).map Thing.id) x = 0 → faults [] (l.take (n + 1)) = 0) ∧ (¬ one ((l.take n).map Thing.id) x = 0 → faults [] l = one ((l.take n).map Thing.id) x) := by
  obtain ⟨h1, h2⟩ := List.getElem?_eq_some_iff.1 h
  have := faults_take h1 hf
  rw [h2] at this
  exact this
/-- The store of the loops, when n objects are behind. -/
def Ok (s : Sky) (n : Nat) (st : Store) : Prop := st (0, 1) = box s ∧ faults [] ((things s).take n) = 0 ∧ ∃ m, st (0, 31) = ⟨1, mapE 136, m, true⟩ ∧ Has m (((things s).take n).map Thing.id)
/-! ### stars -/
def h0 (s : Sky) (i : Nat) : List V := hd40_0 p1 mpk (.d (.sl 79 (s.stars.map Star.D))) (.d (.int .i64 s.stars.length)) (.d (.int .i64 i))
def J0 (s : Sky) (x : Nat × Store) : Prop := x.1 ≤ s.stars.length ∧ Ok s (x.1) x.2
def Q0 (s : Sky) (x : Nat × Store) (o : Out) : Prop := ∃ st', (o = some (.exit 0, hx40_0 p1 mpk, st') ∧ Ok s (s.stars.length) st') ∨ (o = some (.ret, hr40 (.d (.int .i64 (faults [] (things s)))), st') ∧ ¬ faults [] (things s) = 0)
theorem loop0 (L : Nat) (s : Sky) (hs : okSky s) :
    ∀ (m : Nat) (x : Nat × Store) (env : List V), J0 s x → s.stars.length - x.1 < m → mask (maskOf en40.ms 0) env = h0 s x.1 →
      Q0 s x (iter (evC Try.prog G (evF Try.prog G T L 1) L en40.ms 0 0 lb40_0) (maskOf en40.ms 0) m env x.2) := by
  refine iter_rel _ _ (J0 s) (fun x => h0 s x.1) (fun x => x.2) (Q0 s) (fun x => s.stars.length - x.1) ?_
  rintro ⟨i, st⟩ ⟨hi, hok⟩ k hk
  simp only at hi hok
  by_cases hin : i < s.stars.length
  case neg =>
    obtain rfl : i = s.stars.length := by omega
    have hlt : ¬ (s.stars.length : Int) < s.stars.length := by omega
    refine ⟨st, .inl ⟨?_, hok⟩⟩
    simp only [lb40_0, loopN, loops, h0, p1, mpk, hd40_0, hx40_0, Try.f40, go_sem, Nat.reduceAdd, Nat.reduceSub, Nat.reduceMul, Nat.reduceEqDiff, Nat.reduceBEq, Nat.reduceLT, Nat.reduceLeDiff, Nat.reducePow, Int.reduceToNat, Int.reduceLT, Int.reduceLE, Int.reduceGT, Int.reduceGE, Int.reduceEq, Int.reduceNeg, Int.reduceAdd, Int.reduceSub, ↓reduceIte, reduceCtorEq, hlt]
  obtain ⟨q1, qf, m, q31, hm⟩ := hok
  have hlt : (i : Int) < s.stars.length := by omega
  obtain ⟨hs1, hs2⟩ := hs
  obtain ⟨hs1, hs3, hs4⟩ := hs1
  have hx : s.stars[i]? = some s.stars[i] := by simp [hin]
  have hmem : s.stars[i] ∈ s.stars := List.getElem_mem _
  have hth := th_st hin
  have g0 : (0 : Int) ≤ (i : Int) := by omega
  have ht : ((i : Int)).toNat = i := by omega
  have hw1 : IntKind.i64.wrap ((i : Int) + 1) = ((i + 1 : Nat) : Int) := by rw [IntWalk.i64_in _ (by omega)]; rfl
  obtain ⟨ht0, ht1⟩ := take_at hth qf
  have hids := take_ids hth
  generalize s.stars[i] = x at *
  have hret : ∀ e : Int, one (((things s).take (i)).map Thing.id) (.st x) = e → ¬ e = 0 → ∀ st1, Q0 s (i, st) (some (.ret, hr40 (.d (.int .i64 e)), st1)) := fun e h1 h2 st1 => by
    have h3 := ht1 (by rw [h1]; exact h2)
    rw [h1] at h3
    exact ⟨st1, .inr ⟨by rw [h3], by rw [h3]; exact h2⟩⟩
  have hgo : one (((things s).take (i)).map Thing.id) (.st x) = 0 → ∀ st1 env m', st1 (0, 1) = box s → st1 (0, 31) = ⟨1, mapE 136, m', true⟩ → Has m' (((things s).take (i)).map Thing.id ++ [Thing.id (.st x)]) → mask (maskOf en40.ms 0) env = h0 s (i + 1) → Q0 s (i, st) (k env st1) := fun h1 st1 env m' h2 h3 h5 h4 =>
    (hk (i + 1, st1) env ⟨by simp only; omega, h2, ht0 h1, m', h3, (hids ▸ h5 : Has m' (((things s).take (i + 1)).map Thing.id))⟩ (by simp only; omega) h4 : Q0 s (i + 1, st1) _)
  obtain ⟨m', hp, hm'⟩ := Has_put hm (Thing.id (.st x))
  obtain ⟨id, ⟨u, v, w⟩, r, wv, p, f, t⟩ := x
  simp only [Thing.id] at hp hm'
  by_cases c1 : headF (((things s).take (i)).map Thing.id) id r = 0
  case neg =>
    have hq := hret _ (one_h rfl c1) c1
    have hh := fun lv st hst => head_bad L lv st m _ id r hm hst c1
    simp only [G] at hh
    simp only [Thing.id, Thing.rate] at hq
    generalize headF (((things s).take (i)).map Thing.id) id r = F at *
    simp only [lb40_0, loopN, loops, h0, p1, mpk, hd40_0, Try.f40, G, go_sem, Nat.reduceAdd, Nat.reduceSub, Nat.reduceMul, Nat.reduceEqDiff, Nat.reduceBEq, Nat.reduceLT, Nat.reduceLeDiff, Nat.reducePow, Int.reduceToNat, Int.reduceLT, Int.reduceLE, Int.reduceGT, Int.reduceGE, Int.reduceEq, Int.reduceNeg, Int.reduceAdd, Int.reduceSub, ↓reduceIte, reduceCtorEq, hlt, hx, g0, ht, q31, hw1, Star.D, vD, hh, c1]
    exact hq _
  have ho := one_o (x := .st ⟨id, ⟨u, v, w⟩, r, wv, p, f, t⟩) c1
  rw [ho] at hgo hret
  have hh := fun lv st hst => head_good L lv st m m' _ id r hm hp hst c1
  simp only [G] at hh
  have rs := sStar_run ⟨id, (u, v, w), r, wv, p, f, t⟩ ⟨rate_of c1, by have := hs2 _ hmem; simp only at this ⊢; omega⟩
  simp only [own] at hgo hret
  generalize starF ⟨id, (u, v, w), r, wv, p, f, t⟩ = F at *
  simp only [Star.D, vD] at rs
  by_cases c2 : F = 0
  · have hq := hgo c2
    simp only [lb40_0, loopN, loops, h0, p1, mpk, hd40_0, Try.f40, G, go_sem, Nat.reduceAdd, Nat.reduceSub, Nat.reduceMul, Nat.reduceEqDiff, Nat.reduceBEq, Nat.reduceLT, Nat.reduceLeDiff, Nat.reducePow, Int.reduceToNat, Int.reduceLT, Int.reduceLE, Int.reduceGT, Int.reduceGE, Int.reduceEq, Int.reduceNeg, Int.reduceAdd, Int.reduceSub, ↓reduceIte, reduceCtorEq, hlt, hx, g0, ht, q31, hw1, Star.D, vD, hh, rs, c2]
    exact hq _ _ m' (by simp only [go_sem, Nat.reduceAdd, Nat.reduceSub, Nat.reduceMul, Nat.reduceEqDiff, Nat.reduceBEq, Nat.reduceLT, Nat.reduceLeDiff, Nat.reducePow, Int.reduceToNat, Int.reduceLT, Int.reduceLE, Int.reduceGT, Int.reduceGE, Int.reduceEq, Int.reduceNeg, Int.reduceAdd, Int.reduceSub, ↓reduceIte, reduceCtorEq, q1]) (by simp only [go_sem, Nat.reduceAdd, Nat.reduceSub, Nat.reduceMul, Nat.reduceEqDiff, Nat.reduceBEq, Nat.reduceLT, Nat.reduceLeDiff, Nat.reducePow, Int.reduceToNat, Int.reduceLT, Int.reduceLE, Int.reduceGT, Int.reduceGE, Int.reduceEq, Int.reduceNeg, Int.reduceAdd, Int.reduceSub, ↓reduceIte, reduceCtorEq]) hm' (by simp only [h0, p1, mpk, hd40_0, Star.D, vD, go_sem, Nat.reduceAdd, Nat.reduceSub, Nat.reduceMul, Nat.reduceEqDiff, Nat.reduceBEq, Nat.reduceLT, Nat.reduceLeDiff, Nat.reducePow, Int.reduceToNat, Int.reduceLT, Int.reduceLE, Int.reduceGT, Int.reduceGE, Int.reduceEq, Int.reduceNeg, Int.reduceAdd, Int.reduceSub, ↓reduceIte, reduceCtorEq, hw1])
  · have hq := hret F rfl c2
    simp only [lb40_0, loopN, loops, h0, p1, mpk, hd40_0, Try.f40, G, go_sem, Nat.reduceAdd, Nat.reduceSub, Nat.reduceMul, Nat.reduceEqDiff, Nat.reduceBEq, Nat.reduceLT, Nat.reduceLeDiff, Nat.reducePow, Int.reduceToNat, Int.reduceLT, Int.reduceLE, Int.reduceGT, Int.reduceGE, Int.reduceEq, Int.reduceNeg, Int.reduceAdd, Int.reduceSub, ↓reduceIte, reduceCtorEq, hlt, hx, g0, ht, q31, hw1, Star.D, vD, hh, rs, c2]
    exact hq _
/-! ### gals -/
def h1 (s : Sky) (i : Nat) : List V := hd40_2 p1 mpk (.d (.sl 76 (s.gals.map Gal.D))) (.d (.int .i64 s.gals.length)) (.d (.int .i64 i))
def J1 (s : Sky) (x : Nat × Store) : Prop := x.1 ≤ s.gals.length ∧ Ok s (s.stars.length + x.1) x.2
def Q1 (s : Sky) (x : Nat × Store) (o : Out) : Prop := ∃ st', (o = some (.exit 2, hx40_2 p1 mpk, st') ∧ Ok s (s.stars.length + s.gals.length) st') ∨ (o = some (.ret, hr40 (.d (.int .i64 (faults [] (things s)))), st') ∧ ¬ faults [] (things s) = 0)
theorem loop1 (L : Nat) (s : Sky) (hs : okSky s) :
    ∀ (m : Nat) (x : Nat × Store) (env : List V), J1 s x → s.gals.length - x.1 < m → mask (maskOf en40.ms 2) env = h1 s x.1 →
      Q1 s x (iter (evC Try.prog G (evF Try.prog G T L 1) L en40.ms 0 2 lb40_2) (maskOf en40.ms 2) m env x.2) := by
  refine iter_rel _ _ (J1 s) (fun x => h1 s x.1) (fun x => x.2) (Q1 s) (fun x => s.gals.length - x.1) ?_
  rintro ⟨i, st⟩ ⟨hi, hok⟩ k hk
  simp only at hi hok
  by_cases hin : i < s.gals.length
  case neg =>
    obtain rfl : i = s.gals.length := by omega
    have hlt : ¬ (s.gals.length : Int) < s.gals.length := by omega
    refine ⟨st, .inl ⟨?_, hok⟩⟩
    simp only [lb40_2, loopN, loops, h1, p1, mpk, hd40_2, hx40_2, Try.f40, go_sem, Nat.reduceAdd, Nat.reduceSub, Nat.reduceMul, Nat.reduceEqDiff, Nat.reduceBEq, Nat.reduceLT, Nat.reduceLeDiff, Nat.reducePow, Int.reduceToNat, Int.reduceLT, Int.reduceLE, Int.reduceGT, Int.reduceGE, Int.reduceEq, Int.reduceNeg, Int.reduceAdd, Int.reduceSub, ↓reduceIte, reduceCtorEq, hlt]
  obtain ⟨q1, qf, m, q31, hm⟩ := hok
  have hlt : (i : Int) < s.gals.length := by omega
  obtain ⟨hs1, hs2⟩ := hs
  obtain ⟨hs1, hs3, hs4⟩ := hs1
  have hx : s.gals[i]? = some s.gals[i] := by simp [hin]
  have hmem : s.gals[i] ∈ s.gals := List.getElem_mem _
  have hth := th_ga hin
  have g0 : (0 : Int) ≤ (i : Int) := by omega
  have ht : ((i : Int)).toNat = i := by omega
  have hw1 : IntKind.i64.wrap ((i : Int) + 1) = ((i + 1 : Nat) : Int) := by rw [IntWalk.i64_in _ (by omega)]; rfl
  obtain ⟨ht0, ht1⟩ := take_at hth qf
  have hids := take_ids hth
  generalize s.gals[i] = x at *
  have hret : ∀ e : Int, one (((things s).take (s.stars.length + i)).map Thing.id) (.ga x) = e → ¬ e = 0 → ∀ st1, Q1 s (i, st) (some (.ret, hr40 (.d (.int .i64 e)), st1)) := fun e h1 h2 st1 => by
    have h3 := ht1 (by rw [h1]; exact h2)
    rw [h1] at h3
    exact ⟨st1, .inr ⟨by rw [h3], by rw [h3]; exact h2⟩⟩
  have hgo : one (((things s).take (s.stars.length + i)).map Thing.id) (.ga x) = 0 → ∀ st1 env m', st1 (0, 1) = box s → st1 (0, 31) = ⟨1, mapE 136, m', true⟩ → Has m' (((things s).take (s.stars.length + i)).map Thing.id ++ [Thing.id (.ga x)]) → mask (maskOf en40.ms 2) env = h1 s (i + 1) → Q1 s (i, st) (k env st1) := fun h1 st1 env m' h2 h3 h5 h4 =>
    (hk (i + 1, st1) env ⟨by simp only; omega, h2, ht0 h1, m', h3, (hids ▸ h5 : Has m' (((things s).take (s.stars.length + i + 1)).map Thing.id))⟩ (by simp only; omega) h4 : Q1 s (i + 1, st1) _)
  obtain ⟨m', hp, hm'⟩ := Has_put hm (Thing.id (.ga x))
  obtain ⟨id, ⟨u, v, w⟩, r, wide, high⟩ := x
  simp only [Thing.id] at hp hm'
  by_cases c1 : headF (((things s).take (s.stars.length + i)).map Thing.id) id r = 0
  case neg =>
    have hq := hret _ (one_h rfl c1) c1
    have hh := fun lv st hst => head_bad L lv st m _ id r hm hst c1
    simp only [G] at hh
    simp only [Thing.id, Thing.rate] at hq
    generalize headF (((things s).take (s.stars.length + i)).map Thing.id) id r = F at *
    simp only [lb40_2, loopN, loops, h1, p1, mpk, hd40_2, Try.f40, G, go_sem, Nat.reduceAdd, Nat.reduceSub, Nat.reduceMul, Nat.reduceEqDiff, Nat.reduceBEq, Nat.reduceLT, Nat.reduceLeDiff, Nat.reducePow, Int.reduceToNat, Int.reduceLT, Int.reduceLE, Int.reduceGT, Int.reduceGE, Int.reduceEq, Int.reduceNeg, Int.reduceAdd, Int.reduceSub, ↓reduceIte, reduceCtorEq, hlt, hx, g0, ht, q31, hw1, Gal.D, vD, hh, c1]
    exact hq _
  have ho := one_o (x := .ga ⟨id, ⟨u, v, w⟩, r, wide, high⟩) c1
  rw [ho] at hgo hret
  have hh := fun lv st hst => head_good L lv st m m' _ id r hm hp hst c1
  simp only [G] at hh
  have rs := sGal_run id u v w r wide high
  simp only [own] at hgo hret
  generalize galF ⟨id, (u, v, w), r, wide, high⟩ = F at *
  by_cases c2 : F = 0
  · have hq := hgo c2
    simp only [lb40_2, loopN, loops, h1, p1, mpk, hd40_2, Try.f40, G, go_sem, Nat.reduceAdd, Nat.reduceSub, Nat.reduceMul, Nat.reduceEqDiff, Nat.reduceBEq, Nat.reduceLT, Nat.reduceLeDiff, Nat.reducePow, Int.reduceToNat, Int.reduceLT, Int.reduceLE, Int.reduceGT, Int.reduceGE, Int.reduceEq, Int.reduceNeg, Int.reduceAdd, Int.reduceSub, ↓reduceIte, reduceCtorEq, hlt, hx, g0, ht, q31, hw1, Gal.D, vD, hh, rs, c2]
    exact hq _ _ m' (by simp only [go_sem, Nat.reduceAdd, Nat.reduceSub, Nat.reduceMul, Nat.reduceEqDiff, Nat.reduceBEq, Nat.reduceLT, Nat.reduceLeDiff, Nat.reducePow, Int.reduceToNat, Int.reduceLT, Int.reduceLE, Int.reduceGT, Int.reduceGE, Int.reduceEq, Int.reduceNeg, Int.reduceAdd, Int.reduceSub, ↓reduceIte, reduceCtorEq, q1]) (by simp only [go_sem, Nat.reduceAdd, Nat.reduceSub, Nat.reduceMul, Nat.reduceEqDiff, Nat.reduceBEq, Nat.reduceLT, Nat.reduceLeDiff, Nat.reducePow, Int.reduceToNat, Int.reduceLT, Int.reduceLE, Int.reduceGT, Int.reduceGE, Int.reduceEq, Int.reduceNeg, Int.reduceAdd, Int.reduceSub, ↓reduceIte, reduceCtorEq]) hm' (by simp only [h1, p1, mpk, hd40_2, Gal.D, vD, go_sem, Nat.reduceAdd, Nat.reduceSub, Nat.reduceMul, Nat.reduceEqDiff, Nat.reduceBEq, Nat.reduceLT, Nat.reduceLeDiff, Nat.reducePow, Int.reduceToNat, Int.reduceLT, Int.reduceLE, Int.reduceGT, Int.reduceGE, Int.reduceEq, Int.reduceNeg, Int.reduceAdd, Int.reduceSub, ↓reduceIte, reduceCtorEq, hw1])
  · have hq := hret F rfl c2
    simp only [lb40_2, loopN, loops, h1, p1, mpk, hd40_2, Try.f40, G, go_sem, Nat.reduceAdd, Nat.reduceSub, Nat.reduceMul, Nat.reduceEqDiff, Nat.reduceBEq, Nat.reduceLT, Nat.reduceLeDiff, Nat.reducePow, Int.reduceToNat, Int.reduceLT, Int.reduceLE, Int.reduceGT, Int.reduceGE, Int.reduceEq, Int.reduceNeg, Int.reduceAdd, Int.reduceSub, ↓reduceIte, reduceCtorEq, hlt, hx, g0, ht, q31, hw1, Gal.D, vD, hh, rs, c2]
    exact hq _
/-! ### bods -/
def h2 (s : Sky) (i : Nat) : List V := hd40_4 p1 mpk (.d (.sl 39 (s.bods.map bD))) (.d (.int .i64 s.bods.length)) (.d (.int .i64 i))
def J2 (s : Sky) (x : Nat × Store) : Prop := x.1 ≤ s.bods.length ∧ Ok s (s.stars.length + s.gals.length + x.1) x.2
def Q2 (s : Sky) (x : Nat × Store) (o : Out) : Prop := ∃ st', (o = some (.exit 4, hx40_4 p1, st') ∧ Ok s (s.stars.length + s.gals.length + s.bods.length) st') ∨ (o = some (.ret, hr40 (.d (.int .i64 (faults [] (things s)))), st') ∧ ¬ faults [] (things s) = 0)
theorem loop2 (L : Nat) (s : Sky) (hs : okSky s) :
    ∀ (m : Nat) (x : Nat × Store) (env : List V), J2 s x → s.bods.length - x.1 < m → mask (maskOf en40.ms 4) env = h2 s x.1 →
      Q2 s x (iter (evC Try.prog G (evF Try.prog G T L 1) L en40.ms 0 4 lb40_4) (maskOf en40.ms 4) m env x.2) := by
  refine iter_rel _ _ (J2 s) (fun x => h2 s x.1) (fun x => x.2) (Q2 s) (fun x => s.bods.length - x.1) ?_
  rintro ⟨i, st⟩ ⟨hi, hok⟩ k hk
  simp only at hi hok
  by_cases hin : i < s.bods.length
  case neg =>
    obtain rfl : i = s.bods.length := by omega
    have hlt : ¬ (s.bods.length : Int) < s.bods.length := by omega
    refine ⟨st, .inl ⟨?_, hok⟩⟩
    simp only [lb40_4, loopN, loops, h2, p1, mpk, hd40_4, hx40_4, Try.f40, go_sem, Nat.reduceAdd, Nat.reduceSub, Nat.reduceMul, Nat.reduceEqDiff, Nat.reduceBEq, Nat.reduceLT, Nat.reduceLeDiff, Nat.reducePow, Int.reduceToNat, Int.reduceLT, Int.reduceLE, Int.reduceGT, Int.reduceGE, Int.reduceEq, Int.reduceNeg, Int.reduceAdd, Int.reduceSub, ↓reduceIte, reduceCtorEq, hlt]
  obtain ⟨q1, qf, m, q31, hm⟩ := hok
  have hlt : (i : Int) < s.bods.length := by omega
  obtain ⟨hs1, hs2⟩ := hs
  obtain ⟨hs1, hs3, hs4⟩ := hs1
  have hx : s.bods[i]? = some s.bods[i] := by simp [hin]
  have hmem : s.bods[i] ∈ s.bods := List.getElem_mem _
  have hth := th_bo hin
  have g0 : (0 : Int) ≤ (i : Int) := by omega
  have ht : ((i : Int)).toNat = i := by omega
  have hw1 : IntKind.i64.wrap ((i : Int) + 1) = ((i + 1 : Nat) : Int) := by rw [IntWalk.i64_in _ (by omega)]; rfl
  obtain ⟨ht0, ht1⟩ := take_at hth qf
  have hids := take_ids hth
  generalize s.bods[i] = x at *
  have hret : ∀ e : Int, one (((things s).take (s.stars.length + s.gals.length + i)).map Thing.id) (.bo x) = e → ¬ e = 0 → ∀ st1, Q2 s (i, st) (some (.ret, hr40 (.d (.int .i64 e)), st1)) := fun e h1 h2 st1 => by
    have h3 := ht1 (by rw [h1]; exact h2)
    rw [h1] at h3
    exact ⟨st1, .inr ⟨by rw [h3], by rw [h3]; exact h2⟩⟩
  have hgo : one (((things s).take (s.stars.length + s.gals.length + i)).map Thing.id) (.bo x) = 0 → ∀ st1 env m', st1 (0, 1) = box s → st1 (0, 31) = ⟨1, mapE 136, m', true⟩ → Has m' (((things s).take (s.stars.length + s.gals.length + i)).map Thing.id ++ [Thing.id (.bo x)]) → mask (maskOf en40.ms 4) env = h2 s (i + 1) → Q2 s (i, st) (k env st1) := fun h1 st1 env m' h2 h3 h5 h4 =>
    (hk (i + 1, st1) env ⟨by simp only; omega, h2, ht0 h1, m', h3, (hids ▸ h5 : Has m' (((things s).take (s.stars.length + s.gals.length + i + 1)).map Thing.id))⟩ (by simp only; omega) h4 : Q2 s (i + 1, st1) _)
  obtain ⟨m', hp, hm'⟩ := Has_put hm (Thing.id (.bo x))
  obtain ⟨id, ⟨u, v, w⟩, ⟨u2, v2, w2⟩, r⟩ := x
  simp only [Thing.id] at hp hm'
  by_cases c1 : headF (((things s).take (s.stars.length + s.gals.length + i)).map Thing.id) id r = 0
  case neg =>
    have hq := hret _ (one_h rfl c1) c1
    have hh := fun lv st hst => head_bad L lv st m _ id r hm hst c1
    simp only [G] at hh
    simp only [Thing.id, Thing.rate] at hq
    generalize headF (((things s).take (s.stars.length + s.gals.length + i)).map Thing.id) id r = F at *
    simp only [lb40_4, loopN, loops, h2, p1, mpk, hd40_4, Try.f40, G, go_sem, Nat.reduceAdd, Nat.reduceSub, Nat.reduceMul, Nat.reduceEqDiff, Nat.reduceBEq, Nat.reduceLT, Nat.reduceLeDiff, Nat.reducePow, Int.reduceToNat, Int.reduceLT, Int.reduceLE, Int.reduceGT, Int.reduceGE, Int.reduceEq, Int.reduceNeg, Int.reduceAdd, Int.reduceSub, ↓reduceIte, reduceCtorEq, hlt, hx, g0, ht, q31, hw1, bD, vD, hh, c1]
    exact hq _
  have ho := one_o (x := .bo ⟨id, ⟨u, v, w⟩, ⟨u2, v2, w2⟩, r⟩) c1
  rw [ho] at hgo hret
  have hh := fun lv st hst => head_good L lv st m m' _ id r hm hp hst c1
  simp only [G] at hh
  have rs := sMov_run (id, (u, v, w), (u2, v2, w2), r)
  simp only at rs
  simp only [own, bodF] at hgo hret
  by_cases c2 : okV 4194304 (u, v, w) = true ∧ okV 4194304 (u2, v2, w2) = true
  · rw [if_pos c2] at hgo
    have hq := hgo rfl
    rw [c2.1, c2.2] at rs
    simp only [lb40_4, loopN, loops, h2, p1, mpk, hd40_4, Try.f40, G, go_sem, Nat.reduceAdd, Nat.reduceSub, Nat.reduceMul, Nat.reduceEqDiff, Nat.reduceBEq, Nat.reduceLT, Nat.reduceLeDiff, Nat.reducePow, Int.reduceToNat, Int.reduceLT, Int.reduceLE, Int.reduceGT, Int.reduceGE, Int.reduceEq, Int.reduceNeg, Int.reduceAdd, Int.reduceSub, ↓reduceIte, reduceCtorEq, hlt, hx, g0, ht, q31, hw1, bD, vD, hh, rs]
    exact hq _ _ m' (by simp only [go_sem, Nat.reduceAdd, Nat.reduceSub, Nat.reduceMul, Nat.reduceEqDiff, Nat.reduceBEq, Nat.reduceLT, Nat.reduceLeDiff, Nat.reducePow, Int.reduceToNat, Int.reduceLT, Int.reduceLE, Int.reduceGT, Int.reduceGE, Int.reduceEq, Int.reduceNeg, Int.reduceAdd, Int.reduceSub, ↓reduceIte, reduceCtorEq, q1]) (by simp only [go_sem, Nat.reduceAdd, Nat.reduceSub, Nat.reduceMul, Nat.reduceEqDiff, Nat.reduceBEq, Nat.reduceLT, Nat.reduceLeDiff, Nat.reducePow, Int.reduceToNat, Int.reduceLT, Int.reduceLE, Int.reduceGT, Int.reduceGE, Int.reduceEq, Int.reduceNeg, Int.reduceAdd, Int.reduceSub, ↓reduceIte, reduceCtorEq]) hm' (by simp only [h2, p1, mpk, hd40_4, bD, vD, go_sem, Nat.reduceAdd, Nat.reduceSub, Nat.reduceMul, Nat.reduceEqDiff, Nat.reduceBEq, Nat.reduceLT, Nat.reduceLeDiff, Nat.reducePow, Int.reduceToNat, Int.reduceLT, Int.reduceLE, Int.reduceGT, Int.reduceGE, Int.reduceEq, Int.reduceNeg, Int.reduceAdd, Int.reduceSub, ↓reduceIte, reduceCtorEq, hw1])
  · rw [if_neg c2] at hret
    have hq := hret 4 rfl (by decide)
    have c3 : (okV 4194304 (u, v, w) && okV 4194304 (u2, v2, w2)) = false := by
      cases h1 : okV 4194304 (u, v, w) <;> cases h2 : okV 4194304 (u2, v2, w2) <;> simp_all
    rw [c3] at rs
    simp only [lb40_4, loopN, loops, h2, p1, mpk, hd40_4, Try.f40, G, go_sem, Nat.reduceAdd, Nat.reduceSub, Nat.reduceMul, Nat.reduceEqDiff, Nat.reduceBEq, Nat.reduceLT, Nat.reduceLeDiff, Nat.reducePow, Int.reduceToNat, Int.reduceLT, Int.reduceLE, Int.reduceGT, Int.reduceGE, Int.reduceEq, Int.reduceNeg, Int.reduceAdd, Int.reduceSub, ↓reduceIte, reduceCtorEq, hlt, hx, g0, ht, q31, hw1, bD, vD, hh, rs]
    exact hq _
/-! ### as a whole -/
theorem eCheck (s : Sky) (hs : okSky s) : evTop Try.prog G T 41 2 40 [s.D] = some [.int .i64 (fault s)] := by
  have hlen := things_len s
  have l0 := loop0 41 s hs
  have l1 := loop1 41 s hs
  have l2 := loop2 41 s hs
  obtain ⟨⟨hs1, hs3, hs4⟩, hs2⟩ := hs
  have hB : box s = ⟨1, 47, [.d s.D], true⟩ := rfl
  have hwl : IntKind.i64.wrap ((s.stars.length : Int) + s.gals.length) = (s.stars.length : Int) + s.gals.length := wi_in (by omega) (by omega)
  have hwm : IntKind.i64.wrap ((s.stars.length : Int) + s.gals.length + s.bods.length) = (s.stars.length : Int) + s.gals.length + s.bods.length := wi_in (by omega) (by omega)
  have hSD : s.D = .agg 47 [.int .i64 s.back, .sl 79 (s.stars.map Star.D), .sl 76 (s.gals.map Gal.D), .sl 39 (s.bods.map bD), bD s.home] := rfl
  have hmv := sMov_run s.home
  rw [hSD] at hB ⊢
  unfold fault
  unfold evTop
  simp only [List.map]
  rw [evF_s (fn := Try.f40) (msk := en40.ms) (hT := by rfl) (hb := by rfl)]
  by_cases c1 : s.stars.length + s.gals.length + s.bods.length > 40
  · have c1' : (s.stars.length : Int) + s.gals.length + s.bods.length > 40 := by omega
    rw [if_pos c1]
    simp only [Try.f40, G, go_sem, Nat.reduceAdd, Nat.reduceSub, Nat.reduceMul, Nat.reduceEqDiff, Nat.reduceBEq, Nat.reduceLT, Nat.reduceLeDiff, Nat.reducePow, Int.reduceToNat, Int.reduceLT, Int.reduceLE, Int.reduceGT, Int.reduceGE, Int.reduceEq, Int.reduceNeg, Int.reduceAdd, Int.reduceSub, ↓reduceIte, reduceCtorEq, hwl, hwm, c1']
  have c1' : ¬ (s.stars.length : Int) + s.gals.length + s.bods.length > 40 := by omega
  rw [if_neg c1]
  by_cases c2 : s.back < 0
  · rw [if_pos (.inl c2)]
    simp only [Try.f40, G, go_sem, Nat.reduceAdd, Nat.reduceSub, Nat.reduceMul, Nat.reduceEqDiff, Nat.reduceBEq, Nat.reduceLT, Nat.reduceLeDiff, Nat.reducePow, Int.reduceToNat, Int.reduceLT, Int.reduceLE, Int.reduceGT, Int.reduceGE, Int.reduceEq, Int.reduceNeg, Int.reduceAdd, Int.reduceSub, ↓reduceIte, reduceCtorEq, hwl, hwm, c1', c2]
  by_cases c3 : s.back > 1048576
  · rw [if_pos (.inr c3)]
    simp only [Try.f40, G, go_sem, Nat.reduceAdd, Nat.reduceSub, Nat.reduceMul, Nat.reduceEqDiff, Nat.reduceBEq, Nat.reduceLT, Nat.reduceLeDiff, Nat.reducePow, Int.reduceToNat, Int.reduceLT, Int.reduceLE, Int.reduceGT, Int.reduceGE, Int.reduceEq, Int.reduceNeg, Int.reduceAdd, Int.reduceSub, ↓reduceIte, reduceCtorEq, hwl, hwm, c1', c2, c3]
  rw [if_neg (by omega)]
  simp only [Try.f40, G, go_sem, Nat.reduceAdd, Nat.reduceSub, Nat.reduceMul, Nat.reduceEqDiff, Nat.reduceBEq, Nat.reduceLT, Nat.reduceLeDiff, Nat.reducePow, Int.reduceToNat, Int.reduceLT, Int.reduceLE, Int.reduceGT, Int.reduceGE, Int.reduceEq, Int.reduceNeg, Int.reduceAdd, Int.reduceSub, ↓reduceIte, reduceCtorEq, hwl, hwm, c1', c2, c3]
  refine loop_then (R := Q0 s (0, _)) (l0 _ (0, _) _ ⟨by simp only; omega, by simp only [go_sem, Nat.reduceAdd, Nat.reduceSub, Nat.reduceMul, Nat.reduceEqDiff, Nat.reduceBEq, Nat.reduceLT, Nat.reduceLeDiff, Nat.reducePow, Int.reduceToNat, Int.reduceLT, Int.reduceLE, Int.reduceGT, Int.reduceGE, Int.reduceEq, Int.reduceNeg, Int.reduceAdd, Int.reduceSub, ↓reduceIte, reduceCtorEq, hB], rfl, [], by simp only [go_sem, Nat.reduceAdd, Nat.reduceSub, Nat.reduceMul, Nat.reduceEqDiff, Nat.reduceBEq, Nat.reduceLT, Nat.reduceLeDiff, Nat.reducePow, Int.reduceToNat, Int.reduceLT, Int.reduceLE, Int.reduceGT, Int.reduceGE, Int.reduceEq, Int.reduceNeg, Int.reduceAdd, Int.reduceSub, ↓reduceIte, reduceCtorEq, empty], trivial, fun j => rfl⟩ (by simp only; omega) (by simp only [h0, p1, mpk, hd40_0, go_sem, Nat.reduceAdd, Nat.reduceSub, Nat.reduceMul, Nat.reduceEqDiff, Nat.reduceBEq, Nat.reduceLT, Nat.reduceLeDiff, Nat.reducePow, Int.reduceToNat, Int.reduceLT, Int.reduceLE, Int.reduceGT, Int.reduceGE, Int.reduceEq, Int.reduceNeg, Int.reduceAdd, Int.reduceSub, ↓reduceIte, reduceCtorEq])) ?_
  rintro o ⟨st1, ⟨rfl, hok⟩ | ⟨rfl, hne⟩⟩
  case inr =>
    rw [if_neg hne]
    simp only [hr40, go_sem, Nat.reduceAdd, Nat.reduceSub, Nat.reduceMul, Nat.reduceEqDiff, Nat.reduceBEq, Nat.reduceLT, Nat.reduceLeDiff, Nat.reducePow, Int.reduceToNat, Int.reduceLT, Int.reduceLE, Int.reduceGT, Int.reduceGE, Int.reduceEq, Int.reduceNeg, Int.reduceAdd, Int.reduceSub, ↓reduceIte, reduceCtorEq]
  have q1 := hok.1
  rw [hB] at q1
  simp only [hx40_0, p1, mpk, go_sem, Nat.reduceAdd, Nat.reduceSub, Nat.reduceMul, Nat.reduceEqDiff, Nat.reduceBEq, Nat.reduceLT, Nat.reduceLeDiff, Nat.reducePow, Int.reduceToNat, Int.reduceLT, Int.reduceLE, Int.reduceGT, Int.reduceGE, Int.reduceEq, Int.reduceNeg, Int.reduceAdd, Int.reduceSub, ↓reduceIte, reduceCtorEq, q1]
  refine loop_then (R := Q1 s (0, _)) (l1 _ (0, _) _ ⟨by simp only; omega, hok⟩ (by simp only; omega) (by simp only [h1, p1, mpk, hd40_2, go_sem, Nat.reduceAdd, Nat.reduceSub, Nat.reduceMul, Nat.reduceEqDiff, Nat.reduceBEq, Nat.reduceLT, Nat.reduceLeDiff, Nat.reducePow, Int.reduceToNat, Int.reduceLT, Int.reduceLE, Int.reduceGT, Int.reduceGE, Int.reduceEq, Int.reduceNeg, Int.reduceAdd, Int.reduceSub, ↓reduceIte, reduceCtorEq])) ?_
  rintro o ⟨st2, ⟨rfl, hok⟩ | ⟨rfl, hne⟩⟩
  case inr =>
    rw [if_neg hne]
    simp only [hr40, go_sem, Nat.reduceAdd, Nat.reduceSub, Nat.reduceMul, Nat.reduceEqDiff, Nat.reduceBEq, Nat.reduceLT, Nat.reduceLeDiff, Nat.reducePow, Int.reduceToNat, Int.reduceLT, Int.reduceLE, Int.reduceGT, Int.reduceGE, Int.reduceEq, Int.reduceNeg, Int.reduceAdd, Int.reduceSub, ↓reduceIte, reduceCtorEq]
  have q1 := hok.1
  rw [hB] at q1
  simp only [hx40_2, p1, mpk, go_sem, Nat.reduceAdd, Nat.reduceSub, Nat.reduceMul, Nat.reduceEqDiff, Nat.reduceBEq, Nat.reduceLT, Nat.reduceLeDiff, Nat.reducePow, Int.reduceToNat, Int.reduceLT, Int.reduceLE, Int.reduceGT, Int.reduceGE, Int.reduceEq, Int.reduceNeg, Int.reduceAdd, Int.reduceSub, ↓reduceIte, reduceCtorEq, q1]
  refine loop_then (R := Q2 s (0, _)) (l2 _ (0, _) _ ⟨by simp only; omega, hok⟩ (by simp only; omega) (by simp only [h2, p1, mpk, hd40_4, go_sem, Nat.reduceAdd, Nat.reduceSub, Nat.reduceMul, Nat.reduceEqDiff, Nat.reduceBEq, Nat.reduceLT, Nat.reduceLeDiff, Nat.reducePow, Int.reduceToNat, Int.reduceLT, Int.reduceLE, Int.reduceGT, Int.reduceGE, Int.reduceEq, Int.reduceNeg, Int.reduceAdd, Int.reduceSub, ↓reduceIte, reduceCtorEq])) ?_
  rintro o ⟨st3, ⟨rfl, hok⟩ | ⟨rfl, hne⟩⟩
  case inr =>
    rw [if_neg hne]
    simp only [hr40, go_sem, Nat.reduceAdd, Nat.reduceSub, Nat.reduceMul, Nat.reduceEqDiff, Nat.reduceBEq, Nat.reduceLT, Nat.reduceLeDiff, Nat.reducePow, Int.reduceToNat, Int.reduceLT, Int.reduceLE, Int.reduceGT, Int.reduceGE, Int.reduceEq, Int.reduceNeg, Int.reduceAdd, Int.reduceSub, ↓reduceIte, reduceCtorEq]
  have q1 := hok.1
  have hz := hok.2.1
  rw [← hlen, List.take_length] at hz
  rw [if_pos hz]
  rw [hB] at q1
  unfold bodF
  generalize s.home = b at *
  obtain ⟨hid, ⟨a, b, c⟩, ⟨u, v, w⟩, hr⟩ := b
  simp only at hmv
  simp only [bD, vD] at q1
  simp only
  by_cases c5 : hid = 0
  case neg =>
    rw [if_pos (.inl c5)]
    simp only [hx40_4, p1, Try.f40, G, go_sem, Nat.reduceAdd, Nat.reduceSub, Nat.reduceMul, Nat.reduceEqDiff, Nat.reduceBEq, Nat.reduceLT, Nat.reduceLeDiff, Nat.reducePow, Int.reduceToNat, Int.reduceLT, Int.reduceLE, Int.reduceGT, Int.reduceGE, Int.reduceEq, Int.reduceNeg, Int.reduceAdd, Int.reduceSub, ↓reduceIte, reduceCtorEq, q1, decide_eq_false c5]
  by_cases c6 : hr = 0
  case neg =>
    rw [if_pos (.inr c6)]
    simp only [hx40_4, p1, Try.f40, G, go_sem, Nat.reduceAdd, Nat.reduceSub, Nat.reduceMul, Nat.reduceEqDiff, Nat.reduceBEq, Nat.reduceLT, Nat.reduceLeDiff, Nat.reducePow, Int.reduceToNat, Int.reduceLT, Int.reduceLE, Int.reduceGT, Int.reduceGE, Int.reduceEq, Int.reduceNeg, Int.reduceAdd, Int.reduceSub, ↓reduceIte, reduceCtorEq, q1, decide_eq_true c5, decide_eq_false c6]
  rw [if_neg (by simp [c5, c6])]
  by_cases c7 : okV 4194304 (a, b, c) = true ∧ okV 4194304 (u, v, w) = true
  · rw [if_pos c7]
    rw [c7.1, c7.2] at hmv
    simp only [hx40_4, p1, Try.f40, G, go_sem, Nat.reduceAdd, Nat.reduceSub, Nat.reduceMul, Nat.reduceEqDiff, Nat.reduceBEq, Nat.reduceLT, Nat.reduceLeDiff, Nat.reducePow, Int.reduceToNat, Int.reduceLT, Int.reduceLE, Int.reduceGT, Int.reduceGE, Int.reduceEq, Int.reduceNeg, Int.reduceAdd, Int.reduceSub, ↓reduceIte, reduceCtorEq, q1, decide_eq_true c5, decide_eq_true c6, hmv]
  · rw [if_neg c7]
    have c8 : (okV 4194304 (a, b, c) && okV 4194304 (u, v, w)) = false := by
      cases h1 : okV 4194304 (a, b, c) <;> cases h2 : okV 4194304 (u, v, w) <;> simp_all
    rw [c8] at hmv
    simp only [hx40_4, p1, Try.f40, G, go_sem, Nat.reduceAdd, Nat.reduceSub, Nat.reduceMul, Nat.reduceEqDiff, Nat.reduceBEq, Nat.reduceLT, Nat.reduceLeDiff, Nat.reducePow, Int.reduceToNat, Int.reduceLT, Int.reduceLE, Int.reduceGT, Int.reduceGE, Int.reduceEq, Int.reduceNeg, Int.reduceAdd, Int.reduceSub, ↓reduceIte, reduceCtorEq, q1, decide_eq_true c5, decide_eq_true c6, hmv]
theorem check_ok : SpecOk Try.prog 40 sFault := specC_ok mixed G_ok T_ok fun s h => ⟨_, 2, eCheck s h⟩
#print axioms check_ok
end Go.Proofs.YtmhjmjodchbhlaaR.SkyCRate
end
