/- Parts of one proof, joined: Num4Pull, Num5Pull, Num6Pull, PullPull. -/
import Derived.Test.YtmhjmjodchbhlaaRMSkyChecks7
section
set_option linter.unusedVariables false
set_option linter.unusedSimpArgs false
set_option maxRecDepth 100000
namespace Go.Proofs.YtmhjmjodchbhlaaR.Num4Pull
open Go.Ev Go.Ari Go.Proofs.YtmhjmjodchbhlaaR.FxPull Go.Proofs.YtmhjmjodchbhlaaR.Num1Pull
attribute [local go_sem] Ev.putR_s Ev.putR_0 Ev.thenO_s Ev.thenO_0 Ev.seqR_n Ev.seqR_e Ev.seqR_r Ev.seqR_0 Ev.blkR_e Ev.blkR_n Ev.blkR_r Ev.blkR_0 Ev.normR_s Ev.normR_0 Ev.outR_r Ev.outR_n Ev.outR_0 Ev.retS_s Ev.retS_0 Ev.pureO_s Ev.pureO_0 Ev.topR_0 Ev.topR_t Ev.topR_t0 Ev.oneL_0 Ev.oneL_s Ev.topR_d Ev.topR_nils Ev.topR_agg Ev.topR_rs Ev.evOp_move Ev.evOp_assign Ev.evOp_pick Ev.evOp_alloc Ev.evOp_box Ev.evOp_build Ev.evOp_buildSlice Ev.evOp_load Ev.evOp_store Ev.evOp_makeMap Ev.evOp_lookup Ev.evOp_mapUpdate Ev.evOp_insert Ev.evOp_nilCheck Ev.evOp_binOp Ev.evOp_unOp Ev.evOp_convert Ev.evOp_makeFunc Ev.evOp_makeSlice Ev.evOp_slice Ev.evOp_fieldAddr Ev.evOp_field Ev.evOp_indexAddr Ev.evOp_index Ev.evOp_extract Ev.evOp_call Ev.evOp_append Ev.evOp_len Ev.evOp_min Ev.evOp_max Ev.condR_b Ev.condR_t Ev.evOps_nil Ev.evOps_plain Ev.evOps_guard Ev.runG_eq Ev.skipG_eq Ev.condL_tt Ev.condL_ff Ev.condL_tf Ev.condL_ft Ev.condL_u Ev.condC_t Ev.condC_f Ev.evC_skip Ev.evC_ret Ev.evC_exit Ev.evC_label Ev.evC_region Ev.evC_draw Ev.evC_seq Ev.evC_cond Ev.evC_block Ev.evC_loop Ev.fin_d Ev.fin_nils Ev.fin_agg_ Ev.fin_rs Ev.finS_s Ev.mapO_fin Ev.upd_upd Ev.argv_d Ev.argv_nils Ev.argv_agg Ev.argv_rs Ev.argv_p Ev.appendTo_nils Ev.appendTo_rs Ev.consV_d Ev.consV_agg Ev.consV_p Ev.consV_rs Ev.consV_nils Ev.consV_fn Ev.consV_und Ev.consV_jk Ev.consV_grown Ev.topR_grown Ev.len_grown Ev.consV_mp Ev.sameK_i Ev.sameK_s Ev.mget_0 Ev.mget_hit Ev.mget_miss Ev.mput_0 Ev.mput_hit Ev.mput_miss Ev.apartAll Ev.apartL Ev.apartV Ev.freeAll Ev.sel Ev.keyOfV Ev.evLookup Ev.evPut Ev.hintOk Ev.keyOk Ev.consP Ev.lookV Ev.guardV Ev.dstAt Ev.evPure Ev.evStore Ev.evPureB Ev.evBin Ev.evBinO Ev.evNil Ev.isNilC Ev.evUn Ev.evConv Ev.evSlice Ev.optI Ev.lenV Ev.elemT Ev.foldI Ev.capsOk Ev.noTup Ev.nth Ev.setN Ev.pad Ev.V.get Ev.V.put Ev.putD Ev.hasT Ev.newBlk Ev.upd Ev.keq Ev.empty Ev.evCall Ev.V.args Ev.argP Ev.callOf Ev.evNilP Ev.isNilP Ev.look Ev.V.view.views Ev.V.view Ev.V.toD Ev.V.toD.V.toDs Ev.V.pure.pures Ev.V.pure Ev.D.flat.flats Ev.D.flat Ev.mkAgg Ev.allD Ev.aggParts Ev.setParts Ev.setElems Ev.getPath Ev.setPath Ev.subL Ev.eqD Ev.eqD.eqDs Ev.and2 Ev.strCut Ev.evalT Ev.constT Ev.evArgs Ev.mask Ev.maskOf Ev.tableOf Ev.compT Ev.resV Ev.retV Ev.mapO Ev.elemsOf Int.cast_ofNat_Int IntWalk.i64_in IntWalk.u64_in IntWalk.u8_in beq_self_eq_true Bool.true_beq Bool.false_beq Bool.and_true Bool.true_and Bool.false_and Bool.and_false Bool.and_self Bool.not_true Bool.not_false Bool.not_eq_true cond_true cond_false if_true if_false and_true true_and and_self decide_true decide_false Bool.or_true Bool.true_or Bool.or_false Bool.false_or List.isEmpty List.isEmpty_nil List.size_toArray List.map List.length_map List.length_cons List.length_nil Option.map Option.bind Option.getD Option.isSome List.replicate Bool.false_eq_true implies_true forall_const Array.toList Array.isEmpty List.append List.nil_append List.cons_append List.drop_zero List.take_length List.take_succ_cons List.take_zero List.take_nil List.getElem?_map List.getElem?_cons_zero List.getElem?_cons_succ List.getElem?_nil List.append_nil
attribute [local go_sem] FxPull.tk2 FxPull.ik2 FxPull.ek2 FxPull.zv2 FxPull.tk3 FxPull.ik3 FxPull.ek3 FxPull.zv3 FxPull.tk4 FxPull.ub4 FxPull.zv4 FxPull.tk5 FxPull.ik5 FxPull.zv5 FxPull.tk9 FxPull.ek9 FxPull.tk23 FxPull.ct23 FxPull.ek23 FxPull.zv23 FxPull.tk27 FxPull.ik27 FxPull.zv27 FxPull.tk37 FxPull.ik37 FxPull.zv37 FxPull.by37 FxPull.so37 FxPull.tk39 FxPull.ct39 FxPull.zv39 FxPull.by39 FxPull.so39 FxPull.tk43 FxPull.zv43 FxPull.tk44 FxPull.zv44 FxPull.tk45 FxPull.zv45 FxPull.tk47 FxPull.ct47 FxPull.zv47 FxPull.tk48 FxPull.ik48 FxPull.zv48 FxPull.tk76 FxPull.ct76 FxPull.zv76 FxPull.by76 FxPull.so76 FxPull.tk77 FxPull.zv77 FxPull.tk79 FxPull.ct79 FxPull.zv79 FxPull.by79 FxPull.so79 FxPull.tk88 FxPull.zv88 FxPull.tk92 FxPull.ik92 FxPull.zv92 FxPull.tk135 FxPull.ik135 FxPull.zv135 FxPull.tk136 FxPull.mt136 FxPull.sm136 FxPull.zw4 FxPull.zv136 FxPull.tk145 FxPull.zv145 FxPull.tk148 FxPull.ct148 FxPull.zv148 FxPull.tk150 FxPull.ct150 FxPull.zv150 FxPull.tk161 FxPull.ct161 FxPull.zv161 FxPull.tk203 FxPull.dw3_1 FxPull.nc3_1 FxPull.mk3_1000000 FxPull.mk4_1000000 FxPull.mk14_1000000 FxPull.dw15_7 FxPull.nc15_7 FxPull.mk15_1000000 FxPull.dw16_7 FxPull.nc16_7 FxPull.mk16_1000000 FxPull.mk17_1000000 FxPull.mk18_1000000 FxPull.mk30_1000000 FxPull.mk40_0 FxPull.mk40_2 FxPull.mk40_4 FxPull.mk40_1000001 FxPull.mk40_1000002 FxPull.mk40_1000003 FxPull.mk40_1000004 FxPull.mk40_1000005 FxPull.mk40_1000006 FxPull.mk40_1000007 FxPull.mk40_1000000 FxPull.mk46_0 FxPull.mk46_1000001 FxPull.mk46_1000002 FxPull.mk46_1000000 FxPull.mk47_1000000 FxPull.mk48_1000000 FxPull.mk49_1000000 FxPull.mk50_1000000 FxPull.mk51_0 FxPull.mk51_1000001 FxPull.mk51_1000002 FxPull.mk51_1000000 FxPull.dw52_2 FxPull.nc52_2 FxPull.mk52_1000000 FxPull.mk53_1000000 FxPull.mk54_1000000 FxPull.mk55_1000001 FxPull.mk55_1000000 FxPull.mk64_1000000 FxPull.mk78_0 FxPull.mk78_1000001 FxPull.mk78_1000002 FxPull.mk78_1000000 FxPull.mk87_1000001 FxPull.mk87_1000000 FxPull.mk88_1000001 FxPull.mk88_1000000 FxPull.mk89_0 FxPull.mk89_1000001 FxPull.mk89_1000002 FxPull.mk89_1000000 FxPull.mk93_1000001 FxPull.mk93_1000000 FxPull.mk95_1000000 FxPull.mk98_0 FxPull.mk98_1000001 FxPull.mk98_1000002 FxPull.mk98_1000000 FxPull.mk99_1000000 FxPull.mk100_1000001 FxPull.mk100_1000000 FxPull.mk101_1000000 FxPull.mk102_1000000 FxPull.mk103_0 FxPull.mk103_1000001 FxPull.mk103_1000002 FxPull.mk103_1000000 FxPull.mk127_1000000 FxPull.mk128_1000000 FxPull.mk131_0 FxPull.mk131_1000001 FxPull.mk131_1000002 FxPull.mk131_1000000 FxPull.mk134_1000000 FxPull.mk135_1000000 FxPull.dw136_6 FxPull.nc136_6 FxPull.mk136_0 FxPull.mk136_2 FxPull.mk136_1000001 FxPull.mk136_1000002 FxPull.mk136_1000003 FxPull.mk136_1000004 FxPull.mk136_1000000 FxPull.mk152_1000000
noncomputable def G4 : Specs := [(101, sMul)]
noncomputable def T4 : Table := tableOf [(98, en98)]
theorem G4_ok : ∀ g s, Ev.look G4 g = some s → SpecOk Try.prog g s := specs_cons sMul_ok specs_nil
theorem T4_ok : TableOk Try.prog (G4.map (·.1)) T4 := (table_cons Try.func98 (by kernel_rfl) (by kernel_rfl) table_nil)
abbrev u (x : Int) : V := .d (.int .u64 x)
def pw (j : Nat) : Int := ((2 ^ j : Nat) : Int)
theorem pw_pos (j : Nat) : 1 ≤ pw j := by unfold pw; exact_mod_cast Nat.two_pow_pos j
theorem pw_succ (j : Nat) : pw (j + 1) = pw j * 2 := by unfold pw; rw [Nat.pow_succ, Int.natCast_mul]; rfl
theorem pw_half (j : Nat) : pw (j + 1) / 2 = pw j := by rw [pw_succ]; omega
def hd (n : Int) (x : Nat × Int) : List V := hd98_0 (u (n / 18446744073709551616)) (u (n % 18446744073709551616)) (u x.2) (u (pw x.1 / 2))
theorem loop (L : Nat) (call : Caller) (st : Store) (n : Int) (hn0 : 0 ≤ n) (hn : n < 85070591730234615865843651857942052864) :
    ∀ (m : Nat) (x : Nat × Int) (env : List V), (x.1 ≤ 63 ∧ 0 ≤ x.2 ∧ x.2 % pw x.1 = 0 ∧ x.2 + pw x.1 ≤ 9223372036854775808 ∧ x.2 * x.2 ≤ n ∧ n < (x.2 + pw x.1) * (x.2 + pw x.1)) → x.1 < m → mask (maskOf en98.ms 0) env = hd n x →
      iter (evC Try.prog G4 call L en98.ms 0 0 lb98_0) (maskOf en98.ms 0) m env st = some (.exit 0, hx98_0 (u (isqrt n)), st) := by
  refine iter_wf _ _ _ (hd n) (fun _ => st) (fun _ => some (.exit 0, hx98_0 (u (isqrt n)), st)) (fun x => x.1) ?_
  rintro ⟨j, r⟩ ⟨i1, i2, i3, i4, i5, i6⟩ k hk
  simp only at i1 i2 i3 i4 i5 i6
  cases j with
  | zero =>
    have e0 : pw 0 = 1 := rfl
    have e1 : (1 : Int) / 2 = 0 := by decide
    rw [e0] at i6
    have er : isqrt n = r := isqrt_eq ⟨i2, i5, i6⟩
    simp only [lb98_0, loopN, loops, hd, hd98_0, hx98_0, Try.f98, go_sem, Nat.reduceAdd, Nat.reduceSub, Nat.reduceMul, Nat.reduceEqDiff, Nat.reduceBEq, Nat.reduceLT, Nat.reduceLeDiff, Nat.reducePow, Int.reduceToNat, Int.reduceLT, Int.reduceLE, Int.reduceGT, Int.reduceGE, Int.reduceEq, Int.reduceNeg, Int.reduceAdd, Int.reduceSub, ↓reduceIte, reduceCtorEq, e0, e1, er, show ¬ ((0 : Int) > 0) by decide]
  | succ j =>
    have p0 := pw_pos j
    have p1 := pw_succ j
    have c0 : pw j > 0 := by omega
    have ho : bitsI .or .u64 r (pw j) = r + pw j := or_add (p := pw (j + 1)) (j + 1) rfl i2 (by omega) i3 (by omega) (by omega) (by omega)
    have hs : shrI .u64 (pw j) 1 = pw j / 2 := shr1 _
    have rm := sMul_run (r + pw j) (r + pw j) ⟨by omega, by omega⟩ ⟨by omega, by omega⟩
    generalize hc : (r + pw j) * (r + pw j) = c at *
    have hw := words_le (a := c) (b := n)
    have hm : pw j * 2 = pw (j + 1) := p1.symm
    have hdv : r % pw j = 0 := by
      have e := Int.emod_emod_of_dvd r (show pw j ∣ pw (j + 1) from ⟨2, p1⟩)
      rw [← e, i3]; simp
    by_cases ht : c ≤ n
    · have hn' := hk (j, r + pw j)
      have hI : (j ≤ 63 ∧ 0 ≤ r + pw j ∧ (r + pw j) % pw j = 0 ∧ (r + pw j) + pw j ≤ 9223372036854775808 ∧ (r + pw j) * (r + pw j) ≤ n ∧ n < (r + pw j + pw j) * (r + pw j + pw j)) := by
        refine ⟨by omega, by omega, by rw [Int.add_emod_right]; exact hdv, by omega, by omega, ?_⟩
        rw [show r + pw j + pw j = r + pw (j + 1) by omega]; exact i6
      by_cases a1 : c / 18446744073709551616 < n / 18446744073709551616
      · simp only [lb98_0, loopN, loops, hd, hd98_0, G4, Try.f98, go_sem, Nat.reduceAdd, Nat.reduceSub, Nat.reduceMul, Nat.reduceEqDiff, Nat.reduceBEq, Nat.reduceLT, Nat.reduceLeDiff, Nat.reducePow, Int.reduceToNat, Int.reduceLT, Int.reduceLE, Int.reduceGT, Int.reduceGE, Int.reduceEq, Int.reduceNeg, Int.reduceAdd, Int.reduceSub, ↓reduceIte, reduceCtorEq, pw_half, c0, ho, hs, rm, a1]
        exact hn' _ hI (by simp) (by simp only [hd, hd98_0, go_sem, Nat.reduceAdd, Nat.reduceSub, Nat.reduceMul, Nat.reduceEqDiff, Nat.reduceBEq, Nat.reduceLT, Nat.reduceLeDiff, Nat.reducePow, Int.reduceToNat, Int.reduceLT, Int.reduceLE, Int.reduceGT, Int.reduceGE, Int.reduceEq, Int.reduceNeg, Int.reduceAdd, Int.reduceSub, ↓reduceIte, reduceCtorEq])
      · have a2 : c / 18446744073709551616 = n / 18446744073709551616 := by omega
        have a3 : c % 18446744073709551616 ≤ n % 18446744073709551616 := by omega
        have a4 : ¬ n / 18446744073709551616 < n / 18446744073709551616 := by omega
        simp only [lb98_0, loopN, loops, hd, hd98_0, G4, Try.f98, go_sem, Nat.reduceAdd, Nat.reduceSub, Nat.reduceMul, Nat.reduceEqDiff, Nat.reduceBEq, Nat.reduceLT, Nat.reduceLeDiff, Nat.reducePow, Int.reduceToNat, Int.reduceLT, Int.reduceLE, Int.reduceGT, Int.reduceGE, Int.reduceEq, Int.reduceNeg, Int.reduceAdd, Int.reduceSub, ↓reduceIte, reduceCtorEq, pw_half, c0, ho, hs, rm, a2, a3, a4]
        exact hn' _ hI (by simp) (by simp only [hd, hd98_0, go_sem, Nat.reduceAdd, Nat.reduceSub, Nat.reduceMul, Nat.reduceEqDiff, Nat.reduceBEq, Nat.reduceLT, Nat.reduceLeDiff, Nat.reducePow, Int.reduceToNat, Int.reduceLT, Int.reduceLE, Int.reduceGT, Int.reduceGE, Int.reduceEq, Int.reduceNeg, Int.reduceAdd, Int.reduceSub, ↓reduceIte, reduceCtorEq])
    · have hn' := hk (j, r)
      have hI : (j ≤ 63 ∧ 0 ≤ r ∧ r % pw j = 0 ∧ r + pw j ≤ 9223372036854775808 ∧ r * r ≤ n ∧ n < (r + pw j) * (r + pw j)) := ⟨by omega, i2, hdv, by omega, i5, by omega⟩
      have a1 : ¬ c / 18446744073709551616 < n / 18446744073709551616 := by omega
      by_cases a2 : c / 18446744073709551616 = n / 18446744073709551616
      · have a3 : ¬ c % 18446744073709551616 ≤ n % 18446744073709551616 := by omega
        have a4 : ¬ n / 18446744073709551616 < n / 18446744073709551616 := by omega
        simp only [lb98_0, loopN, loops, hd, hd98_0, G4, Try.f98, go_sem, Nat.reduceAdd, Nat.reduceSub, Nat.reduceMul, Nat.reduceEqDiff, Nat.reduceBEq, Nat.reduceLT, Nat.reduceLeDiff, Nat.reducePow, Int.reduceToNat, Int.reduceLT, Int.reduceLE, Int.reduceGT, Int.reduceGE, Int.reduceEq, Int.reduceNeg, Int.reduceAdd, Int.reduceSub, ↓reduceIte, reduceCtorEq, pw_half, c0, ho, hs, rm, a2, a3, a4]
        exact hn' _ hI (by simp) (by simp only [hd, hd98_0, go_sem, Nat.reduceAdd, Nat.reduceSub, Nat.reduceMul, Nat.reduceEqDiff, Nat.reduceBEq, Nat.reduceLT, Nat.reduceLeDiff, Nat.reducePow, Int.reduceToNat, Int.reduceLT, Int.reduceLE, Int.reduceGT, Int.reduceGE, Int.reduceEq, Int.reduceNeg, Int.reduceAdd, Int.reduceSub, ↓reduceIte, reduceCtorEq])
      · simp only [lb98_0, loopN, loops, hd, hd98_0, G4, Try.f98, go_sem, Nat.reduceAdd, Nat.reduceSub, Nat.reduceMul, Nat.reduceEqDiff, Nat.reduceBEq, Nat.reduceLT, Nat.reduceLeDiff, Nat.reducePow, Int.reduceToNat, Int.reduceLT, Int.reduceLE, Int.reduceGT, Int.reduceGE, Int.reduceEq, Int.reduceNeg, Int.reduceAdd, Int.reduceSub, ↓reduceIte, reduceCtorEq, pw_half, c0, ho, hs, rm, a1, a2]
        exact hn' _ hI (by simp) (by simp only [hd, hd98_0, go_sem, Nat.reduceAdd, Nat.reduceSub, Nat.reduceMul, Nat.reduceEqDiff, Nat.reduceBEq, Nat.reduceLT, Nat.reduceLeDiff, Nat.reducePow, Int.reduceToNat, Int.reduceLT, Int.reduceLE, Int.reduceGT, Int.reduceGE, Int.reduceEq, Int.reduceNeg, Int.reduceAdd, Int.reduceSub, ↓reduceIte, reduceCtorEq])
noncomputable def rootR (a b : Int) : Int := if a < 0 then 0 else if b < 0 then 0 else isqrt (a * b)
noncomputable def sSqrtMul : Ev.Spec := specC (c2 .i64) (fun x => I x.1 ∧ I x.2) fun x => [.int .i64 (rootR x.1 x.2)]
theorem sSqrtMul_run (a b : Int) (ha : I a) (hb : I b) : sSqrtMul.run [.int .i64 a, .int .i64 b] = some [.int .i64 (rootR a b)] := specC_run (c2 .i64) _ _ (a, b) ⟨ha, hb⟩
theorem pos_prod {a b : Int} (ha : I a) (hb : I b) (h1 : ¬ a < 0) (h2 : ¬ b < 0) : 0 ≤ a * b ∧ a * b < 85070591730234615865843651857942052864 := by
  obtain ⟨a0, a1⟩ := ha
  obtain ⟨b0, b1⟩ := hb
  have : a * b ≤ 9223372036854775807 * 9223372036854775807 := Int.mul_le_mul (by omega) (by omega) (by omega) (by omega)
  exact ⟨Int.mul_nonneg (by omega) (by omega), by omega⟩
theorem isqrt_bound {n : Int} (h0 : 0 ≤ n) (h : n < 85070591730234615865843651857942052864) : 0 ≤ isqrt n ∧ isqrt n < 9223372036854775808 := by
  obtain ⟨a, b, c⟩ := isqrt_spec h0
  exact ⟨a, sq_lt a (by omega) (by decide)⟩
theorem eSqrtMul (a b : Int) (ha : I a) (hb : I b) : evTop Try.prog G4 T4 64 1 98 [.int .i64 a, .int .i64 b] = some [.int .i64 (rootR a b)] := by
  unfold evTop
  simp only [List.map]
  rw [evF_s (fn := Try.f98) (msk := en98.ms) (hT := by rfl) (hb := by rfl)]
  by_cases h1 : a < 0
  · rw [rootR, if_pos h1]
    simp only [Try.f98, go_sem, Nat.reduceAdd, Nat.reduceSub, Nat.reduceMul, Nat.reduceEqDiff, Nat.reduceBEq, Nat.reduceLT, Nat.reduceLeDiff, Nat.reducePow, Int.reduceToNat, Int.reduceLT, Int.reduceLE, Int.reduceGT, Int.reduceGE, Int.reduceEq, Int.reduceNeg, Int.reduceAdd, Int.reduceSub, ↓reduceIte, reduceCtorEq, h1]
  by_cases h2 : b < 0
  · rw [rootR, if_neg h1, if_pos h2]
    simp only [Try.f98, go_sem, Nat.reduceAdd, Nat.reduceSub, Nat.reduceMul, Nat.reduceEqDiff, Nat.reduceBEq, Nat.reduceLT, Nat.reduceLeDiff, Nat.reducePow, Int.reduceToNat, Int.reduceLT, Int.reduceLE, Int.reduceGT, Int.reduceGE, Int.reduceEq, Int.reduceNeg, Int.reduceAdd, Int.reduceSub, ↓reduceIte, reduceCtorEq, h1, h2]
  rw [rootR, if_neg h1, if_neg h2]
  obtain ⟨n0, n1⟩ := pos_prod ha hb h1 h2
  obtain ⟨q0, q1⟩ := isqrt_bound n0 n1
  have ua : IntKind.u64.wrap a = a := wu_in (by omega) (by unfold I at ha; omega)
  have ub : IntKind.u64.wrap b = b := wu_in (by omega) (by unfold I at hb; omega)
  have rm := sMul_run a b ⟨by omega, by unfold I at ha; omega⟩ ⟨by omega, by unfold I at hb; omega⟩
  have wq : IntKind.i64.wrap (isqrt (a * b)) = isqrt (a * b) := wi_in (by omega) (by omega)
  simp only [Try.f98, G4, go_sem, Nat.reduceAdd, Nat.reduceSub, Nat.reduceMul, Nat.reduceEqDiff, Nat.reduceBEq, Nat.reduceLT, Nat.reduceLeDiff, Nat.reducePow, Int.reduceToNat, Int.reduceLT, Int.reduceLE, Int.reduceGT, Int.reduceGE, Int.reduceEq, Int.reduceNeg, Int.reduceAdd, Int.reduceSub, ↓reduceIte, reduceCtorEq, h1, h2, ua, ub, rm]
  conv in iter _ _ _ _ _ => change iter (evC _ G4 _ _ en98.ms _ _ lb98_0) (maskOf en98.ms 0) _ _ _
  have p63 : pw 63 = 9223372036854775808 := by decide
  rw [loop _ _ empty (a * b) n0 n1 _ (63, 0) _ ⟨by decide, by decide, by decide, by decide, by simpa using n0, by rw [p63]; simp; omega⟩ (by simp) (by simp only [hd, hd98_0, go_sem, Nat.reduceAdd, Nat.reduceSub, Nat.reduceMul, Nat.reduceEqDiff, Nat.reduceBEq, Nat.reduceLT, Nat.reduceLeDiff, Nat.reducePow, Int.reduceToNat, Int.reduceLT, Int.reduceLE, Int.reduceGT, Int.reduceGE, Int.reduceEq, Int.reduceNeg, Int.reduceAdd, Int.reduceSub, ↓reduceIte, reduceCtorEq, p63]; rfl)]
  simp only [hx98_0, go_sem, Nat.reduceAdd, Nat.reduceSub, Nat.reduceMul, Nat.reduceEqDiff, Nat.reduceBEq, Nat.reduceLT, Nat.reduceLeDiff, Nat.reducePow, Int.reduceToNat, Int.reduceLT, Int.reduceLE, Int.reduceGT, Int.reduceGE, Int.reduceEq, Int.reduceNeg, Int.reduceAdd, Int.reduceSub, ↓reduceIte, reduceCtorEq, wq]
theorem sSqrtMul_ok : SpecOk Try.prog 98 sSqrtMul := specC_ok mixed G4_ok T4_ok fun x hp => ⟨64, 1, eSqrtMul x.1 x.2 hp.1 hp.2⟩
#print axioms sSqrtMul_ok
end Go.Proofs.YtmhjmjodchbhlaaR.Num4Pull
end
section
set_option linter.unusedVariables false
set_option linter.unusedSimpArgs false
set_option maxRecDepth 100000
namespace Go.Proofs.YtmhjmjodchbhlaaR.Num5Pull
open Go.Ev Go.Ari Go.Proofs.YtmhjmjodchbhlaaR.FxPull Go.Proofs.YtmhjmjodchbhlaaR.Num1Pull Go.Proofs.YtmhjmjodchbhlaaR.Num4Pull
attribute [local go_sem] Ev.putR_s Ev.putR_0 Ev.thenO_s Ev.thenO_0 Ev.seqR_n Ev.seqR_e Ev.seqR_r Ev.seqR_0 Ev.blkR_e Ev.blkR_n Ev.blkR_r Ev.blkR_0 Ev.normR_s Ev.normR_0 Ev.outR_r Ev.outR_n Ev.outR_0 Ev.retS_s Ev.retS_0 Ev.pureO_s Ev.pureO_0 Ev.topR_0 Ev.topR_t Ev.topR_t0 Ev.oneL_0 Ev.oneL_s Ev.topR_d Ev.topR_nils Ev.topR_agg Ev.topR_rs Ev.evOp_move Ev.evOp_assign Ev.evOp_pick Ev.evOp_alloc Ev.evOp_box Ev.evOp_build Ev.evOp_buildSlice Ev.evOp_load Ev.evOp_store Ev.evOp_makeMap Ev.evOp_lookup Ev.evOp_mapUpdate Ev.evOp_insert Ev.evOp_nilCheck Ev.evOp_binOp Ev.evOp_unOp Ev.evOp_convert Ev.evOp_makeFunc Ev.evOp_makeSlice Ev.evOp_slice Ev.evOp_fieldAddr Ev.evOp_field Ev.evOp_indexAddr Ev.evOp_index Ev.evOp_extract Ev.evOp_call Ev.evOp_append Ev.evOp_len Ev.evOp_min Ev.evOp_max Ev.condR_b Ev.condR_t Ev.evOps_nil Ev.evOps_plain Ev.evOps_guard Ev.runG_eq Ev.skipG_eq Ev.condL_tt Ev.condL_ff Ev.condL_tf Ev.condL_ft Ev.condL_u Ev.condC_t Ev.condC_f Ev.evC_skip Ev.evC_ret Ev.evC_exit Ev.evC_label Ev.evC_region Ev.evC_draw Ev.evC_seq Ev.evC_cond Ev.evC_block Ev.evC_loop Ev.fin_d Ev.fin_nils Ev.fin_agg_ Ev.fin_rs Ev.finS_s Ev.mapO_fin Ev.upd_upd Ev.argv_d Ev.argv_nils Ev.argv_agg Ev.argv_rs Ev.argv_p Ev.appendTo_nils Ev.appendTo_rs Ev.consV_d Ev.consV_agg Ev.consV_p Ev.consV_rs Ev.consV_nils Ev.consV_fn Ev.consV_und Ev.consV_jk Ev.consV_grown Ev.topR_grown Ev.len_grown Ev.consV_mp Ev.sameK_i Ev.sameK_s Ev.mget_0 Ev.mget_hit Ev.mget_miss Ev.mput_0 Ev.mput_hit Ev.mput_miss Ev.apartAll Ev.apartL Ev.apartV Ev.freeAll Ev.sel Ev.keyOfV Ev.evLookup Ev.evPut Ev.hintOk Ev.keyOk Ev.consP Ev.lookV Ev.guardV Ev.dstAt Ev.evPure Ev.evStore Ev.evPureB Ev.evBin Ev.evBinO Ev.evNil Ev.isNilC Ev.evUn Ev.evConv Ev.evSlice Ev.optI Ev.lenV Ev.elemT Ev.foldI Ev.capsOk Ev.noTup Ev.nth Ev.setN Ev.pad Ev.V.get Ev.V.put Ev.putD Ev.hasT Ev.newBlk Ev.upd Ev.keq Ev.empty Ev.evCall Ev.V.args Ev.argP Ev.callOf Ev.evNilP Ev.isNilP Ev.look Ev.V.view.views Ev.V.view Ev.V.toD Ev.V.toD.V.toDs Ev.V.pure.pures Ev.V.pure Ev.D.flat.flats Ev.D.flat Ev.mkAgg Ev.allD Ev.aggParts Ev.setParts Ev.setElems Ev.getPath Ev.setPath Ev.subL Ev.eqD Ev.eqD.eqDs Ev.and2 Ev.strCut Ev.evalT Ev.constT Ev.evArgs Ev.mask Ev.maskOf Ev.tableOf Ev.compT Ev.resV Ev.retV Ev.mapO Ev.elemsOf Int.cast_ofNat_Int IntWalk.i64_in IntWalk.u64_in IntWalk.u8_in beq_self_eq_true Bool.true_beq Bool.false_beq Bool.and_true Bool.true_and Bool.false_and Bool.and_false Bool.and_self Bool.not_true Bool.not_false Bool.not_eq_true cond_true cond_false if_true if_false and_true true_and and_self decide_true decide_false Bool.or_true Bool.true_or Bool.or_false Bool.false_or List.isEmpty List.isEmpty_nil List.size_toArray List.map List.length_map List.length_cons List.length_nil Option.map Option.bind Option.getD Option.isSome List.replicate Bool.false_eq_true implies_true forall_const Array.toList Array.isEmpty List.append List.nil_append List.cons_append List.drop_zero List.take_length List.take_succ_cons List.take_zero List.take_nil List.getElem?_map List.getElem?_cons_zero List.getElem?_cons_succ List.getElem?_nil List.append_nil
attribute [local go_sem] FxPull.tk2 FxPull.ik2 FxPull.ek2 FxPull.zv2 FxPull.tk3 FxPull.ik3 FxPull.ek3 FxPull.zv3 FxPull.tk4 FxPull.ub4 FxPull.zv4 FxPull.tk5 FxPull.ik5 FxPull.zv5 FxPull.tk9 FxPull.ek9 FxPull.tk23 FxPull.ct23 FxPull.ek23 FxPull.zv23 FxPull.tk27 FxPull.ik27 FxPull.zv27 FxPull.tk37 FxPull.ik37 FxPull.zv37 FxPull.by37 FxPull.so37 FxPull.tk39 FxPull.ct39 FxPull.zv39 FxPull.by39 FxPull.so39 FxPull.tk43 FxPull.zv43 FxPull.tk44 FxPull.zv44 FxPull.tk45 FxPull.zv45 FxPull.tk47 FxPull.ct47 FxPull.zv47 FxPull.tk48 FxPull.ik48 FxPull.zv48 FxPull.tk76 FxPull.ct76 FxPull.zv76 FxPull.by76 FxPull.so76 FxPull.tk77 FxPull.zv77 FxPull.tk79 FxPull.ct79 FxPull.zv79 FxPull.by79 FxPull.so79 FxPull.tk88 FxPull.zv88 FxPull.tk92 FxPull.ik92 FxPull.zv92 FxPull.tk135 FxPull.ik135 FxPull.zv135 FxPull.tk136 FxPull.mt136 FxPull.sm136 FxPull.zw4 FxPull.zv136 FxPull.tk145 FxPull.zv145 FxPull.tk148 FxPull.ct148 FxPull.zv148 FxPull.tk150 FxPull.ct150 FxPull.zv150 FxPull.tk161 FxPull.ct161 FxPull.zv161 FxPull.tk203 FxPull.dw3_1 FxPull.nc3_1 FxPull.mk3_1000000 FxPull.mk4_1000000 FxPull.mk14_1000000 FxPull.dw15_7 FxPull.nc15_7 FxPull.mk15_1000000 FxPull.dw16_7 FxPull.nc16_7 FxPull.mk16_1000000 FxPull.mk17_1000000 FxPull.mk18_1000000 FxPull.mk30_1000000 FxPull.mk40_0 FxPull.mk40_2 FxPull.mk40_4 FxPull.mk40_1000001 FxPull.mk40_1000002 FxPull.mk40_1000003 FxPull.mk40_1000004 FxPull.mk40_1000005 FxPull.mk40_1000006 FxPull.mk40_1000007 FxPull.mk40_1000000 FxPull.mk46_0 FxPull.mk46_1000001 FxPull.mk46_1000002 FxPull.mk46_1000000 FxPull.mk47_1000000 FxPull.mk48_1000000 FxPull.mk49_1000000 FxPull.mk50_1000000 FxPull.mk51_0 FxPull.mk51_1000001 FxPull.mk51_1000002 FxPull.mk51_1000000 FxPull.dw52_2 FxPull.nc52_2 FxPull.mk52_1000000 FxPull.mk53_1000000 FxPull.mk54_1000000 FxPull.mk55_1000001 FxPull.mk55_1000000 FxPull.mk64_1000000 FxPull.mk78_0 FxPull.mk78_1000001 FxPull.mk78_1000002 FxPull.mk78_1000000 FxPull.mk87_1000001 FxPull.mk87_1000000 FxPull.mk88_1000001 FxPull.mk88_1000000 FxPull.mk89_0 FxPull.mk89_1000001 FxPull.mk89_1000002 FxPull.mk89_1000000 FxPull.mk93_1000001 FxPull.mk93_1000000 FxPull.mk95_1000000 FxPull.mk98_0 FxPull.mk98_1000001 FxPull.mk98_1000002 FxPull.mk98_1000000 FxPull.mk99_1000000 FxPull.mk100_1000001 FxPull.mk100_1000000 FxPull.mk101_1000000 FxPull.mk102_1000000 FxPull.mk103_0 FxPull.mk103_1000001 FxPull.mk103_1000002 FxPull.mk103_1000000 FxPull.mk127_1000000 FxPull.mk128_1000000 FxPull.mk131_0 FxPull.mk131_1000001 FxPull.mk131_1000002 FxPull.mk131_1000000 FxPull.mk134_1000000 FxPull.mk135_1000000 FxPull.dw136_6 FxPull.nc136_6 FxPull.mk136_0 FxPull.mk136_2 FxPull.mk136_1000001 FxPull.mk136_1000002 FxPull.mk136_1000003 FxPull.mk136_1000004 FxPull.mk136_1000000 FxPull.mk152_1000000
noncomputable def T5 : Table := tableOf [(103, en103)]
theorem T5_ok : TableOk Try.prog (G4.map (·.1)) T5 := (table_cons Try.func103 (by kernel_rfl) (by kernel_rfl) table_nil)
def capq (n d : Int) : Int := if n / d < 9223372036854775808 then n / d else 9223372036854775807
theorem capq_eq {n d q : Int} (hd : 0 < d) (h0 : 0 ≤ q) (h1 : q * d ≤ n) (h2 : q + 1 ≤ 9223372036854775808) (h3 : n < (q + 1) * d ∨ q + 1 = 9223372036854775808) : capq n d = q := by
  have a := (Int.le_ediv_iff_mul_le hd).2 h1
  unfold capq
  rcases h3 with h3 | h3
  · have b := Int.ediv_lt_of_lt_mul hd h3
    rw [if_pos (by omega)]; omega
  · split <;> omega
def hd5 (n d : Int) (x : Nat × Int) : List V := hd103_0 (.d (.int .i64 d)) (u (n / 18446744073709551616)) (u (n % 18446744073709551616)) (u x.2) (.d (.int .i64 ((x.1 : Int) - 1)))
theorem loop5 (L : Nat) (call : Caller) (st : Store) (n d : Int) (hn0 : 0 ≤ n) (hn : n < 85070591730234615865843651857942052864) (hd : 0 < d) (hd1 : d < 9223372036854775808) :
    ∀ (m : Nat) (x : Nat × Int) (env : List V), (x.1 ≤ 63 ∧ 0 ≤ x.2 ∧ x.2 % pw x.1 = 0 ∧ x.2 + pw x.1 ≤ 9223372036854775808 ∧ x.2 * d ≤ n ∧ (n < (x.2 + pw x.1) * d ∨ x.2 + pw x.1 = 9223372036854775808)) → x.1 < m → mask (maskOf en103.ms 0) env = hd5 n d x →
      iter (evC Try.prog G4 call L en103.ms 0 0 lb103_0) (maskOf en103.ms 0) m env st = some (.exit 0, hx103_0 (u (capq n d)), st) := by
  refine iter_wf _ _ _ (hd5 n d) (fun _ => st) (fun _ => some (.exit 0, hx103_0 (u (capq n d)), st)) (fun x => x.1) ?_
  rintro ⟨j, r⟩ ⟨i1, i2, i3, i4, i5, i6⟩ k hk
  simp only at i1 i2 i3 i4 i5 i6
  cases j with
  | zero =>
    have e0 : pw 0 = 1 := rfl
    rw [e0] at i6 i4
    have er : capq n d = r := capq_eq hd i2 i5 i4 i6
    simp only [lb103_0, loopN, loops, hd5, hd103_0, hx103_0, Try.f103, go_sem, Nat.reduceAdd, Nat.reduceSub, Nat.reduceMul, Nat.reduceEqDiff, Nat.reduceBEq, Nat.reduceLT, Nat.reduceLeDiff, Nat.reducePow, Int.reduceToNat, Int.reduceLT, Int.reduceLE, Int.reduceGT, Int.reduceGE, Int.reduceEq, Int.reduceNeg, Int.reduceAdd, Int.reduceSub, ↓reduceIte, reduceCtorEq, er, show ¬ (((0 : Nat) : Int) - 1 ≥ 0) by decide]
  | succ j =>
    have p0 := pw_pos j
    have p1 := pw_succ j
    have b0 : ((j + 1 : Nat) : Int) - 1 = (j : Nat) := by omega
    have b1 : ((j : Nat) : Int) ≥ 0 := by omega
    have b2 : ¬ ((j : Nat) : Int) < 0 := by omega
    have b3 : IntKind.i64.wrap ((j : Nat) - 1 : Int) = (j : Nat) - 1 := wi_in (by omega) (by omega)
    have hs : shlI .u64 1 (j : Nat) = pw j := by rw [shl_lit .u64 1 j (by show j ≤ 64; omega), Int.one_mul]; exact wu_in (by show 0 ≤ pw j; omega) (by show pw j < _; omega)
    have ho : bitsI .or .u64 r (pw j) = r + pw j := or_add (p := pw (j + 1)) (j + 1) rfl i2 (by omega) i3 (by omega) (by omega) (by omega)
    have ud : IntKind.u64.wrap d = d := wu_in (by omega) (by omega)
    have rm := sMul_run (r + pw j) d ⟨by omega, by omega⟩ ⟨by omega, by omega⟩
    generalize hc : (r + pw j) * d = c at *
    have hdv : r % pw j = 0 := by
      have e := Int.emod_emod_of_dvd r (show pw j ∣ pw (j + 1) from ⟨2, p1⟩)
      rw [← e, i3]; simp
    by_cases ht : c ≤ n
    · have hn' := hk (j, r + pw j)
      have hI : (j ≤ 63 ∧ 0 ≤ r + pw j ∧ (r + pw j) % pw j = 0 ∧ (r + pw j) + pw j ≤ 9223372036854775808 ∧ (r + pw j) * d ≤ n ∧ (n < (r + pw j + pw j) * d ∨ r + pw j + pw j = 9223372036854775808)) := by
        refine ⟨by omega, by omega, by rw [Int.add_emod_right]; exact hdv, by omega, by omega, ?_⟩
        rw [show r + pw j + pw j = r + pw (j + 1) by omega]; exact i6
      by_cases a1 : c / 18446744073709551616 < n / 18446744073709551616
      · simp only [lb103_0, loopN, loops, hd5, hd103_0, G4, Try.f103, go_sem, Nat.reduceAdd, Nat.reduceSub, Nat.reduceMul, Nat.reduceEqDiff, Nat.reduceBEq, Nat.reduceLT, Nat.reduceLeDiff, Nat.reducePow, Int.reduceToNat, Int.reduceLT, Int.reduceLE, Int.reduceGT, Int.reduceGE, Int.reduceEq, Int.reduceNeg, Int.reduceAdd, Int.reduceSub, ↓reduceIte, reduceCtorEq, b0, b1, b2, b3, ud, hs, ho, rm, a1]
        exact hn' _ hI (by simp) (by simp only [hd5, hd103_0, go_sem, Nat.reduceAdd, Nat.reduceSub, Nat.reduceMul, Nat.reduceEqDiff, Nat.reduceBEq, Nat.reduceLT, Nat.reduceLeDiff, Nat.reducePow, Int.reduceToNat, Int.reduceLT, Int.reduceLE, Int.reduceGT, Int.reduceGE, Int.reduceEq, Int.reduceNeg, Int.reduceAdd, Int.reduceSub, ↓reduceIte, reduceCtorEq])
      · have a2 : c / 18446744073709551616 = n / 18446744073709551616 := by omega
        have a3 : c % 18446744073709551616 ≤ n % 18446744073709551616 := by omega
        have a4 : ¬ n / 18446744073709551616 < n / 18446744073709551616 := by omega
        simp only [lb103_0, loopN, loops, hd5, hd103_0, G4, Try.f103, go_sem, Nat.reduceAdd, Nat.reduceSub, Nat.reduceMul, Nat.reduceEqDiff, Nat.reduceBEq, Nat.reduceLT, Nat.reduceLeDiff, Nat.reducePow, Int.reduceToNat, Int.reduceLT, Int.reduceLE, Int.reduceGT, Int.reduceGE, Int.reduceEq, Int.reduceNeg, Int.reduceAdd, Int.reduceSub, ↓reduceIte, reduceCtorEq, b0, b1, b2, b3, ud, hs, ho, rm, a2, a3, a4]
        exact hn' _ hI (by simp) (by simp only [hd5, hd103_0, go_sem, Nat.reduceAdd, Nat.reduceSub, Nat.reduceMul, Nat.reduceEqDiff, Nat.reduceBEq, Nat.reduceLT, Nat.reduceLeDiff, Nat.reducePow, Int.reduceToNat, Int.reduceLT, Int.reduceLE, Int.reduceGT, Int.reduceGE, Int.reduceEq, Int.reduceNeg, Int.reduceAdd, Int.reduceSub, ↓reduceIte, reduceCtorEq])
    · have hn' := hk (j, r)
      have hI : (j ≤ 63 ∧ 0 ≤ r ∧ r % pw j = 0 ∧ r + pw j ≤ 9223372036854775808 ∧ r * d ≤ n ∧ (n < (r + pw j) * d ∨ r + pw j = 9223372036854775808)) := ⟨by omega, i2, hdv, by omega, i5, by omega⟩
      have a1 : ¬ c / 18446744073709551616 < n / 18446744073709551616 := by omega
      by_cases a2 : c / 18446744073709551616 = n / 18446744073709551616
      · have a3 : ¬ c % 18446744073709551616 ≤ n % 18446744073709551616 := by omega
        have a4 : ¬ n / 18446744073709551616 < n / 18446744073709551616 := by omega
        simp only [lb103_0, loopN, loops, hd5, hd103_0, G4, Try.f103, go_sem, Nat.reduceAdd, Nat.reduceSub, Nat.reduceMul, Nat.reduceEqDiff, Nat.reduceBEq, Nat.reduceLT, Nat.reduceLeDiff, Nat.reducePow, Int.reduceToNat, Int.reduceLT, Int.reduceLE, Int.reduceGT, Int.reduceGE, Int.reduceEq, Int.reduceNeg, Int.reduceAdd, Int.reduceSub, ↓reduceIte, reduceCtorEq, b0, b1, b2, b3, ud, hs, ho, rm, a2, a3, a4]
        exact hn' _ hI (by simp) (by simp only [hd5, hd103_0, go_sem, Nat.reduceAdd, Nat.reduceSub, Nat.reduceMul, Nat.reduceEqDiff, Nat.reduceBEq, Nat.reduceLT, Nat.reduceLeDiff, Nat.reducePow, Int.reduceToNat, Int.reduceLT, Int.reduceLE, Int.reduceGT, Int.reduceGE, Int.reduceEq, Int.reduceNeg, Int.reduceAdd, Int.reduceSub, ↓reduceIte, reduceCtorEq])
      · simp only [lb103_0, loopN, loops, hd5, hd103_0, G4, Try.f103, go_sem, Nat.reduceAdd, Nat.reduceSub, Nat.reduceMul, Nat.reduceEqDiff, Nat.reduceBEq, Nat.reduceLT, Nat.reduceLeDiff, Nat.reducePow, Int.reduceToNat, Int.reduceLT, Int.reduceLE, Int.reduceGT, Int.reduceGE, Int.reduceEq, Int.reduceNeg, Int.reduceAdd, Int.reduceSub, ↓reduceIte, reduceCtorEq, b0, b1, b2, b3, ud, hs, ho, rm, a1, a2]
        exact hn' _ hI (by simp) (by simp only [hd5, hd103_0, go_sem, Nat.reduceAdd, Nat.reduceSub, Nat.reduceMul, Nat.reduceEqDiff, Nat.reduceBEq, Nat.reduceLT, Nat.reduceLeDiff, Nat.reducePow, Int.reduceToNat, Int.reduceLT, Int.reduceLE, Int.reduceGT, Int.reduceGE, Int.reduceEq, Int.reduceNeg, Int.reduceAdd, Int.reduceSub, ↓reduceIte, reduceCtorEq])
def P3 (a b d : Int) : Prop := 0 ≤ a ∧ a < 9223372036854775808 ∧ 0 ≤ b ∧ b < 9223372036854775808 ∧ 0 < d ∧ d < 9223372036854775808
noncomputable def sQuo : Ev.Spec := specC (c3 .i64) (fun x => P3 x.1 x.2.1 x.2.2) fun x => [.int .i64 (capq (x.1 * x.2.1) x.2.2)]
theorem sQuo_run (a b d : Int) (h : P3 a b d) : sQuo.run [.int .i64 a, .int .i64 b, .int .i64 d] = some [.int .i64 (capq (a * b) d)] := specC_run (c3 .i64) _ _ (a, b, d) h
theorem capq_bound {n d : Int} (h0 : 0 ≤ n) (hd : 0 < d) : 0 ≤ capq n d ∧ capq n d < 9223372036854775808 := by
  have := Int.ediv_nonneg h0 (show 0 ≤ d by omega)
  unfold capq; split <;> omega
theorem eQuo (a b d : Int) (h : P3 a b d) : evTop Try.prog G4 T5 64 1 103 [.int .i64 a, .int .i64 b, .int .i64 d] = some [.int .i64 (capq (a * b) d)] := by
  unfold evTop
  simp only [List.map]
  rw [evF_s (fn := Try.f103) (msk := en103.ms) (hT := by rfl) (hb := by rfl)]
  obtain ⟨a0, a1, b0, b1, d0, d1⟩ := h
  obtain ⟨n0, n1⟩ := pos_prod (a := a) (b := b) ⟨by omega, a1⟩ ⟨by omega, b1⟩ (by omega) (by omega)
  obtain ⟨q0, q1⟩ := capq_bound n0 d0
  have ua : IntKind.u64.wrap a = a := wu_in (by omega) (by omega)
  have ub : IntKind.u64.wrap b = b := wu_in (by omega) (by omega)
  have rm := sMul_run a b ⟨by omega, by omega⟩ ⟨by omega, by omega⟩
  have wq : IntKind.i64.wrap (capq (a * b) d) = capq (a * b) d := wi_in (by omega) (by omega)
  simp only [Try.f103, G4, go_sem, Nat.reduceAdd, Nat.reduceSub, Nat.reduceMul, Nat.reduceEqDiff, Nat.reduceBEq, Nat.reduceLT, Nat.reduceLeDiff, Nat.reducePow, Int.reduceToNat, Int.reduceLT, Int.reduceLE, Int.reduceGT, Int.reduceGE, Int.reduceEq, Int.reduceNeg, Int.reduceAdd, Int.reduceSub, ↓reduceIte, reduceCtorEq, ua, ub, rm]
  conv in iter _ _ _ _ _ => change iter (evC _ G4 _ _ en103.ms _ _ lb103_0) (maskOf en103.ms 0) _ _ _
  have p63 : pw 63 = 9223372036854775808 := by decide
  rw [loop5 _ _ empty (a * b) d n0 n1 d0 d1 _ (63, 0) _ ⟨by decide, by decide, by decide, by decide, by simpa using n0, .inr (by decide)⟩ (by simp) (by simp only [hd5, hd103_0, go_sem, Nat.reduceAdd, Nat.reduceSub, Nat.reduceMul, Nat.reduceEqDiff, Nat.reduceBEq, Nat.reduceLT, Nat.reduceLeDiff, Nat.reducePow, Int.reduceToNat, Int.reduceLT, Int.reduceLE, Int.reduceGT, Int.reduceGE, Int.reduceEq, Int.reduceNeg, Int.reduceAdd, Int.reduceSub, ↓reduceIte, reduceCtorEq, p63])]
  simp only [hx103_0, go_sem, Nat.reduceAdd, Nat.reduceSub, Nat.reduceMul, Nat.reduceEqDiff, Nat.reduceBEq, Nat.reduceLT, Nat.reduceLeDiff, Nat.reducePow, Int.reduceToNat, Int.reduceLT, Int.reduceLE, Int.reduceGT, Int.reduceGE, Int.reduceEq, Int.reduceNeg, Int.reduceAdd, Int.reduceSub, ↓reduceIte, reduceCtorEq, wq]
theorem sQuo_ok : SpecOk Try.prog 103 sQuo := specC_ok mixed G4_ok T5_ok fun x hp => ⟨64, 1, eQuo x.1 x.2.1 x.2.2 hp⟩
/-! ### Down and Up, where the quotient fits -/
noncomputable def G5 : Specs := [(103, sQuo), (101, sMul)]
noncomputable def T5b : Table := tableOf [(54, en54), (102, en102)]
theorem G5_ok : ∀ g s, Ev.look G5 g = some s → SpecOk Try.prog g s := specs_cons sQuo_ok (specs_cons sMul_ok specs_nil)
theorem T5b_ok : TableOk Try.prog (G5.map (·.1)) T5b := (table_cons Try.func54 (by kernel_rfl) (by kernel_rfl) (table_cons Try.func102 (by kernel_rfl) (by kernel_rfl) table_nil))
/-- The quotient rounded up. -/
def cdiv (n d : Int) : Int := -((-n) / d)
theorem cdiv_eq {n d : Int} (hd : 0 < d) : cdiv n d = if n % d = 0 then n / d else n / d + 1 := by
  unfold cdiv
  have h1 := Int.mul_ediv_add_emod n d
  have h2 := Int.emod_nonneg n (show d ≠ 0 by omega)
  have h3 := Int.emod_lt_of_pos n hd
  split
  · rename_i h
    rw [h] at h1
    have e : -n = d * (-(n / d)) := by rw [Int.mul_neg]; omega
    rw [e, Int.mul_ediv_cancel_left _ (by omega)]; omega
  · rename_i h
    have e : -n = (d - n % d) + d * (-(n / d) - 1) := by rw [Int.mul_sub, Int.mul_neg, Int.mul_one]; omega
    rw [e, Int.add_mul_ediv_left _ _ (by omega), Int.ediv_eq_zero_of_lt (by omega) (by omega)]
    omega
theorem capq_fit {n d : Int} (h : n / d < 9223372036854775808) : capq n d = n / d := by unfold capq; rw [if_pos h]
theorem quo_eq_iff {n d : Int} (h0 : 0 ≤ n) (hd : 0 < d) : n / d * d = n ↔ n % d = 0 := by
  have h1 := Int.mul_ediv_add_emod n d
  rw [Int.mul_comm] at h1
  omega
/-- A product of one sign, quotients that fit. -/
def Fit (a b d : Int) : Prop := -9223372036854775808 < a ∧ a < 9223372036854775808 ∧ 0 ≤ b ∧ b < 9223372036854775808 ∧ 0 < d ∧ d < 9223372036854775808 ∧ -9223372036854775807 < a * b / d ∧ a * b / d < 9223372036854775807
theorem eUp (L c lv : Nat) (st : Store) (a b d : Int) (h : P3 a b d) (hq : a * b / d < 9223372036854775807) : evF Try.prog G5 T5b L (c + 1) 102 [.d (.int .i64 a), .d (.int .i64 b), .d (.int .i64 d)] lv st = some (.d (.int .i64 (cdiv (a * b) d)), st) := by
  rw [evF_s (fn := Try.f102) (msk := en102.ms) (hT := by rfl) (hb := by rfl)]
  have h' := h
  obtain ⟨a0, a1, b0, b1, d0, d1⟩ := h'
  obtain ⟨n0, n1⟩ := pos_prod (a := a) (b := b) ⟨by omega, a1⟩ ⟨by omega, b1⟩ (by omega) (by omega)
  have rq := sQuo_run a b d h
  rw [capq_fit (by omega)] at rq
  have rm := sMul_run a b ⟨by omega, by omega⟩ ⟨by omega, by omega⟩
  have q0 := Int.ediv_nonneg n0 (show 0 ≤ d by omega)
  have rm2 := sMul_run (a * b / d) d ⟨by omega, by omega⟩ ⟨by omega, by omega⟩
  have ua : IntKind.u64.wrap a = a := wu_in (by omega) (by omega)
  have ub : IntKind.u64.wrap b = b := wu_in (by omega) (by omega)
  have ud : IntKind.u64.wrap d = d := wu_in (by omega) (by omega)
  have uq : IntKind.u64.wrap (a * b / d) = a * b / d := wu_in (by omega) (by omega)
  have w1 : IntKind.i64.wrap (a * b / d + 1) = a * b / d + 1 := wi_in (by omega) (by omega)
  have hneg : ¬ a < 0 := by omega
  have ce := cdiv_eq (n := a * b) d0
  have qe := quo_eq_iff n0 d0
  generalize a * b / d * d = c at *
  generalize a * b = n at *
  by_cases e : n % d = 0
  · rw [if_pos e] at ce
    have e2 := qe.2 e
    subst e2
    simp only [Try.f102, G5, go_sem, Nat.reduceAdd, Nat.reduceSub, Nat.reduceMul, Nat.reduceEqDiff, Nat.reduceBEq, Nat.reduceLT, Nat.reduceLeDiff, Nat.reducePow, Int.reduceToNat, Int.reduceLT, Int.reduceLE, Int.reduceGT, Int.reduceGE, Int.reduceEq, Int.reduceNeg, Int.reduceAdd, Int.reduceSub, ↓reduceIte, reduceCtorEq, hneg, rq, ua, ub, rm, ud, uq, rm2, ce]
  · rw [if_neg e] at ce
    have e2 : ¬ c = n := fun q => e (qe.1 q)
    by_cases e3 : c / 18446744073709551616 = n / 18446744073709551616
    · have e4 : ¬ c % 18446744073709551616 = n % 18446744073709551616 := by omega
      simp only [Try.f102, G5, go_sem, Nat.reduceAdd, Nat.reduceSub, Nat.reduceMul, Nat.reduceEqDiff, Nat.reduceBEq, Nat.reduceLT, Nat.reduceLeDiff, Nat.reducePow, Int.reduceToNat, Int.reduceLT, Int.reduceLE, Int.reduceGT, Int.reduceGE, Int.reduceEq, Int.reduceNeg, Int.reduceAdd, Int.reduceSub, ↓reduceIte, reduceCtorEq, hneg, rq, ua, ub, rm, ud, uq, rm2, e3, e4, w1, ce]
    · simp only [Try.f102, G5, go_sem, Nat.reduceAdd, Nat.reduceSub, Nat.reduceMul, Nat.reduceEqDiff, Nat.reduceBEq, Nat.reduceLT, Nat.reduceLeDiff, Nat.reducePow, Int.reduceToNat, Int.reduceLT, Int.reduceLE, Int.reduceGT, Int.reduceGE, Int.reduceEq, Int.reduceNeg, Int.reduceAdd, Int.reduceSub, ↓reduceIte, reduceCtorEq, hneg, rq, ua, ub, rm, ud, uq, rm2, e3, w1, ce]
noncomputable def sDown : Ev.Spec := specC (c3 .i64) (fun x => Fit x.1 x.2.1 x.2.2) fun x => [.int .i64 (x.1 * x.2.1 / x.2.2)]
theorem sDown_run (a b d : Int) (h : Fit a b d) : sDown.run [.int .i64 a, .int .i64 b, .int .i64 d] = some [.int .i64 (a * b / d)] := specC_run (c3 .i64) _ _ (a, b, d) h
noncomputable def sUp : Ev.Spec := specC (c3 .i64) (fun x => Fit x.1 x.2.1 x.2.2) fun x => [.int .i64 (cdiv (x.1 * x.2.1) x.2.2)]
theorem sUp_run (a b d : Int) (h : Fit a b d) : sUp.run [.int .i64 a, .int .i64 b, .int .i64 d] = some [.int .i64 (cdiv (a * b) d)] := specC_run (c3 .i64) _ _ (a, b, d) h
theorem eDown0 (L c lv : Nat) (st : Store) (a b d : Int) (h : P3 a b d) (hq : a * b / d < 9223372036854775808) : evF Try.prog G5 T5b L (c + 1) 54 [.d (.int .i64 a), .d (.int .i64 b), .d (.int .i64 d)] lv st = some (.d (.int .i64 (a * b / d)), st) := by
  rw [evF_s (fn := Try.f54) (msk := en54.ms) (hT := by rfl) (hb := by rfl)]
  have rq := sQuo_run a b d h
  rw [capq_fit hq] at rq
  have hneg : ¬ a < 0 := by have := h.1; omega
  simp only [Try.f54, G5, go_sem, Nat.reduceAdd, Nat.reduceSub, Nat.reduceMul, Nat.reduceEqDiff, Nat.reduceBEq, Nat.reduceLT, Nat.reduceLeDiff, Nat.reducePow, Int.reduceToNat, Int.reduceLT, Int.reduceLE, Int.reduceGT, Int.reduceGE, Int.reduceEq, Int.reduceNeg, Int.reduceAdd, Int.reduceSub, ↓reduceIte, reduceCtorEq, hneg, rq]
theorem eDown (a b d : Int) (h : Fit a b d) : evTop Try.prog G5 T5b 0 2 54 [.int .i64 a, .int .i64 b, .int .i64 d] = some [.int .i64 (a * b / d)] := by
  unfold evTop
  simp only [List.map]
  obtain ⟨a0, a1, b0, b1, d0, d1, f0, f1⟩ := h
  by_cases hn : a < 0
  · rw [evF_s (fn := Try.f54) (msk := en54.ms) (hT := by rfl) (hb := by rfl)]
    have w0 : IntKind.i64.wrap (0 - a) = -a := by rw [wi]; omega
    have hc : cdiv (-a * b) d = -(a * b / d) := by unfold cdiv; rw [Int.neg_mul, Int.neg_neg]
    have w1 : IntKind.i64.wrap (0 - -(a * b / d)) = a * b / d := by rw [wi]; omega
    have hp : P3 (-a) b d := ⟨by omega, by omega, b0, b1, d0, d1⟩
    have hle : -a * b / d < 9223372036854775807 := by
      have e1 := cdiv_eq (n := -a * b) d0
      have e2 : 0 ≤ -a * b / d := Int.ediv_nonneg (Int.mul_nonneg (by omega) b0) (by omega)
      split at e1 <;> omega
    have ru := fun c lv st => eUp 0 c lv st (-a) b d hp hle
    rw [hc] at ru
    unfold G5 at ru
    simp only [Try.f54, G5, go_sem, Nat.reduceAdd, Nat.reduceSub, Nat.reduceMul, Nat.reduceEqDiff, Nat.reduceBEq, Nat.reduceLT, Nat.reduceLeDiff, Nat.reducePow, Int.reduceToNat, Int.reduceLT, Int.reduceLE, Int.reduceGT, Int.reduceGE, Int.reduceEq, Int.reduceNeg, Int.reduceAdd, Int.reduceSub, ↓reduceIte, reduceCtorEq, hn, w0, ru, w1]
  · rw [eDown0 0 1 0 empty a b d ⟨by omega, a1, b0, b1, d0, d1⟩ (by omega)]
    simp only [go_sem, Nat.reduceAdd, Nat.reduceSub, Nat.reduceMul, Nat.reduceEqDiff, Nat.reduceBEq, Nat.reduceLT, Nat.reduceLeDiff, Nat.reducePow, Int.reduceToNat, Int.reduceLT, Int.reduceLE, Int.reduceGT, Int.reduceGE, Int.reduceEq, Int.reduceNeg, Int.reduceAdd, Int.reduceSub, ↓reduceIte, reduceCtorEq]
theorem sDown_ok : SpecOk Try.prog 54 sDown := specC_ok mixed G5_ok T5b_ok fun x hp => ⟨0, 2, eDown x.1 x.2.1 x.2.2 hp⟩
theorem eUpT (a b d : Int) (h : Fit a b d) : evTop Try.prog G5 T5b 0 2 102 [.int .i64 a, .int .i64 b, .int .i64 d] = some [.int .i64 (cdiv (a * b) d)] := by
  unfold evTop
  simp only [List.map]
  obtain ⟨a0, a1, b0, b1, d0, d1, f0, f1⟩ := h
  by_cases hn : a < 0
  · rw [evF_s (fn := Try.f102) (msk := en102.ms) (hT := by rfl) (hb := by rfl)]
    have w0 : IntKind.i64.wrap (0 - a) = -a := by rw [wi]; omega
    have hp : P3 (-a) b d := ⟨by omega, by omega, b0, b1, d0, d1⟩
    have hle : -a * b / d < 9223372036854775808 := by
      have e1 := cdiv_eq (n := -a * b) d0
      have e0 : cdiv (-a * b) d = -(a * b / d) := by unfold cdiv; rw [Int.neg_mul, Int.neg_neg]
      have e2 : 0 ≤ -a * b / d := Int.ediv_nonneg (Int.mul_nonneg (by omega) b0) (by omega)
      split at e1 <;> omega
    have e2 : 0 ≤ -a * b / d := Int.ediv_nonneg (Int.mul_nonneg (by omega) b0) (by omega)
    have rd := fun c lv st => eDown0 0 c lv st (-a) b d hp hle
    have w1 : IntKind.i64.wrap (0 - -a * b / d) = cdiv (a * b) d := by
      unfold cdiv; rw [Int.neg_mul] at hle e2 ⊢; rw [wi]; omega
    unfold G5 at rd
    simp only [Try.f102, G5, go_sem, Nat.reduceAdd, Nat.reduceSub, Nat.reduceMul, Nat.reduceEqDiff, Nat.reduceBEq, Nat.reduceLT, Nat.reduceLeDiff, Nat.reducePow, Int.reduceToNat, Int.reduceLT, Int.reduceLE, Int.reduceGT, Int.reduceGE, Int.reduceEq, Int.reduceNeg, Int.reduceAdd, Int.reduceSub, ↓reduceIte, reduceCtorEq, hn, w0, rd, w1]
  · rw [eUp 0 1 0 empty a b d ⟨by omega, a1, b0, b1, d0, d1⟩ (by omega)]
    simp only [go_sem, Nat.reduceAdd, Nat.reduceSub, Nat.reduceMul, Nat.reduceEqDiff, Nat.reduceBEq, Nat.reduceLT, Nat.reduceLeDiff, Nat.reducePow, Int.reduceToNat, Int.reduceLT, Int.reduceLE, Int.reduceGT, Int.reduceGE, Int.reduceEq, Int.reduceNeg, Int.reduceAdd, Int.reduceSub, ↓reduceIte, reduceCtorEq]
theorem sUp_ok : SpecOk Try.prog 102 sUp := specC_ok mixed G5_ok T5b_ok fun x hp => ⟨0, 2, eUpT x.1 x.2.1 x.2.2 hp⟩
#print axioms sDown_ok
#print axioms sUp_ok
end Go.Proofs.YtmhjmjodchbhlaaR.Num5Pull
end
section
set_option linter.unusedVariables false
set_option linter.unusedSimpArgs false
set_option maxRecDepth 100000
namespace Go.Proofs.YtmhjmjodchbhlaaR.Num6Pull
open Go.Ev Go.Ari Go.Proofs.YtmhjmjodchbhlaaR.FxPull Go.Proofs.YtmhjmjodchbhlaaR.Num1Pull Go.Proofs.YtmhjmjodchbhlaaR.Num4Pull
attribute [local go_sem] Ev.putR_s Ev.putR_0 Ev.thenO_s Ev.thenO_0 Ev.seqR_n Ev.seqR_e Ev.seqR_r Ev.seqR_0 Ev.blkR_e Ev.blkR_n Ev.blkR_r Ev.blkR_0 Ev.normR_s Ev.normR_0 Ev.outR_r Ev.outR_n Ev.outR_0 Ev.retS_s Ev.retS_0 Ev.pureO_s Ev.pureO_0 Ev.topR_0 Ev.topR_t Ev.topR_t0 Ev.oneL_0 Ev.oneL_s Ev.topR_d Ev.topR_nils Ev.topR_agg Ev.topR_rs Ev.evOp_move Ev.evOp_assign Ev.evOp_pick Ev.evOp_alloc Ev.evOp_box Ev.evOp_build Ev.evOp_buildSlice Ev.evOp_load Ev.evOp_store Ev.evOp_makeMap Ev.evOp_lookup Ev.evOp_mapUpdate Ev.evOp_insert Ev.evOp_nilCheck Ev.evOp_binOp Ev.evOp_unOp Ev.evOp_convert Ev.evOp_makeFunc Ev.evOp_makeSlice Ev.evOp_slice Ev.evOp_fieldAddr Ev.evOp_field Ev.evOp_indexAddr Ev.evOp_index Ev.evOp_extract Ev.evOp_call Ev.evOp_append Ev.evOp_len Ev.evOp_min Ev.evOp_max Ev.condR_b Ev.condR_t Ev.evOps_nil Ev.evOps_plain Ev.evOps_guard Ev.runG_eq Ev.skipG_eq Ev.condL_tt Ev.condL_ff Ev.condL_tf Ev.condL_ft Ev.condL_u Ev.condC_t Ev.condC_f Ev.evC_skip Ev.evC_ret Ev.evC_exit Ev.evC_label Ev.evC_region Ev.evC_draw Ev.evC_seq Ev.evC_cond Ev.evC_block Ev.evC_loop Ev.fin_d Ev.fin_nils Ev.fin_agg_ Ev.fin_rs Ev.finS_s Ev.mapO_fin Ev.upd_upd Ev.argv_d Ev.argv_nils Ev.argv_agg Ev.argv_rs Ev.argv_p Ev.appendTo_nils Ev.appendTo_rs Ev.consV_d Ev.consV_agg Ev.consV_p Ev.consV_rs Ev.consV_nils Ev.consV_fn Ev.consV_und Ev.consV_jk Ev.consV_grown Ev.topR_grown Ev.len_grown Ev.consV_mp Ev.sameK_i Ev.sameK_s Ev.mget_0 Ev.mget_hit Ev.mget_miss Ev.mput_0 Ev.mput_hit Ev.mput_miss Ev.apartAll Ev.apartL Ev.apartV Ev.freeAll Ev.sel Ev.keyOfV Ev.evLookup Ev.evPut Ev.hintOk Ev.keyOk Ev.consP Ev.lookV Ev.guardV Ev.dstAt Ev.evPure Ev.evStore Ev.evPureB Ev.evBin Ev.evBinO Ev.evNil Ev.isNilC Ev.evUn Ev.evConv Ev.evSlice Ev.optI Ev.lenV Ev.elemT Ev.foldI Ev.capsOk Ev.noTup Ev.nth Ev.setN Ev.pad Ev.V.get Ev.V.put Ev.putD Ev.hasT Ev.newBlk Ev.upd Ev.keq Ev.empty Ev.evCall Ev.V.args Ev.argP Ev.callOf Ev.evNilP Ev.isNilP Ev.look Ev.V.view.views Ev.V.view Ev.V.toD Ev.V.toD.V.toDs Ev.V.pure.pures Ev.V.pure Ev.D.flat.flats Ev.D.flat Ev.mkAgg Ev.allD Ev.aggParts Ev.setParts Ev.setElems Ev.getPath Ev.setPath Ev.subL Ev.eqD Ev.eqD.eqDs Ev.and2 Ev.strCut Ev.evalT Ev.constT Ev.evArgs Ev.mask Ev.maskOf Ev.tableOf Ev.compT Ev.resV Ev.retV Ev.mapO Ev.elemsOf Int.cast_ofNat_Int IntWalk.i64_in IntWalk.u64_in IntWalk.u8_in beq_self_eq_true Bool.true_beq Bool.false_beq Bool.and_true Bool.true_and Bool.false_and Bool.and_false Bool.and_self Bool.not_true Bool.not_false Bool.not_eq_true cond_true cond_false if_true if_false and_true true_and and_self decide_true decide_false Bool.or_true Bool.true_or Bool.or_false Bool.false_or List.isEmpty List.isEmpty_nil List.size_toArray List.map List.length_map List.length_cons List.length_nil Option.map Option.bind Option.getD Option.isSome List.replicate Bool.false_eq_true implies_true forall_const Array.toList Array.isEmpty List.append List.nil_append List.cons_append List.drop_zero List.take_length List.take_succ_cons List.take_zero List.take_nil List.getElem?_map List.getElem?_cons_zero List.getElem?_cons_succ List.getElem?_nil List.append_nil
attribute [local go_sem] FxPull.tk2 FxPull.ik2 FxPull.ek2 FxPull.zv2 FxPull.tk3 FxPull.ik3 FxPull.ek3 FxPull.zv3 FxPull.tk4 FxPull.ub4 FxPull.zv4 FxPull.tk5 FxPull.ik5 FxPull.zv5 FxPull.tk9 FxPull.ek9 FxPull.tk23 FxPull.ct23 FxPull.ek23 FxPull.zv23 FxPull.tk27 FxPull.ik27 FxPull.zv27 FxPull.tk37 FxPull.ik37 FxPull.zv37 FxPull.by37 FxPull.so37 FxPull.tk39 FxPull.ct39 FxPull.zv39 FxPull.by39 FxPull.so39 FxPull.tk43 FxPull.zv43 FxPull.tk44 FxPull.zv44 FxPull.tk45 FxPull.zv45 FxPull.tk47 FxPull.ct47 FxPull.zv47 FxPull.tk48 FxPull.ik48 FxPull.zv48 FxPull.tk76 FxPull.ct76 FxPull.zv76 FxPull.by76 FxPull.so76 FxPull.tk77 FxPull.zv77 FxPull.tk79 FxPull.ct79 FxPull.zv79 FxPull.by79 FxPull.so79 FxPull.tk88 FxPull.zv88 FxPull.tk92 FxPull.ik92 FxPull.zv92 FxPull.tk135 FxPull.ik135 FxPull.zv135 FxPull.tk136 FxPull.mt136 FxPull.sm136 FxPull.zw4 FxPull.zv136 FxPull.tk145 FxPull.zv145 FxPull.tk148 FxPull.ct148 FxPull.zv148 FxPull.tk150 FxPull.ct150 FxPull.zv150 FxPull.tk161 FxPull.ct161 FxPull.zv161 FxPull.tk203 FxPull.dw3_1 FxPull.nc3_1 FxPull.mk3_1000000 FxPull.mk4_1000000 FxPull.mk14_1000000 FxPull.dw15_7 FxPull.nc15_7 FxPull.mk15_1000000 FxPull.dw16_7 FxPull.nc16_7 FxPull.mk16_1000000 FxPull.mk17_1000000 FxPull.mk18_1000000 FxPull.mk30_1000000 FxPull.mk40_0 FxPull.mk40_2 FxPull.mk40_4 FxPull.mk40_1000001 FxPull.mk40_1000002 FxPull.mk40_1000003 FxPull.mk40_1000004 FxPull.mk40_1000005 FxPull.mk40_1000006 FxPull.mk40_1000007 FxPull.mk40_1000000 FxPull.mk46_0 FxPull.mk46_1000001 FxPull.mk46_1000002 FxPull.mk46_1000000 FxPull.mk47_1000000 FxPull.mk48_1000000 FxPull.mk49_1000000 FxPull.mk50_1000000 FxPull.mk51_0 FxPull.mk51_1000001 FxPull.mk51_1000002 FxPull.mk51_1000000 FxPull.dw52_2 FxPull.nc52_2 FxPull.mk52_1000000 FxPull.mk53_1000000 FxPull.mk54_1000000 FxPull.mk55_1000001 FxPull.mk55_1000000 FxPull.mk64_1000000 FxPull.mk78_0 FxPull.mk78_1000001 FxPull.mk78_1000002 FxPull.mk78_1000000 FxPull.mk87_1000001 FxPull.mk87_1000000 FxPull.mk88_1000001 FxPull.mk88_1000000 FxPull.mk89_0 FxPull.mk89_1000001 FxPull.mk89_1000002 FxPull.mk89_1000000 FxPull.mk93_1000001 FxPull.mk93_1000000 FxPull.mk95_1000000 FxPull.mk98_0 FxPull.mk98_1000001 FxPull.mk98_1000002 FxPull.mk98_1000000 FxPull.mk99_1000000 FxPull.mk100_1000001 FxPull.mk100_1000000 FxPull.mk101_1000000 FxPull.mk102_1000000 FxPull.mk103_0 FxPull.mk103_1000001 FxPull.mk103_1000002 FxPull.mk103_1000000 FxPull.mk127_1000000 FxPull.mk128_1000000 FxPull.mk131_0 FxPull.mk131_1000001 FxPull.mk131_1000002 FxPull.mk131_1000000 FxPull.mk134_1000000 FxPull.mk135_1000000 FxPull.dw136_6 FxPull.nc136_6 FxPull.mk136_0 FxPull.mk136_2 FxPull.mk136_1000001 FxPull.mk136_1000002 FxPull.mk136_1000003 FxPull.mk136_1000004 FxPull.mk136_1000000 FxPull.mk152_1000000
noncomputable def T6 : Table := tableOf [(51, en51)]
theorem T6_ok : TableOk Try.prog (G4.map (·.1)) T6 := (table_cons Try.func51 (by kernel_rfl) (by kernel_rfl) table_nil)
def hd6 (n : Int) (x : Nat × Int × Int) : List V := hd51_0 (u (n / 18446744073709551616)) (u (n % 18446744073709551616)) (u x.2.1) (u x.2.2)
theorem loop6 (L : Nat) (call : Caller) (st : Store) (n : Int) (hn0 : 0 ≤ n) (hn : n < 85070591730234615865843651857942052864) :
    ∀ (m : Nat) (x : Nat × Int × Int) (env : List V), (0 ≤ x.2.1 ∧ x.2.1 < x.2.2 ∧ x.2.2 ≤ 9223372036854775808 ∧ x.2.2 - x.2.1 ≤ pw x.1 ∧ x.2.1 * x.2.1 ≤ n ∧ n < x.2.2 * x.2.2) → x.1 < m → mask (maskOf en51.ms 0) env = hd6 n x →
      iter (evC Try.prog G4 call L en51.ms 0 0 lb51_0) (maskOf en51.ms 0) m env st = some (.exit 0, hx51_0 (u (isqrt n)), st) := by
  refine iter_wf _ _ _ (hd6 n) (fun _ => st) (fun _ => some (.exit 0, hx51_0 (u (isqrt n)), st)) (fun x => x.1) ?_
  rintro ⟨j, lo, hi⟩ ⟨i1, i2, i3, i4, i5, i6⟩ k hk
  simp only at i1 i2 i3 i4 i5 i6
  have w0 : IntKind.u64.wrap (hi - lo) = hi - lo := wu_in (by omega) (by omega)
  by_cases hd1 : hi - lo > 1
  case neg =>
    have e : hi = lo + 1 := by omega
    have er : isqrt n = lo := isqrt_eq ⟨i1, i5, by rw [e] at i6; exact i6⟩
    simp only [lb51_0, loopN, loops, hd6, hd51_0, hx51_0, Try.f51, go_sem, Nat.reduceAdd, Nat.reduceSub, Nat.reduceMul, Nat.reduceEqDiff, Nat.reduceBEq, Nat.reduceLT, Nat.reduceLeDiff, Nat.reducePow, Int.reduceToNat, Int.reduceLT, Int.reduceLE, Int.reduceGT, Int.reduceGE, Int.reduceEq, Int.reduceNeg, Int.reduceAdd, Int.reduceSub, ↓reduceIte, reduceCtorEq, w0, hd1, er]
  cases j with
  | zero => have e0 : pw 0 = 1 := rfl; omega
  | succ j =>
    have p1 := pw_succ j
    have t2 : (hi - lo).tdiv 2 = (hi - lo) / 2 := Int.tdiv_eq_ediv_of_nonneg (by omega)
    have w1 : IntKind.u64.wrap ((hi - lo) / 2) = (hi - lo) / 2 := wu_in (by omega) (by omega)
    have w2 : IntKind.u64.wrap (lo + (hi - lo) / 2) = lo + (hi - lo) / 2 := wu_in (by omega) (by omega)
    generalize hm : lo + (hi - lo) / 2 = md at *
    have rm := sMul_run md md ⟨by omega, by omega⟩ ⟨by omega, by omega⟩
    generalize hc : md * md = c at *
    have z2 : ¬ (2 : Int) = 0 := by decide
    by_cases ht : c ≤ n
    · have hn' := hk (j, md, hi)
      have hI : (0 ≤ md ∧ md < hi ∧ hi ≤ 9223372036854775808 ∧ hi - md ≤ pw j ∧ md * md ≤ n ∧ n < hi * hi) := ⟨by omega, by omega, i3, by omega, by omega, i6⟩
      by_cases a1 : c / 18446744073709551616 < n / 18446744073709551616
      · simp only [lb51_0, loopN, loops, hd6, hd51_0, G4, Try.f51, go_sem, Nat.reduceAdd, Nat.reduceSub, Nat.reduceMul, Nat.reduceEqDiff, Nat.reduceBEq, Nat.reduceLT, Nat.reduceLeDiff, Nat.reducePow, Int.reduceToNat, Int.reduceLT, Int.reduceLE, Int.reduceGT, Int.reduceGE, Int.reduceEq, Int.reduceNeg, Int.reduceAdd, Int.reduceSub, ↓reduceIte, reduceCtorEq, w0, hd1, t2, w1, hm, w2, z2, rm, a1]
        exact hn' _ hI (by simp) (by simp only [hd6, hd51_0, go_sem, Nat.reduceAdd, Nat.reduceSub, Nat.reduceMul, Nat.reduceEqDiff, Nat.reduceBEq, Nat.reduceLT, Nat.reduceLeDiff, Nat.reducePow, Int.reduceToNat, Int.reduceLT, Int.reduceLE, Int.reduceGT, Int.reduceGE, Int.reduceEq, Int.reduceNeg, Int.reduceAdd, Int.reduceSub, ↓reduceIte, reduceCtorEq])
      · have a2 : c / 18446744073709551616 = n / 18446744073709551616 := by omega
        have a3 : c % 18446744073709551616 ≤ n % 18446744073709551616 := by omega
        have a4 : ¬ n / 18446744073709551616 < n / 18446744073709551616 := by omega
        simp only [lb51_0, loopN, loops, hd6, hd51_0, G4, Try.f51, go_sem, Nat.reduceAdd, Nat.reduceSub, Nat.reduceMul, Nat.reduceEqDiff, Nat.reduceBEq, Nat.reduceLT, Nat.reduceLeDiff, Nat.reducePow, Int.reduceToNat, Int.reduceLT, Int.reduceLE, Int.reduceGT, Int.reduceGE, Int.reduceEq, Int.reduceNeg, Int.reduceAdd, Int.reduceSub, ↓reduceIte, reduceCtorEq, w0, hd1, t2, w1, hm, w2, z2, rm, a2, a3, a4]
        exact hn' _ hI (by simp) (by simp only [hd6, hd51_0, go_sem, Nat.reduceAdd, Nat.reduceSub, Nat.reduceMul, Nat.reduceEqDiff, Nat.reduceBEq, Nat.reduceLT, Nat.reduceLeDiff, Nat.reducePow, Int.reduceToNat, Int.reduceLT, Int.reduceLE, Int.reduceGT, Int.reduceGE, Int.reduceEq, Int.reduceNeg, Int.reduceAdd, Int.reduceSub, ↓reduceIte, reduceCtorEq])
    · have hn' := hk (j, lo, md)
      have hI : (0 ≤ lo ∧ lo < md ∧ md ≤ 9223372036854775808 ∧ md - lo ≤ pw j ∧ lo * lo ≤ n ∧ n < md * md) := ⟨i1, by omega, by omega, by omega, i5, by omega⟩
      have a1 : ¬ c / 18446744073709551616 < n / 18446744073709551616 := by omega
      by_cases a2 : c / 18446744073709551616 = n / 18446744073709551616
      · have a3 : ¬ c % 18446744073709551616 ≤ n % 18446744073709551616 := by omega
        have a4 : ¬ n / 18446744073709551616 < n / 18446744073709551616 := by omega
        simp only [lb51_0, loopN, loops, hd6, hd51_0, G4, Try.f51, go_sem, Nat.reduceAdd, Nat.reduceSub, Nat.reduceMul, Nat.reduceEqDiff, Nat.reduceBEq, Nat.reduceLT, Nat.reduceLeDiff, Nat.reducePow, Int.reduceToNat, Int.reduceLT, Int.reduceLE, Int.reduceGT, Int.reduceGE, Int.reduceEq, Int.reduceNeg, Int.reduceAdd, Int.reduceSub, ↓reduceIte, reduceCtorEq, w0, hd1, t2, w1, hm, w2, z2, rm, a2, a3, a4]
        exact hn' _ hI (by simp) (by simp only [hd6, hd51_0, go_sem, Nat.reduceAdd, Nat.reduceSub, Nat.reduceMul, Nat.reduceEqDiff, Nat.reduceBEq, Nat.reduceLT, Nat.reduceLeDiff, Nat.reducePow, Int.reduceToNat, Int.reduceLT, Int.reduceLE, Int.reduceGT, Int.reduceGE, Int.reduceEq, Int.reduceNeg, Int.reduceAdd, Int.reduceSub, ↓reduceIte, reduceCtorEq])
      · simp only [lb51_0, loopN, loops, hd6, hd51_0, G4, Try.f51, go_sem, Nat.reduceAdd, Nat.reduceSub, Nat.reduceMul, Nat.reduceEqDiff, Nat.reduceBEq, Nat.reduceLT, Nat.reduceLeDiff, Nat.reducePow, Int.reduceToNat, Int.reduceLT, Int.reduceLE, Int.reduceGT, Int.reduceGE, Int.reduceEq, Int.reduceNeg, Int.reduceAdd, Int.reduceSub, ↓reduceIte, reduceCtorEq, w0, hd1, t2, w1, hm, w2, z2, rm, a1, a2]
        exact hn' _ hI (by simp) (by simp only [hd6, hd51_0, go_sem, Nat.reduceAdd, Nat.reduceSub, Nat.reduceMul, Nat.reduceEqDiff, Nat.reduceBEq, Nat.reduceLT, Nat.reduceLeDiff, Nat.reducePow, Int.reduceToNat, Int.reduceLT, Int.reduceLE, Int.reduceGT, Int.reduceGE, Int.reduceEq, Int.reduceNeg, Int.reduceAdd, Int.reduceSub, ↓reduceIte, reduceCtorEq])
def P2 (a b : Int) : Prop := 0 ≤ a ∧ a < 9223372036854775808 ∧ 0 ≤ b ∧ b < 9223372036854775808
noncomputable def sRoot : Ev.Spec := specC (c2 .i64) (fun x => P2 x.1 x.2) fun x => [.int .i64 (isqrt (x.1 * x.2))]
theorem sRoot_run (a b : Int) (h : P2 a b) : sRoot.run [.int .i64 a, .int .i64 b] = some [.int .i64 (isqrt (a * b))] := specC_run (c2 .i64) _ _ (a, b) h
theorem eRoot (a b : Int) (h : P2 a b) : evTop Try.prog G4 T6 65 1 51 [.int .i64 a, .int .i64 b] = some [.int .i64 (isqrt (a * b))] := by
  unfold evTop
  simp only [List.map]
  rw [evF_s (fn := Try.f51) (msk := en51.ms) (hT := by rfl) (hb := by rfl)]
  obtain ⟨a0, a1, b0, b1⟩ := h
  obtain ⟨n0, n1⟩ := pos_prod (a := a) (b := b) ⟨by omega, a1⟩ ⟨by omega, b1⟩ (by omega) (by omega)
  obtain ⟨q0, q1⟩ := isqrt_bound n0 n1
  have ua : IntKind.u64.wrap a = a := wu_in (by omega) (by omega)
  have ub : IntKind.u64.wrap b = b := wu_in (by omega) (by omega)
  have rm := sMul_run a b ⟨by omega, by omega⟩ ⟨by omega, by omega⟩
  have wq : IntKind.i64.wrap (isqrt (a * b)) = isqrt (a * b) := wi_in (by omega) (by omega)
  simp only [Try.f51, G4, go_sem, Nat.reduceAdd, Nat.reduceSub, Nat.reduceMul, Nat.reduceEqDiff, Nat.reduceBEq, Nat.reduceLT, Nat.reduceLeDiff, Nat.reducePow, Int.reduceToNat, Int.reduceLT, Int.reduceLE, Int.reduceGT, Int.reduceGE, Int.reduceEq, Int.reduceNeg, Int.reduceAdd, Int.reduceSub, ↓reduceIte, reduceCtorEq, ua, ub, rm]
  conv in iter _ _ _ _ _ => change iter (evC _ G4 _ _ en51.ms _ _ lb51_0) (maskOf en51.ms 0) _ _ _
  rw [loop6 _ _ empty (a * b) n0 n1 _ (63, 0, 9223372036854775808) _ ⟨by decide, by decide, by decide, by decide, by simpa using n0, by simpa using n1⟩ (by simp) (by simp only [hd6, hd51_0, go_sem, Nat.reduceAdd, Nat.reduceSub, Nat.reduceMul, Nat.reduceEqDiff, Nat.reduceBEq, Nat.reduceLT, Nat.reduceLeDiff, Nat.reducePow, Int.reduceToNat, Int.reduceLT, Int.reduceLE, Int.reduceGT, Int.reduceGE, Int.reduceEq, Int.reduceNeg, Int.reduceAdd, Int.reduceSub, ↓reduceIte, reduceCtorEq])]
  simp only [hx51_0, go_sem, Nat.reduceAdd, Nat.reduceSub, Nat.reduceMul, Nat.reduceEqDiff, Nat.reduceBEq, Nat.reduceLT, Nat.reduceLeDiff, Nat.reducePow, Int.reduceToNat, Int.reduceLT, Int.reduceLE, Int.reduceGT, Int.reduceGE, Int.reduceEq, Int.reduceNeg, Int.reduceAdd, Int.reduceSub, ↓reduceIte, reduceCtorEq, wq]
theorem sRoot_ok : SpecOk Try.prog 51 sRoot := specC_ok mixed G4_ok T6_ok fun x hp => ⟨65, 1, eRoot x.1 x.2 hp⟩
#print axioms sRoot_ok
end Go.Proofs.YtmhjmjodchbhlaaR.Num6Pull
end
section
set_option linter.unusedVariables false
set_option linter.unusedSimpArgs false
set_option maxRecDepth 100000
namespace Go.Proofs.YtmhjmjodchbhlaaR.PullPull
open Go.Ev Go.Ari Go.Proofs.YtmhjmjodchbhlaaR.FxPull Go.Proofs.YtmhjmjodchbhlaaR.Num1Pull Go.Proofs.YtmhjmjodchbhlaaR.Num3Pull Go.Proofs.YtmhjmjodchbhlaaR.Num4Pull Go.Proofs.YtmhjmjodchbhlaaR.Num5Pull Go.Proofs.YtmhjmjodchbhlaaR.Num6Pull
attribute [local go_sem] Ev.putR_s Ev.putR_0 Ev.thenO_s Ev.thenO_0 Ev.seqR_n Ev.seqR_e Ev.seqR_r Ev.seqR_0 Ev.blkR_e Ev.blkR_n Ev.blkR_r Ev.blkR_0 Ev.normR_s Ev.normR_0 Ev.outR_r Ev.outR_n Ev.outR_0 Ev.retS_s Ev.retS_0 Ev.pureO_s Ev.pureO_0 Ev.topR_0 Ev.topR_t Ev.topR_t0 Ev.oneL_0 Ev.oneL_s Ev.topR_d Ev.topR_nils Ev.topR_agg Ev.topR_rs Ev.evOp_move Ev.evOp_assign Ev.evOp_pick Ev.evOp_alloc Ev.evOp_box Ev.evOp_build Ev.evOp_buildSlice Ev.evOp_load Ev.evOp_store Ev.evOp_makeMap Ev.evOp_lookup Ev.evOp_mapUpdate Ev.evOp_insert Ev.evOp_nilCheck Ev.evOp_binOp Ev.evOp_unOp Ev.evOp_convert Ev.evOp_makeFunc Ev.evOp_makeSlice Ev.evOp_slice Ev.evOp_fieldAddr Ev.evOp_field Ev.evOp_indexAddr Ev.evOp_index Ev.evOp_extract Ev.evOp_call Ev.evOp_append Ev.evOp_len Ev.evOp_min Ev.evOp_max Ev.condR_b Ev.condR_t Ev.evOps_nil Ev.evOps_plain Ev.evOps_guard Ev.runG_eq Ev.skipG_eq Ev.condL_tt Ev.condL_ff Ev.condL_tf Ev.condL_ft Ev.condL_u Ev.condC_t Ev.condC_f Ev.evC_skip Ev.evC_ret Ev.evC_exit Ev.evC_label Ev.evC_region Ev.evC_draw Ev.evC_seq Ev.evC_cond Ev.evC_block Ev.evC_loop Ev.fin_d Ev.fin_nils Ev.fin_agg_ Ev.fin_rs Ev.finS_s Ev.mapO_fin Ev.upd_upd Ev.argv_d Ev.argv_nils Ev.argv_agg Ev.argv_rs Ev.argv_p Ev.appendTo_nils Ev.appendTo_rs Ev.consV_d Ev.consV_agg Ev.consV_p Ev.consV_rs Ev.consV_nils Ev.consV_fn Ev.consV_und Ev.consV_jk Ev.consV_grown Ev.topR_grown Ev.len_grown Ev.consV_mp Ev.sameK_i Ev.sameK_s Ev.mget_0 Ev.mget_hit Ev.mget_miss Ev.mput_0 Ev.mput_hit Ev.mput_miss Ev.apartAll Ev.apartL Ev.apartV Ev.freeAll Ev.sel Ev.keyOfV Ev.evLookup Ev.evPut Ev.hintOk Ev.keyOk Ev.consP Ev.lookV Ev.guardV Ev.dstAt Ev.evPure Ev.evStore Ev.evPureB Ev.evBin Ev.evBinO Ev.evNil Ev.isNilC Ev.evUn Ev.evConv Ev.evSlice Ev.optI Ev.lenV Ev.elemT Ev.foldI Ev.capsOk Ev.noTup Ev.nth Ev.setN Ev.pad Ev.V.get Ev.V.put Ev.putD Ev.hasT Ev.newBlk Ev.upd Ev.keq Ev.empty Ev.evCall Ev.V.args Ev.argP Ev.callOf Ev.evNilP Ev.isNilP Ev.look Ev.V.view.views Ev.V.view Ev.V.toD Ev.V.toD.V.toDs Ev.V.pure.pures Ev.V.pure Ev.D.flat.flats Ev.D.flat Ev.mkAgg Ev.allD Ev.aggParts Ev.setParts Ev.setElems Ev.getPath Ev.setPath Ev.subL Ev.eqD Ev.eqD.eqDs Ev.and2 Ev.strCut Ev.evalT Ev.constT Ev.evArgs Ev.mask Ev.maskOf Ev.tableOf Ev.compT Ev.resV Ev.retV Ev.mapO Ev.elemsOf Int.cast_ofNat_Int IntWalk.i64_in IntWalk.u64_in IntWalk.u8_in beq_self_eq_true Bool.true_beq Bool.false_beq Bool.and_true Bool.true_and Bool.false_and Bool.and_false Bool.and_self Bool.not_true Bool.not_false Bool.not_eq_true cond_true cond_false if_true if_false and_true true_and and_self decide_true decide_false Bool.or_true Bool.true_or Bool.or_false Bool.false_or List.isEmpty List.isEmpty_nil List.size_toArray List.map List.length_map List.length_cons List.length_nil Option.map Option.bind Option.getD Option.isSome List.replicate Bool.false_eq_true implies_true forall_const Array.toList Array.isEmpty List.append List.nil_append List.cons_append List.drop_zero List.take_length List.take_succ_cons List.take_zero List.take_nil List.getElem?_map List.getElem?_cons_zero List.getElem?_cons_succ List.getElem?_nil List.append_nil
attribute [local go_sem] FxPull.tk2 FxPull.ik2 FxPull.ek2 FxPull.zv2 FxPull.tk3 FxPull.ik3 FxPull.ek3 FxPull.zv3 FxPull.tk4 FxPull.ub4 FxPull.zv4 FxPull.tk5 FxPull.ik5 FxPull.zv5 FxPull.tk9 FxPull.ek9 FxPull.tk23 FxPull.ct23 FxPull.ek23 FxPull.zv23 FxPull.tk27 FxPull.ik27 FxPull.zv27 FxPull.tk37 FxPull.ik37 FxPull.zv37 FxPull.by37 FxPull.so37 FxPull.tk39 FxPull.ct39 FxPull.zv39 FxPull.by39 FxPull.so39 FxPull.tk43 FxPull.zv43 FxPull.tk44 FxPull.zv44 FxPull.tk45 FxPull.zv45 FxPull.tk47 FxPull.ct47 FxPull.zv47 FxPull.tk48 FxPull.ik48 FxPull.zv48 FxPull.tk76 FxPull.ct76 FxPull.zv76 FxPull.by76 FxPull.so76 FxPull.tk77 FxPull.zv77 FxPull.tk79 FxPull.ct79 FxPull.zv79 FxPull.by79 FxPull.so79 FxPull.tk88 FxPull.zv88 FxPull.tk92 FxPull.ik92 FxPull.zv92 FxPull.tk135 FxPull.ik135 FxPull.zv135 FxPull.tk136 FxPull.mt136 FxPull.sm136 FxPull.zw4 FxPull.zv136 FxPull.tk145 FxPull.zv145 FxPull.tk148 FxPull.ct148 FxPull.zv148 FxPull.tk150 FxPull.ct150 FxPull.zv150 FxPull.tk161 FxPull.ct161 FxPull.zv161 FxPull.tk203 FxPull.dw3_1 FxPull.nc3_1 FxPull.mk3_1000000 FxPull.mk4_1000000 FxPull.mk14_1000000 FxPull.dw15_7 FxPull.nc15_7 FxPull.mk15_1000000 FxPull.dw16_7 FxPull.nc16_7 FxPull.mk16_1000000 FxPull.mk17_1000000 FxPull.mk18_1000000 FxPull.mk30_1000000 FxPull.mk40_0 FxPull.mk40_2 FxPull.mk40_4 FxPull.mk40_1000001 FxPull.mk40_1000002 FxPull.mk40_1000003 FxPull.mk40_1000004 FxPull.mk40_1000005 FxPull.mk40_1000006 FxPull.mk40_1000007 FxPull.mk40_1000000 FxPull.mk46_0 FxPull.mk46_1000001 FxPull.mk46_1000002 FxPull.mk46_1000000 FxPull.mk47_1000000 FxPull.mk48_1000000 FxPull.mk49_1000000 FxPull.mk50_1000000 FxPull.mk51_0 FxPull.mk51_1000001 FxPull.mk51_1000002 FxPull.mk51_1000000 FxPull.dw52_2 FxPull.nc52_2 FxPull.mk52_1000000 FxPull.mk53_1000000 FxPull.mk54_1000000 FxPull.mk55_1000001 FxPull.mk55_1000000 FxPull.mk64_1000000 FxPull.mk78_0 FxPull.mk78_1000001 FxPull.mk78_1000002 FxPull.mk78_1000000 FxPull.mk87_1000001 FxPull.mk87_1000000 FxPull.mk88_1000001 FxPull.mk88_1000000 FxPull.mk89_0 FxPull.mk89_1000001 FxPull.mk89_1000002 FxPull.mk89_1000000 FxPull.mk93_1000001 FxPull.mk93_1000000 FxPull.mk95_1000000 FxPull.mk98_0 FxPull.mk98_1000001 FxPull.mk98_1000002 FxPull.mk98_1000000 FxPull.mk99_1000000 FxPull.mk100_1000001 FxPull.mk100_1000000 FxPull.mk101_1000000 FxPull.mk102_1000000 FxPull.mk103_0 FxPull.mk103_1000001 FxPull.mk103_1000002 FxPull.mk103_1000000 FxPull.mk127_1000000 FxPull.mk128_1000000 FxPull.mk131_0 FxPull.mk131_1000001 FxPull.mk131_1000002 FxPull.mk131_1000000 FxPull.mk134_1000000 FxPull.mk135_1000000 FxPull.dw136_6 FxPull.nc136_6 FxPull.mk136_0 FxPull.mk136_2 FxPull.mk136_1000001 FxPull.mk136_1000002 FxPull.mk136_1000003 FxPull.mk136_1000004 FxPull.mk136_1000000 FxPull.mk152_1000000
abbrev Vec := Int × Int × Int
def cV : Cod Vec := cA 23 (c3 .i64)
def vD (v : Vec) : D := .agg 23 [.int .i64 v.1, .int .i64 v.2.1, .int .i64 v.2.2]
/-! ### within and Inside -/
def inn (m x : Int) : Bool := decide (-m ≤ x) && decide (x ≤ m)
def okV (m : Int) (v : Vec) : Bool := inn m v.1 && inn m v.2.1 && inn m v.2.2
noncomputable def T1 : Table := tableOf [(46, en46), (50, en50)]
theorem T1_ok : TableOk Try.prog (([] : Specs).map (·.1)) T1 := (table_cons Try.func46 (by kernel_rfl) (by kernel_rfl) (table_cons Try.func50 (by kernel_rfl) (by kernel_rfl) table_nil))
noncomputable def sIn : Ev.Spec := specC (cCons cV (cOne (cI .i64))) (fun x => 0 ≤ x.2 ∧ x.2 < 9223372036854775808) fun x => [.bool (okV x.2 x.1)]
theorem sIn_run (x y z m : Int) (h0 : 0 ≤ m) (h1 : m < 9223372036854775808) : sIn.run [.agg 23 [.int .i64 x, .int .i64 y, .int .i64 z], .int .i64 m] = some [.bool (okV m (x, y, z))] := specC_run (cCons cV (cOne (cI .i64))) _ _ ((x, y, z), m) ⟨h0, h1⟩
theorem inn_f1 {m x : Int} (h : x < -m) : inn m x = false := by simp [inn]; omega
theorem inn_f2 {m x : Int} (h : x > m) : inn m x = false := by simp [inn]; omega
theorem inn_t {m x : Int} (h1 : ¬ x < -m) (h2 : ¬ x > m) : inn m x = true := by simp [inn]; omega
theorem eWithin (x y z m : Int) (h0 : 0 ≤ m) (h1 : m < 9223372036854775808) : evTop Try.prog [] T1 4 1 46 [.agg 23 [.int .i64 x, .int .i64 y, .int .i64 z], .int .i64 m] = some [.bool (okV m (x, y, z))] := by
  unfold evTop
  simp only [List.map]
  rw [evF_s (fn := Try.f46) (msk := en46.ms) (hT := by rfl) (hb := by rfl)]
  have w : IntKind.i64.wrap (0 - m) = -m := by rw [wi]; omega
  have wa : IntKind.i64.wrap (0 + 1) = 1 := by decide
  have wb : IntKind.i64.wrap (1 + 1) = 2 := by decide
  have wc : IntKind.i64.wrap (2 + 1) = 3 := by decide
  unfold okV
  by_cases a1 : x < -m
  · simp only [Try.f46, go_sem, Nat.reduceAdd, Nat.reduceSub, Nat.reduceMul, Nat.reduceEqDiff, Nat.reduceBEq, Nat.reduceLT, Nat.reduceLeDiff, Nat.reducePow, Int.reduceToNat, Int.reduceLT, Int.reduceLE, Int.reduceGT, Int.reduceGE, Int.reduceEq, Int.reduceNeg, Int.reduceAdd, Int.reduceSub, ↓reduceIte, reduceCtorEq, iter_s, w, a1, inn_f1 a1]
  by_cases a2 : x > m
  · simp only [Try.f46, go_sem, Nat.reduceAdd, Nat.reduceSub, Nat.reduceMul, Nat.reduceEqDiff, Nat.reduceBEq, Nat.reduceLT, Nat.reduceLeDiff, Nat.reducePow, Int.reduceToNat, Int.reduceLT, Int.reduceLE, Int.reduceGT, Int.reduceGE, Int.reduceEq, Int.reduceNeg, Int.reduceAdd, Int.reduceSub, ↓reduceIte, reduceCtorEq, iter_s, w, a1, a2, inn_f2 a2]
  by_cases b1 : y < -m
  · simp only [Try.f46, go_sem, Nat.reduceAdd, Nat.reduceSub, Nat.reduceMul, Nat.reduceEqDiff, Nat.reduceBEq, Nat.reduceLT, Nat.reduceLeDiff, Nat.reducePow, Int.reduceToNat, Int.reduceLT, Int.reduceLE, Int.reduceGT, Int.reduceGE, Int.reduceEq, Int.reduceNeg, Int.reduceAdd, Int.reduceSub, ↓reduceIte, reduceCtorEq, iter_s, w, a1, a2, b1, inn_f1 b1]
  by_cases b2 : y > m
  · simp only [Try.f46, go_sem, Nat.reduceAdd, Nat.reduceSub, Nat.reduceMul, Nat.reduceEqDiff, Nat.reduceBEq, Nat.reduceLT, Nat.reduceLeDiff, Nat.reducePow, Int.reduceToNat, Int.reduceLT, Int.reduceLE, Int.reduceGT, Int.reduceGE, Int.reduceEq, Int.reduceNeg, Int.reduceAdd, Int.reduceSub, ↓reduceIte, reduceCtorEq, iter_s, w, a1, a2, b1, b2, inn_f2 b2]
  by_cases c1 : z < -m
  · simp only [Try.f46, go_sem, Nat.reduceAdd, Nat.reduceSub, Nat.reduceMul, Nat.reduceEqDiff, Nat.reduceBEq, Nat.reduceLT, Nat.reduceLeDiff, Nat.reducePow, Int.reduceToNat, Int.reduceLT, Int.reduceLE, Int.reduceGT, Int.reduceGE, Int.reduceEq, Int.reduceNeg, Int.reduceAdd, Int.reduceSub, ↓reduceIte, reduceCtorEq, iter_s, w, a1, a2, b1, b2, c1, inn_f1 c1]
  by_cases c2 : z > m
  · simp only [Try.f46, go_sem, Nat.reduceAdd, Nat.reduceSub, Nat.reduceMul, Nat.reduceEqDiff, Nat.reduceBEq, Nat.reduceLT, Nat.reduceLeDiff, Nat.reducePow, Int.reduceToNat, Int.reduceLT, Int.reduceLE, Int.reduceGT, Int.reduceGE, Int.reduceEq, Int.reduceNeg, Int.reduceAdd, Int.reduceSub, ↓reduceIte, reduceCtorEq, iter_s, w, a1, a2, b1, b2, c1, c2, inn_f2 c2]
  simp only [Try.f46, go_sem, Nat.reduceAdd, Nat.reduceSub, Nat.reduceMul, Nat.reduceEqDiff, Nat.reduceBEq, Nat.reduceLT, Nat.reduceLeDiff, Nat.reducePow, Int.reduceToNat, Int.reduceLT, Int.reduceLE, Int.reduceGT, Int.reduceGE, Int.reduceEq, Int.reduceNeg, Int.reduceAdd, Int.reduceSub, ↓reduceIte, reduceCtorEq, iter_s, w, a1, a2, b1, b2, c1, c2, inn_t a1 a2, inn_t b1 b2, inn_t c1 c2]
theorem within_ok : SpecOk Try.prog 46 sIn := specC_ok mixed specs_nil T1_ok fun x hp => ⟨4, 1, eWithin x.1.1 x.1.2.1 x.1.2.2 x.2 hp.1 hp.2⟩
theorem eInside (x y z m : Int) (h0 : 0 ≤ m) (h1 : m < 9223372036854775808) : evTop Try.prog [] T1 0 1 50 [.agg 23 [.int .i64 x, .int .i64 y, .int .i64 z], .int .i64 m] = some [.bool (okV m (x, y, z))] := by
  unfold evTop
  simp only [List.map]
  rw [evF_s (fn := Try.f50) (msk := en50.ms) (hT := by rfl) (hb := by rfl)]
  have w : IntKind.i64.wrap (0 - m) = -m := by rw [wi]; omega
  have k1 : maxI (maxI x y) z ≤ m ↔ x ≤ m ∧ y ≤ m ∧ z ≤ m := by unfold maxI; split <;> split <;> omega
  have k2 : minI (minI x y) z ≥ -m ↔ -m ≤ x ∧ -m ≤ y ∧ -m ≤ z := by unfold minI; split <;> split <;> omega
  by_cases a1 : maxI (maxI x y) z ≤ m
  · by_cases a2 : minI (minI x y) z ≥ -m
    · have e : okV m (x, y, z) = true := by
        have := k1.1 a1; have := k2.1 a2
        simp [okV, inn]; omega
      simp only [Try.f50, go_sem, Nat.reduceAdd, Nat.reduceSub, Nat.reduceMul, Nat.reduceEqDiff, Nat.reduceBEq, Nat.reduceLT, Nat.reduceLeDiff, Nat.reducePow, Int.reduceToNat, Int.reduceLT, Int.reduceLE, Int.reduceGT, Int.reduceGE, Int.reduceEq, Int.reduceNeg, Int.reduceAdd, Int.reduceSub, ↓reduceIte, reduceCtorEq, w, a1, a2, e]
    · have e : okV m (x, y, z) = false := by
        cases hq : okV m (x, y, z) with
        | false => rfl
        | true => simp [okV, inn] at hq; exact absurd (k2.2 (by omega)) a2
      simp only [Try.f50, go_sem, Nat.reduceAdd, Nat.reduceSub, Nat.reduceMul, Nat.reduceEqDiff, Nat.reduceBEq, Nat.reduceLT, Nat.reduceLeDiff, Nat.reducePow, Int.reduceToNat, Int.reduceLT, Int.reduceLE, Int.reduceGT, Int.reduceGE, Int.reduceEq, Int.reduceNeg, Int.reduceAdd, Int.reduceSub, ↓reduceIte, reduceCtorEq, w, a1, a2, e]
  · have e : okV m (x, y, z) = false := by
      cases hq : okV m (x, y, z) with
      | false => rfl
      | true => simp [okV, inn] at hq; exact absurd (k1.2 (by omega)) a1
    simp only [Try.f50, go_sem, Nat.reduceAdd, Nat.reduceSub, Nat.reduceMul, Nat.reduceEqDiff, Nat.reduceBEq, Nat.reduceLT, Nat.reduceLeDiff, Nat.reducePow, Int.reduceToNat, Int.reduceLT, Int.reduceLE, Int.reduceGT, Int.reduceGE, Int.reduceEq, Int.reduceNeg, Int.reduceAdd, Int.reduceSub, ↓reduceIte, reduceCtorEq, w, a1, e]
theorem inside_ok : SpecOk Try.prog 50 sIn := specC_ok mixed specs_nil T1_ok fun x hp => ⟨0, 1, eInside x.1.1 x.1.2.1 x.1.2.2 x.2 hp.1 hp.2⟩
/-! ### the parts -/
/-- One component of the pull, for a distance r from 2^16 on. -/
def plx (r x : Int) : Int := if x > 0 then -(9007199254740992 * x / r / (r * r)) else 9007199254740992 * (-x) / r / (r * r)
def cPt : Cod Int := ⟨fun r => .ptr (.int .i64 r), fun x y h => by cases h; rfl⟩
def PP (x r : Int) : Prop := -4194304 ≤ x ∧ x ≤ 4194304 ∧ 65536 ≤ r ∧ r < 1073741824
noncomputable def sPart : Ev.Spec := specC (cCons (cI .i64) (cOne cPt)) (fun x => PP x.1 x.2) fun x => [.int .i64 (plx x.2 x.1)]
theorem sPart_run (x r : Int) (h : PP x r) : sPart.run [.int .i64 x, .ptr (.int .i64 r)] = some [.int .i64 (plx r x)] := specC_run (cCons (cI .i64) (cOne cPt)) _ _ (x, r) h
noncomputable def G1 : Specs := [(49, sMulDiv)]
noncomputable def T2 : Table := tableOf [(48, en48)]
theorem G1_ok : ∀ g s, Ev.look G1 g = some s → SpecOk Try.prog g s := specs_cons sMulDiv_ok specs_nil
theorem T2_ok : TableOk Try.prog (G1.map (·.1)) T2 := (table_cons Try.func48 (by kernel_rfl) (by kernel_rfl) table_nil)
theorem part_bounds {a r : Int} (h0 : 0 ≤ a) (h1 : a ≤ 4194304) (hr : 65536 ≤ r) (hr2 : r < 1073741824) : 0 ≤ 9007199254740992 * a / r ∧ 9007199254740992 * a / r ≤ 576460752303423488 ∧ 0 < r * r ∧ r * r < 1152921504606846976 ∧ 0 ≤ 9007199254740992 * a / r / (r * r) ∧ 9007199254740992 * a / r / (r * r) ≤ 576460752303423488 := by
  have q0 : 0 ≤ 9007199254740992 * a / r := Int.ediv_nonneg (by omega) (by omega)
  have q1 : 9007199254740992 * a / r ≤ 576460752303423488 := by
    refine Int.ediv_le_of_le_mul (by omega) ?_
    omega
  have m0 : 0 < r * r := Int.mul_pos (by omega) (by omega)
  have m1 : r * r ≤ 1073741823 * 1073741823 := Int.mul_le_mul (by omega) (by omega) (by omega) (by omega)
  refine ⟨q0, q1, m0, by omega, Int.ediv_nonneg q0 (by omega), ?_⟩
  have := Int.ediv_le_self (r * r) q0
  omega
theorem ePart (x r : Int) (h : PP x r) : evTop Try.prog G1 T2 0 1 48 [.int .i64 x, .ptr (.int .i64 r)] = some [.int .i64 (plx r x)] := by
  unfold evTop
  simp only [List.map]
  rw [evF_s (fn := Try.f48) (msk := en48.ms) (hT := by rfl) (hb := by rfl)]
  obtain ⟨x0, x1, r0, r1⟩ := h
  have wn : IntKind.i64.wrap (0 - x) = -x := by rw [wi]; omega
  by_cases hx : x > 0
  · have hm : maxI x (-x) = x := by unfold maxI; rw [if_neg (by omega)]
    obtain ⟨b0, b1, b2, b3, b4, b5⟩ := part_bounds (a := x) (by omega) x1 r0 r1
    have rm := sMulDiv_run 9007199254740992 x r ⟨by decide, by decide⟩ ⟨by omega, by omega⟩ ⟨by omega, by omega⟩
    have q : quoR (9007199254740992 * x) r = (9007199254740992 * x / r, 0) := by rw [quoR, if_neg (by omega), if_pos ⟨by omega, by omega⟩]
    rw [q] at rm
    unfold two at rm
    have w1 : IntKind.i64.wrap (r * r) = r * r := wi_in (by omega) (by omega)
    have hz : ¬ r * r = 0 := by omega
    have td : (9007199254740992 * x / r).tdiv (r * r) = 9007199254740992 * x / r / (r * r) := Int.tdiv_eq_ediv_of_nonneg b0
    have w2 : IntKind.i64.wrap (9007199254740992 * x / r / (r * r)) = 9007199254740992 * x / r / (r * r) := wi_in (by omega) (by omega)
    have w3 : IntKind.i64.wrap (0 - 9007199254740992 * x / r / (r * r)) = -(9007199254740992 * x / r / (r * r)) := by rw [wi]; omega
    rw [plx, if_pos hx]
    simp only [Try.f48, G1, go_sem, Nat.reduceAdd, Nat.reduceSub, Nat.reduceMul, Nat.reduceEqDiff, Nat.reduceBEq, Nat.reduceLT, Nat.reduceLeDiff, Nat.reducePow, Int.reduceToNat, Int.reduceLT, Int.reduceLE, Int.reduceGT, Int.reduceGE, Int.reduceEq, Int.reduceNeg, Int.reduceAdd, Int.reduceSub, ↓reduceIte, reduceCtorEq, wn, hm, rm, w1, hz, td, w2, hx, w3]
  · have hm : maxI x (-x) = -x := by unfold maxI; split <;> omega
    obtain ⟨b0, b1, b2, b3, b4, b5⟩ := part_bounds (a := -x) (by omega) (by omega) r0 r1
    have rm := sMulDiv_run 9007199254740992 (-x) r ⟨by decide, by decide⟩ ⟨by omega, by omega⟩ ⟨by omega, by omega⟩
    have q : quoR (9007199254740992 * -x) r = (9007199254740992 * -x / r, 0) := by rw [quoR, if_neg (by omega), if_pos ⟨by omega, by omega⟩]
    rw [q] at rm
    unfold two at rm
    have w1 : IntKind.i64.wrap (r * r) = r * r := wi_in (by omega) (by omega)
    have hz : ¬ r * r = 0 := by omega
    have td : (9007199254740992 * -x / r).tdiv (r * r) = 9007199254740992 * -x / r / (r * r) := Int.tdiv_eq_ediv_of_nonneg b0
    have w2 : IntKind.i64.wrap (9007199254740992 * -x / r / (r * r)) = 9007199254740992 * -x / r / (r * r) := wi_in (by omega) (by omega)
    rw [plx, if_neg hx]
    simp only [Try.f48, G1, go_sem, Nat.reduceAdd, Nat.reduceSub, Nat.reduceMul, Nat.reduceEqDiff, Nat.reduceBEq, Nat.reduceLT, Nat.reduceLeDiff, Nat.reducePow, Int.reduceToNat, Int.reduceLT, Int.reduceLE, Int.reduceGT, Int.reduceGE, Int.reduceEq, Int.reduceNeg, Int.reduceAdd, Int.reduceSub, ↓reduceIte, reduceCtorEq, wn, hm, rm, w1, hz, td, w2, hx]
theorem sPart_ok : SpecOk Try.prog 48 sPart := specC_ok mixed G1_ok T2_ok fun x hp => ⟨0, 1, ePart x.1 x.2 hp⟩
#print axioms sPart_ok
#print axioms inside_ok
#print axioms within_ok
end Go.Proofs.YtmhjmjodchbhlaaR.PullPull
end
