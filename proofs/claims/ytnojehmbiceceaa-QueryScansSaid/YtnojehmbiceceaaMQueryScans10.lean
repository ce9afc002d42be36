/- Parts of one proof, joined: Num5Num, Num6Num, NumF, G33, G32, E34, E112. -/
import Derived.Test.YtnojehmbiceceaaMQueryScans9
import Derived.Test.YtnojehmbiceceaaProg
section
set_option linter.unusedVariables false
set_option linter.unusedSimpArgs false
set_option maxRecDepth 100000
namespace Go.Proofs.Ytnojehmbiceceaa.Num5Num
open Go.Ev Go.Ari Go.Proofs.Ytnojehmbiceceaa.FxNum Go.Proofs.Ytnojehmbiceceaa.Num1Num Go.Proofs.Ytnojehmbiceceaa.Num4Num
attribute [local go_sem] Ev.putR_s Ev.putR_0 Ev.thenO_s Ev.thenO_0 Ev.seqR_n Ev.seqR_e Ev.seqR_r Ev.seqR_0 Ev.blkR_e Ev.blkR_n Ev.blkR_r Ev.blkR_0 Ev.normR_s Ev.normR_0 Ev.outR_r Ev.outR_n Ev.outR_0 Ev.retS_s Ev.retS_0 Ev.pureO_s Ev.pureO_0 Ev.topR_0 Ev.topR_t Ev.topR_t0 Ev.oneL_0 Ev.oneL_s Ev.topR_d Ev.topR_nils Ev.topR_agg Ev.topR_rs Ev.evOp_move Ev.evOp_assign Ev.evOp_pick Ev.evOp_alloc Ev.evOp_box Ev.evOp_build Ev.evOp_buildSlice Ev.evOp_load Ev.evOp_store Ev.evOp_makeMap Ev.evOp_lookup Ev.evOp_mapUpdate Ev.evOp_insert Ev.evOp_nilCheck Ev.evOp_binOp Ev.evOp_unOp Ev.evOp_convert Ev.evOp_makeFunc Ev.evOp_makeSlice Ev.evOp_slice Ev.evOp_fieldAddr Ev.evOp_field Ev.evOp_indexAddr Ev.evOp_index Ev.evOp_extract Ev.evOp_call Ev.evOp_append Ev.evOp_clear Ev.evOp_len Ev.evOp_min Ev.evOp_max Ev.condR_b Ev.condR_t Ev.evOps_nil Ev.evOps_plain Ev.evOps_guard Ev.runG_eq Ev.skipG_eq Ev.condL_tt Ev.condL_ff Ev.condL_tf Ev.condL_ft Ev.condL_u Ev.condC_t Ev.condC_f Ev.evC_skip Ev.evC_ret Ev.evC_exit Ev.evC_label Ev.evC_region Ev.evC_draw Ev.evC_seq Ev.evC_cond Ev.evC_block Ev.evC_loop Ev.fin_d Ev.fin_nils Ev.fin_agg_ Ev.fin_rs Ev.finS_s Ev.mapO_fin Ev.upd_upd Ev.argv_d Ev.argv_nils Ev.argv_agg Ev.argv_rs Ev.argv_p Ev.fk_low Ev.appendTo_nils Ev.appendTo_rs Ev.consV_d Ev.consV_agg Ev.consV_p Ev.consV_rs Ev.consV_nils Ev.consV_fn Ev.consV_und Ev.consV_jk Ev.consV_grown Ev.topR_grown Ev.len_grown Ev.consV_mp Ev.sameK_i Ev.sameK_s Ev.mget_0 Ev.mget_hit Ev.mget_miss Ev.mput_0 Ev.mput_hit Ev.mput_miss Ev.apartAll Ev.apartL Ev.apartV Ev.freeAll Ev.sel Ev.keyOfV Ev.evLookup Ev.evPut Ev.hintOk Ev.keyOk Ev.consP Ev.lookV Ev.guardV Ev.dstAt Ev.evPure Ev.evStore Ev.evPureB Ev.evBin Ev.evBinO Ev.evNil Ev.isNilC Ev.evUn Ev.evConv Ev.evSlice Ev.optI Ev.lenV Ev.elemT Ev.foldI Ev.capsOk Ev.noTup Ev.nth Ev.setN Ev.killAt Ev.pad Ev.V.get Ev.V.put Ev.putD Ev.hasT Ev.newBlk Ev.upd Ev.keq Ev.empty Ev.evCall Ev.V.args Ev.argP Ev.callOf Ev.evNilP Ev.isNilP Ev.look Ev.V.view.views Ev.V.view Ev.V.toD Ev.V.toD.V.toDs Ev.V.pure.pures Ev.V.pure Ev.D.flat.flats Ev.D.flat Ev.mkAgg Ev.allD Ev.aggParts Ev.setParts Ev.setElems Ev.getPath Ev.setPath Ev.subL Ev.eqD Ev.eqD.eqDs Ev.and2 Ev.strCut Ev.evalT Ev.constT Ev.evArgs Ev.mask Ev.maskOf Ev.tableOf Ev.compT Ev.resV Ev.retV Ev.mapO Ev.elemsOf Int.cast_ofNat_Int IntWalk.i64_in IntWalk.u64_in IntWalk.u8_in beq_self_eq_true Bool.true_beq Bool.false_beq Bool.and_true Bool.true_and Bool.false_and Bool.and_false Bool.and_self Bool.not_true Bool.not_false Bool.not_eq_true cond_true cond_false if_true if_false and_true true_and and_self decide_true decide_false Bool.or_true Bool.true_or Bool.or_false Bool.false_or List.isEmpty List.isEmpty_nil List.size_toArray List.map List.length_map List.length_cons List.length_nil Option.map Option.bind Option.getD Option.isSome List.replicate Bool.false_eq_true implies_true false_implies forall_const Array.toList Array.isEmpty List.append List.nil_append List.cons_append List.drop_zero List.take_length List.take_succ_cons List.take_zero List.take_nil List.getElem?_map List.getElem?_cons_zero List.getElem?_cons_succ List.getElem?_nil List.append_nil
attribute [local go_sem] FxNum.tk2 FxNum.ik2 FxNum.zv2 FxNum.tk3 FxNum.ik3 FxNum.zv3 FxNum.tk4 FxNum.ub4 FxNum.zv4 FxNum.tk5 FxNum.ik5 FxNum.zv5 FxNum.tk9 FxNum.ek9 FxNum.tk27 FxNum.ik27 FxNum.zv27 FxNum.tk133 FxNum.ik133 FxNum.zv133 FxNum.tk147 FxNum.ik147 FxNum.zv147 FxNum.tk176 FxNum.ct176 FxNum.zv176 FxNum.tk295 FxNum.mk66_1000000 FxNum.mk86_1000000 FxNum.mk87_1000000 FxNum.mk109_0 FxNum.mk109_1000001 FxNum.mk109_1000002 FxNum.mk109_1000000 FxNum.fi109_0 FxNum.mk110_1000000 FxNum.mk118_0 FxNum.mk118_1000001 FxNum.mk118_1000002 FxNum.mk118_1000000 FxNum.fi118_0 FxNum.mk150_1000001 FxNum.mk150_1000000 FxNum.mk171_0 FxNum.mk171_1000001 FxNum.mk171_1000002 FxNum.mk171_1000000 FxNum.fi171_0 FxNum.mk172_1000000 FxNum.mk182_1000000 FxNum.mk183_1000000 FxNum.dw203_6 FxNum.kl203_6 FxNum.nc203_6 FxNum.mk203_0 FxNum.mk203_2 FxNum.mk203_1000001 FxNum.mk203_1000002 FxNum.mk203_1000003 FxNum.mk203_1000004 FxNum.mk203_1000000 FxNum.fi203_0 FxNum.fi203_2 FxNum.mk225_1000000 FxNum.mk244_1000000
noncomputable def T5 : Table := tableOf [(171, en171)]
theorem T5_ok : TableOk Try.prog (G4.map (·.1)) T5 := (table_cons Try.func171 (by kernel_rfl) (by kernel_rfl) table_nil)
def capq (n d : Int) : Int := if n / d < 9223372036854775808 then n / d else 9223372036854775807
theorem capq_eq {n d q : Int} (hd : 0 < d) (h0 : 0 ≤ q) (h1 : q * d ≤ n) (h2 : q + 1 ≤ 9223372036854775808) (h3 : n < (q + 1) * d ∨ q + 1 = 9223372036854775808) : capq n d = q := by
  have a := (Int.le_ediv_iff_mul_le hd).2 h1
  unfold capq
  rcases h3 with h3 | h3
  · have b := Int.ediv_lt_of_lt_mul hd h3
    rw [if_pos (by omega)]; omega
  · split <;> omega
def hd5 (n d : Int) (x : Nat × Int) : List V := hd171_0 (.d (.int .i64 d)) (u (n / 18446744073709551616)) (u (n % 18446744073709551616)) (u x.2) (.d (.int .i64 ((x.1 : Int) - 1)))
theorem loop5 (L : Nat) (call : Caller) (st : Store) (n d : Int) (hn0 : 0 ≤ n) (hn : n < 85070591730234615865843651857942052864) (hd : 0 < d) (hd1 : d < 9223372036854775808) :
    ∀ (m : Nat) (x : Nat × Int) (env : List V), (x.1 ≤ 63 ∧ 0 ≤ x.2 ∧ x.2 % pw x.1 = 0 ∧ x.2 + pw x.1 ≤ 9223372036854775808 ∧ x.2 * d ≤ n ∧ (n < (x.2 + pw x.1) * d ∨ x.2 + pw x.1 = 9223372036854775808)) → x.1 < m → mask (maskOf en171.ms 0) env = hd5 n d x →
      iter (evC Try.prog G4 call L en171.ms 0 0 lb171_0) (maskOf en171.ms 0) m env st = some (.exit 0, hx171_0 (u (capq n d)), st) := by
  refine iter_wf _ _ _ (hd5 n d) (fun _ => st) (fun _ => some (.exit 0, hx171_0 (u (capq n d)), st)) (fun x => x.1) ?_
  rintro ⟨j, r⟩ ⟨i1, i2, i3, i4, i5, i6⟩ k hk
  simp only at i1 i2 i3 i4 i5 i6
  cases j with
  | zero =>
    have e0 : pw 0 = 1 := rfl
    rw [e0] at i6 i4
    have er : capq n d = r := capq_eq hd i2 i5 i4 i6
    simp only [lb171_0, loopN, loops, hd5, hd171_0, hx171_0, Try.f171, go_sem, Nat.reduceAdd, Nat.reduceSub, Nat.reduceMul, Nat.reduceEqDiff, Nat.reduceBEq, Nat.reduceLT, Nat.reduceLeDiff, Nat.reducePow, Int.reduceToNat, Int.reduceLT, Int.reduceLE, Int.reduceGT, Int.reduceGE, Int.reduceEq, Int.reduceNeg, Int.reduceAdd, Int.reduceSub, ↓reduceIte, reduceCtorEq, er, show ¬ (((0 : Nat) : Int) - 1 ≥ 0) by decide]
  | succ j =>
    have p0 := pw_pos j
    have p1 := pw_succ j
    have b0 : ((j + 1 : Nat) : Int) - 1 = (j : Nat) := by omega
    have b1 : ((j : Nat) : Int) ≥ 0 := by omega
    have b2 : ¬ ((j : Nat) : Int) < 0 := by omega
    have b3 : IntKind.i64.wrap ((j : Nat) - 1 : Int) = (j : Nat) - 1 := wi_in (by omega) (by omega)
    have hs : shlI .u64 1 (j : Nat) = pw j := by rw [shl_lit .u64 1 j (by show j ≤ 64; omega), Int.one_mul]; exact wu_in (by show 0 ≤ pw j; omega) (by show pw j < _; omega)
    have ho : bitsI .or .u64 r (pw j) = r + pw j := or_add (p := pw (j + 1)) (j + 1) rfl i2 (by omega) i3 (by omega) (by omega) (by omega)
    have ud : IntKind.u64.wrap d = d := wu_in (by omega) (by omega)
    have rm := sMul_run (r + pw j) d ⟨by omega, by omega⟩ ⟨by omega, by omega⟩
    generalize hc : (r + pw j) * d = c at *
    have hdv : r % pw j = 0 := by
      have e := Int.emod_emod_of_dvd r (show pw j ∣ pw (j + 1) from ⟨2, p1⟩)
      rw [← e, i3]; simp
    by_cases ht : c ≤ n
    · have hn' := hk (j, r + pw j)
      have hI : (j ≤ 63 ∧ 0 ≤ r + pw j ∧ (r + pw j) % pw j = 0 ∧ (r + pw j) + pw j ≤ 9223372036854775808 ∧ (r + pw j) * d ≤ n ∧ (n < (r + pw j + pw j) * d ∨ r + pw j + pw j = 9223372036854775808)) := by
        refine ⟨by omega, by omega, by rw [Int.add_emod_right]; exact hdv, by omega, by omega, ?_⟩
        rw [show r + pw j + pw j = r + pw (j + 1) by omega]; exact i6
      by_cases a1 : c / 18446744073709551616 < n / 18446744073709551616
      · simp only [lb171_0, loopN, loops, hd5, hd171_0, G4, Try.f171, go_sem, Nat.reduceAdd, Nat.reduceSub, Nat.reduceMul, Nat.reduceEqDiff, Nat.reduceBEq, Nat.reduceLT, Nat.reduceLeDiff, Nat.reducePow, Int.reduceToNat, Int.reduceLT, Int.reduceLE, Int.reduceGT, Int.reduceGE, Int.reduceEq, Int.reduceNeg, Int.reduceAdd, Int.reduceSub, ↓reduceIte, reduceCtorEq, b0, b1, b2, b3, ud, hs, ho, rm, a1]
        exact hn' _ hI (by simp) (by simp only [hd5, hd171_0, go_sem, Nat.reduceAdd, Nat.reduceSub, Nat.reduceMul, Nat.reduceEqDiff, Nat.reduceBEq, Nat.reduceLT, Nat.reduceLeDiff, Nat.reducePow, Int.reduceToNat, Int.reduceLT, Int.reduceLE, Int.reduceGT, Int.reduceGE, Int.reduceEq, Int.reduceNeg, Int.reduceAdd, Int.reduceSub, ↓reduceIte, reduceCtorEq])
      · have a2 : c / 18446744073709551616 = n / 18446744073709551616 := by omega
        have a3 : c % 18446744073709551616 ≤ n % 18446744073709551616 := by omega
        have a4 : ¬ n / 18446744073709551616 < n / 18446744073709551616 := by omega
        simp only [lb171_0, loopN, loops, hd5, hd171_0, G4, Try.f171, go_sem, Nat.reduceAdd, Nat.reduceSub, Nat.reduceMul, Nat.reduceEqDiff, Nat.reduceBEq, Nat.reduceLT, Nat.reduceLeDiff, Nat.reducePow, Int.reduceToNat, Int.reduceLT, Int.reduceLE, Int.reduceGT, Int.reduceGE, Int.reduceEq, Int.reduceNeg, Int.reduceAdd, Int.reduceSub, ↓reduceIte, reduceCtorEq, b0, b1, b2, b3, ud, hs, ho, rm, a2, a3, a4]
        exact hn' _ hI (by simp) (by simp only [hd5, hd171_0, go_sem, Nat.reduceAdd, Nat.reduceSub, Nat.reduceMul, Nat.reduceEqDiff, Nat.reduceBEq, Nat.reduceLT, Nat.reduceLeDiff, Nat.reducePow, Int.reduceToNat, Int.reduceLT, Int.reduceLE, Int.reduceGT, Int.reduceGE, Int.reduceEq, Int.reduceNeg, Int.reduceAdd, Int.reduceSub, ↓reduceIte, reduceCtorEq])
    · have hn' := hk (j, r)
      have hI : (j ≤ 63 ∧ 0 ≤ r ∧ r % pw j = 0 ∧ r + pw j ≤ 9223372036854775808 ∧ r * d ≤ n ∧ (n < (r + pw j) * d ∨ r + pw j = 9223372036854775808)) := ⟨by omega, i2, hdv, by omega, i5, by omega⟩
      have a1 : ¬ c / 18446744073709551616 < n / 18446744073709551616 := by omega
      by_cases a2 : c / 18446744073709551616 = n / 18446744073709551616
      · have a3 : ¬ c % 18446744073709551616 ≤ n % 18446744073709551616 := by omega
        have a4 : ¬ n / 18446744073709551616 < n / 18446744073709551616 := by omega
        simp only [lb171_0, loopN, loops, hd5, hd171_0, G4, Try.f171, go_sem, Nat.reduceAdd, Nat.reduceSub, Nat.reduceMul, Nat.reduceEqDiff, Nat.reduceBEq, Nat.reduceLT, Nat.reduceLeDiff, Nat.reducePow, Int.reduceToNat, Int.reduceLT, Int.reduceLE, Int.reduceGT, Int.reduceGE, Int.reduceEq, Int.reduceNeg, Int.reduceAdd, Int.reduceSub, ↓reduceIte, reduceCtorEq, b0, b1, b2, b3, ud, hs, ho, rm, a2, a3, a4]
        exact hn' _ hI (by simp) (by simp only [hd5, hd171_0, go_sem, Nat.reduceAdd, Nat.reduceSub, Nat.reduceMul, Nat.reduceEqDiff, Nat.reduceBEq, Nat.reduceLT, Nat.reduceLeDiff, Nat.reducePow, Int.reduceToNat, Int.reduceLT, Int.reduceLE, Int.reduceGT, Int.reduceGE, Int.reduceEq, Int.reduceNeg, Int.reduceAdd, Int.reduceSub, ↓reduceIte, reduceCtorEq])
      · simp only [lb171_0, loopN, loops, hd5, hd171_0, G4, Try.f171, go_sem, Nat.reduceAdd, Nat.reduceSub, Nat.reduceMul, Nat.reduceEqDiff, Nat.reduceBEq, Nat.reduceLT, Nat.reduceLeDiff, Nat.reducePow, Int.reduceToNat, Int.reduceLT, Int.reduceLE, Int.reduceGT, Int.reduceGE, Int.reduceEq, Int.reduceNeg, Int.reduceAdd, Int.reduceSub, ↓reduceIte, reduceCtorEq, b0, b1, b2, b3, ud, hs, ho, rm, a1, a2]
        exact hn' _ hI (by simp) (by simp only [hd5, hd171_0, go_sem, Nat.reduceAdd, Nat.reduceSub, Nat.reduceMul, Nat.reduceEqDiff, Nat.reduceBEq, Nat.reduceLT, Nat.reduceLeDiff, Nat.reducePow, Int.reduceToNat, Int.reduceLT, Int.reduceLE, Int.reduceGT, Int.reduceGE, Int.reduceEq, Int.reduceNeg, Int.reduceAdd, Int.reduceSub, ↓reduceIte, reduceCtorEq])
def P3 (a b d : Int) : Prop := 0 ≤ a ∧ a < 9223372036854775808 ∧ 0 ≤ b ∧ b < 9223372036854775808 ∧ 0 < d ∧ d < 9223372036854775808
noncomputable def sQuo : Ev.Spec := specC (c3 .i64) (fun x => P3 x.1 x.2.1 x.2.2) fun x => [.int .i64 (capq (x.1 * x.2.1) x.2.2)]
theorem sQuo_run (a b d : Int) (h : P3 a b d) : sQuo.run [.int .i64 a, .int .i64 b, .int .i64 d] = some [.int .i64 (capq (a * b) d)] := specC_run (c3 .i64) _ _ (a, b, d) h
theorem capq_bound {n d : Int} (h0 : 0 ≤ n) (hd : 0 < d) : 0 ≤ capq n d ∧ capq n d < 9223372036854775808 := by
  have := Int.ediv_nonneg h0 (show 0 ≤ d by omega)
  unfold capq; split <;> omega
theorem eQuo (a b d : Int) (h : P3 a b d) : evTop Try.prog G4 T5 64 1 171 [.int .i64 a, .int .i64 b, .int .i64 d] = some [.int .i64 (capq (a * b) d)] := by
  unfold evTop
  simp only [List.map]
  rw [evF_s (fn := Try.f171) (msk := en171.ms) (hT := by rfl) (hb := by rfl)]
  obtain ⟨a0, a1, b0, b1, d0, d1⟩ := h
  obtain ⟨n0, n1⟩ := pos_prod (a := a) (b := b) ⟨by omega, a1⟩ ⟨by omega, b1⟩ (by omega) (by omega)
  obtain ⟨q0, q1⟩ := capq_bound n0 d0
  have ua : IntKind.u64.wrap a = a := wu_in (by omega) (by omega)
  have ub : IntKind.u64.wrap b = b := wu_in (by omega) (by omega)
  have rm := sMul_run a b ⟨by omega, by omega⟩ ⟨by omega, by omega⟩
  have wq : IntKind.i64.wrap (capq (a * b) d) = capq (a * b) d := wi_in (by omega) (by omega)
  simp only [Try.f171, G4, go_sem, Nat.reduceAdd, Nat.reduceSub, Nat.reduceMul, Nat.reduceEqDiff, Nat.reduceBEq, Nat.reduceLT, Nat.reduceLeDiff, Nat.reducePow, Int.reduceToNat, Int.reduceLT, Int.reduceLE, Int.reduceGT, Int.reduceGE, Int.reduceEq, Int.reduceNeg, Int.reduceAdd, Int.reduceSub, ↓reduceIte, reduceCtorEq, ua, ub, rm]
  conv in iter _ _ _ _ _ => change iter (evC _ G4 _ _ en171.ms _ _ lb171_0) (maskOf en171.ms 0) _ _ _
  have p63 : pw 63 = 9223372036854775808 := by decide
  rw [loop5 _ _ empty (a * b) d n0 n1 d0 d1 _ (63, 0) _ ⟨by decide, by decide, by decide, by decide, by simpa using n0, .inr (by decide)⟩ (by simp) (by simp only [hd5, hd171_0, go_sem, Nat.reduceAdd, Nat.reduceSub, Nat.reduceMul, Nat.reduceEqDiff, Nat.reduceBEq, Nat.reduceLT, Nat.reduceLeDiff, Nat.reducePow, Int.reduceToNat, Int.reduceLT, Int.reduceLE, Int.reduceGT, Int.reduceGE, Int.reduceEq, Int.reduceNeg, Int.reduceAdd, Int.reduceSub, ↓reduceIte, reduceCtorEq, p63])]
  simp only [hx171_0, go_sem, Nat.reduceAdd, Nat.reduceSub, Nat.reduceMul, Nat.reduceEqDiff, Nat.reduceBEq, Nat.reduceLT, Nat.reduceLeDiff, Nat.reducePow, Int.reduceToNat, Int.reduceLT, Int.reduceLE, Int.reduceGT, Int.reduceGE, Int.reduceEq, Int.reduceNeg, Int.reduceAdd, Int.reduceSub, ↓reduceIte, reduceCtorEq, wq]
theorem sQuo_ok : SpecOk Try.prog 171 sQuo := specC_ok mixed G4_ok T5_ok fun x hp => ⟨64, 1, eQuo x.1 x.2.1 x.2.2 hp⟩
/-! ### Down and Up, where the quotient fits -/
noncomputable def G5 : Specs := [(171, sQuo), (172, sMul)]
noncomputable def T5b : Table := tableOf [(86, en86), (87, en87)]
theorem G5_ok : ∀ g s, Ev.look G5 g = some s → SpecOk Try.prog g s := specs_cons sQuo_ok (specs_cons sMul_ok specs_nil)
theorem T5b_ok : TableOk Try.prog (G5.map (·.1)) T5b := (table_cons Try.func86 (by kernel_rfl) (by kernel_rfl) (table_cons Try.func87 (by kernel_rfl) (by kernel_rfl) table_nil))
/-- The quotient rounded up. -/
def cdiv (n d : Int) : Int := -((-n) / d)
theorem cdiv_eq {n d : Int} (hd : 0 < d) : cdiv n d = if n % d = 0 then n / d else n / d + 1 := by
  unfold cdiv
  have h1 := Int.mul_ediv_add_emod n d
  have h2 := Int.emod_nonneg n (show d ≠ 0 by omega)
  have h3 := Int.emod_lt_of_pos n hd
  split
  · rename_i h
    rw [h] at h1
    have e : -n = d * (-(n / d)) := by rw [Int.mul_neg]; omega
    rw [e, Int.mul_ediv_cancel_left _ (by omega)]; omega
  · rename_i h
    have e : -n = (d - n % d) + d * (-(n / d) - 1) := by rw [Int.mul_sub, Int.mul_neg, Int.mul_one]; omega
    rw [e, Int.add_mul_ediv_left _ _ (by omega), Int.ediv_eq_zero_of_lt (by omega) (by omega)]
    omega
theorem capq_fit {n d : Int} (h : n / d < 9223372036854775808) : capq n d = n / d := by unfold capq; rw [if_pos h]
theorem quo_eq_iff {n d : Int} (h0 : 0 ≤ n) (hd : 0 < d) : n / d * d = n ↔ n % d = 0 := by
  have h1 := Int.mul_ediv_add_emod n d
  rw [Int.mul_comm] at h1
  omega
/-- A product of one sign, quotients that fit. -/
def Fit (a b d : Int) : Prop := -9223372036854775808 < a ∧ a < 9223372036854775808 ∧ 0 ≤ b ∧ b < 9223372036854775808 ∧ 0 < d ∧ d < 9223372036854775808 ∧ -9223372036854775807 < a * b / d ∧ a * b / d < 9223372036854775807
theorem eUp (L c lv : Nat) (st : Store) (a b d : Int) (h : P3 a b d) (hq : a * b / d < 9223372036854775807) : evF Try.prog G5 T5b L (c + 1) 87 [.d (.int .i64 a), .d (.int .i64 b), .d (.int .i64 d)] lv st = some (.d (.int .i64 (cdiv (a * b) d)), st) := by
  rw [evF_s (fn := Try.f87) (msk := en87.ms) (hT := by rfl) (hb := by rfl)]
  have h' := h
  obtain ⟨a0, a1, b0, b1, d0, d1⟩ := h'
  obtain ⟨n0, n1⟩ := pos_prod (a := a) (b := b) ⟨by omega, a1⟩ ⟨by omega, b1⟩ (by omega) (by omega)
  have rq := sQuo_run a b d h
  rw [capq_fit (by omega)] at rq
  have rm := sMul_run a b ⟨by omega, by omega⟩ ⟨by omega, by omega⟩
  have q0 := Int.ediv_nonneg n0 (show 0 ≤ d by omega)
  have rm2 := sMul_run (a * b / d) d ⟨by omega, by omega⟩ ⟨by omega, by omega⟩
  have ua : IntKind.u64.wrap a = a := wu_in (by omega) (by omega)
  have ub : IntKind.u64.wrap b = b := wu_in (by omega) (by omega)
  have ud : IntKind.u64.wrap d = d := wu_in (by omega) (by omega)
  have uq : IntKind.u64.wrap (a * b / d) = a * b / d := wu_in (by omega) (by omega)
  have w1 : IntKind.i64.wrap (a * b / d + 1) = a * b / d + 1 := wi_in (by omega) (by omega)
  have hneg : ¬ a < 0 := by omega
  have ce := cdiv_eq (n := a * b) d0
  have qe := quo_eq_iff n0 d0
  generalize a * b / d * d = c at *
  generalize a * b = n at *
  by_cases e : n % d = 0
  · rw [if_pos e] at ce
    have e2 := qe.2 e
    subst e2
    simp only [Try.f87, G5, go_sem, Nat.reduceAdd, Nat.reduceSub, Nat.reduceMul, Nat.reduceEqDiff, Nat.reduceBEq, Nat.reduceLT, Nat.reduceLeDiff, Nat.reducePow, Int.reduceToNat, Int.reduceLT, Int.reduceLE, Int.reduceGT, Int.reduceGE, Int.reduceEq, Int.reduceNeg, Int.reduceAdd, Int.reduceSub, ↓reduceIte, reduceCtorEq, hneg, rq, ua, ub, rm, ud, uq, rm2, ce]
  · rw [if_neg e] at ce
    have e2 : ¬ c = n := fun q => e (qe.1 q)
    by_cases e3 : c / 18446744073709551616 = n / 18446744073709551616
    · have e4 : ¬ c % 18446744073709551616 = n % 18446744073709551616 := by omega
      simp only [Try.f87, G5, go_sem, Nat.reduceAdd, Nat.reduceSub, Nat.reduceMul, Nat.reduceEqDiff, Nat.reduceBEq, Nat.reduceLT, Nat.reduceLeDiff, Nat.reducePow, Int.reduceToNat, Int.reduceLT, Int.reduceLE, Int.reduceGT, Int.reduceGE, Int.reduceEq, Int.reduceNeg, Int.reduceAdd, Int.reduceSub, ↓reduceIte, reduceCtorEq, hneg, rq, ua, ub, rm, ud, uq, rm2, e3, e4, w1, ce]
    · simp only [Try.f87, G5, go_sem, Nat.reduceAdd, Nat.reduceSub, Nat.reduceMul, Nat.reduceEqDiff, Nat.reduceBEq, Nat.reduceLT, Nat.reduceLeDiff, Nat.reducePow, Int.reduceToNat, Int.reduceLT, Int.reduceLE, Int.reduceGT, Int.reduceGE, Int.reduceEq, Int.reduceNeg, Int.reduceAdd, Int.reduceSub, ↓reduceIte, reduceCtorEq, hneg, rq, ua, ub, rm, ud, uq, rm2, e3, w1, ce]
noncomputable def sDown : Ev.Spec := specC (c3 .i64) (fun x => Fit x.1 x.2.1 x.2.2) fun x => [.int .i64 (x.1 * x.2.1 / x.2.2)]
theorem sDown_run (a b d : Int) (h : Fit a b d) : sDown.run [.int .i64 a, .int .i64 b, .int .i64 d] = some [.int .i64 (a * b / d)] := specC_run (c3 .i64) _ _ (a, b, d) h
noncomputable def sUp : Ev.Spec := specC (c3 .i64) (fun x => Fit x.1 x.2.1 x.2.2) fun x => [.int .i64 (cdiv (x.1 * x.2.1) x.2.2)]
theorem sUp_run (a b d : Int) (h : Fit a b d) : sUp.run [.int .i64 a, .int .i64 b, .int .i64 d] = some [.int .i64 (cdiv (a * b) d)] := specC_run (c3 .i64) _ _ (a, b, d) h
theorem eDown0 (L c lv : Nat) (st : Store) (a b d : Int) (h : P3 a b d) (hq : a * b / d < 9223372036854775808) : evF Try.prog G5 T5b L (c + 1) 86 [.d (.int .i64 a), .d (.int .i64 b), .d (.int .i64 d)] lv st = some (.d (.int .i64 (a * b / d)), st) := by
  rw [evF_s (fn := Try.f86) (msk := en86.ms) (hT := by rfl) (hb := by rfl)]
  have rq := sQuo_run a b d h
  rw [capq_fit hq] at rq
  have hneg : ¬ a < 0 := by have := h.1; omega
  simp only [Try.f86, G5, go_sem, Nat.reduceAdd, Nat.reduceSub, Nat.reduceMul, Nat.reduceEqDiff, Nat.reduceBEq, Nat.reduceLT, Nat.reduceLeDiff, Nat.reducePow, Int.reduceToNat, Int.reduceLT, Int.reduceLE, Int.reduceGT, Int.reduceGE, Int.reduceEq, Int.reduceNeg, Int.reduceAdd, Int.reduceSub, ↓reduceIte, reduceCtorEq, hneg, rq]
theorem eDown (a b d : Int) (h : Fit a b d) : evTop Try.prog G5 T5b 0 2 86 [.int .i64 a, .int .i64 b, .int .i64 d] = some [.int .i64 (a * b / d)] := by
  unfold evTop
  simp only [List.map]
  obtain ⟨a0, a1, b0, b1, d0, d1, f0, f1⟩ := h
  by_cases hn : a < 0
  · rw [evF_s (fn := Try.f86) (msk := en86.ms) (hT := by rfl) (hb := by rfl)]
    have w0 : IntKind.i64.wrap (0 - a) = -a := by rw [wi]; omega
    have hc : cdiv (-a * b) d = -(a * b / d) := by unfold cdiv; rw [Int.neg_mul, Int.neg_neg]
    have w1 : IntKind.i64.wrap (0 - -(a * b / d)) = a * b / d := by rw [wi]; omega
    have hp : P3 (-a) b d := ⟨by omega, by omega, b0, b1, d0, d1⟩
    have hle : -a * b / d < 9223372036854775807 := by
      have e1 := cdiv_eq (n := -a * b) d0
      have e2 : 0 ≤ -a * b / d := Int.ediv_nonneg (Int.mul_nonneg (by omega) b0) (by omega)
      split at e1 <;> omega
    have ru := fun c lv st => eUp 0 c lv st (-a) b d hp hle
    rw [hc] at ru
    unfold G5 at ru
    simp only [Try.f86, G5, go_sem, Nat.reduceAdd, Nat.reduceSub, Nat.reduceMul, Nat.reduceEqDiff, Nat.reduceBEq, Nat.reduceLT, Nat.reduceLeDiff, Nat.reducePow, Int.reduceToNat, Int.reduceLT, Int.reduceLE, Int.reduceGT, Int.reduceGE, Int.reduceEq, Int.reduceNeg, Int.reduceAdd, Int.reduceSub, ↓reduceIte, reduceCtorEq, hn, w0, ru, w1]
  · rw [eDown0 0 1 0 empty a b d ⟨by omega, a1, b0, b1, d0, d1⟩ (by omega)]
    simp only [go_sem, Nat.reduceAdd, Nat.reduceSub, Nat.reduceMul, Nat.reduceEqDiff, Nat.reduceBEq, Nat.reduceLT, Nat.reduceLeDiff, Nat.reducePow, Int.reduceToNat, Int.reduceLT, Int.reduceLE, Int.reduceGT, Int.reduceGE, Int.reduceEq, Int.reduceNeg, Int.reduceAdd, Int.reduceSub, ↓reduceIte, reduceCtorEq]
theorem sDown_ok : SpecOk Try.prog 86 sDown := specC_ok mixed G5_ok T5b_ok fun x hp => ⟨0, 2, eDown x.1 x.2.1 x.2.2 hp⟩
theorem eUpT (a b d : Int) (h : Fit a b d) : evTop Try.prog G5 T5b 0 2 87 [.int .i64 a, .int .i64 b, .int .i64 d] = some [.int .i64 (cdiv (a * b) d)] := by
  unfold evTop
  simp only [List.map]
  obtain ⟨a0, a1, b0, b1, d0, d1, f0, f1⟩ := h
  by_cases hn : a < 0
  · rw [evF_s (fn := Try.f87) (msk := en87.ms) (hT := by rfl) (hb := by rfl)]
    have w0 : IntKind.i64.wrap (0 - a) = -a := by rw [wi]; omega
    have hp : P3 (-a) b d := ⟨by omega, by omega, b0, b1, d0, d1⟩
    have hle : -a * b / d < 9223372036854775808 := by
      have e1 := cdiv_eq (n := -a * b) d0
      have e0 : cdiv (-a * b) d = -(a * b / d) := by unfold cdiv; rw [Int.neg_mul, Int.neg_neg]
      have e2 : 0 ≤ -a * b / d := Int.ediv_nonneg (Int.mul_nonneg (by omega) b0) (by omega)
      split at e1 <;> omega
    have e2 : 0 ≤ -a * b / d := Int.ediv_nonneg (Int.mul_nonneg (by omega) b0) (by omega)
    have rd := fun c lv st => eDown0 0 c lv st (-a) b d hp hle
    have w1 : IntKind.i64.wrap (0 - -a * b / d) = cdiv (a * b) d := by
      unfold cdiv; rw [Int.neg_mul] at hle e2 ⊢; rw [wi]; omega
    unfold G5 at rd
    simp only [Try.f87, G5, go_sem, Nat.reduceAdd, Nat.reduceSub, Nat.reduceMul, Nat.reduceEqDiff, Nat.reduceBEq, Nat.reduceLT, Nat.reduceLeDiff, Nat.reducePow, Int.reduceToNat, Int.reduceLT, Int.reduceLE, Int.reduceGT, Int.reduceGE, Int.reduceEq, Int.reduceNeg, Int.reduceAdd, Int.reduceSub, ↓reduceIte, reduceCtorEq, hn, w0, rd, w1]
  · rw [eUp 0 1 0 empty a b d ⟨by omega, a1, b0, b1, d0, d1⟩ (by omega)]
    simp only [go_sem, Nat.reduceAdd, Nat.reduceSub, Nat.reduceMul, Nat.reduceEqDiff, Nat.reduceBEq, Nat.reduceLT, Nat.reduceLeDiff, Nat.reducePow, Int.reduceToNat, Int.reduceLT, Int.reduceLE, Int.reduceGT, Int.reduceGE, Int.reduceEq, Int.reduceNeg, Int.reduceAdd, Int.reduceSub, ↓reduceIte, reduceCtorEq]
theorem sUp_ok : SpecOk Try.prog 87 sUp := specC_ok mixed G5_ok T5b_ok fun x hp => ⟨0, 2, eUpT x.1 x.2.1 x.2.2 hp⟩
#print axioms sDown_ok
#print axioms sUp_ok
end Go.Proofs.Ytnojehmbiceceaa.Num5Num
end
section
set_option linter.unusedVariables false
set_option linter.unusedSimpArgs false
set_option maxRecDepth 100000
namespace Go.Proofs.Ytnojehmbiceceaa.Num6Num
open Go.Ev Go.Ari Go.Proofs.Ytnojehmbiceceaa.FxNum Go.Proofs.Ytnojehmbiceceaa.Num1Num Go.Proofs.Ytnojehmbiceceaa.Num4Num
attribute [local go_sem] Ev.putR_s Ev.putR_0 Ev.thenO_s Ev.thenO_0 Ev.seqR_n Ev.seqR_e Ev.seqR_r Ev.seqR_0 Ev.blkR_e Ev.blkR_n Ev.blkR_r Ev.blkR_0 Ev.normR_s Ev.normR_0 Ev.outR_r Ev.outR_n Ev.outR_0 Ev.retS_s Ev.retS_0 Ev.pureO_s Ev.pureO_0 Ev.topR_0 Ev.topR_t Ev.topR_t0 Ev.oneL_0 Ev.oneL_s Ev.topR_d Ev.topR_nils Ev.topR_agg Ev.topR_rs Ev.evOp_move Ev.evOp_assign Ev.evOp_pick Ev.evOp_alloc Ev.evOp_box Ev.evOp_build Ev.evOp_buildSlice Ev.evOp_load Ev.evOp_store Ev.evOp_makeMap Ev.evOp_lookup Ev.evOp_mapUpdate Ev.evOp_insert Ev.evOp_nilCheck Ev.evOp_binOp Ev.evOp_unOp Ev.evOp_convert Ev.evOp_makeFunc Ev.evOp_makeSlice Ev.evOp_slice Ev.evOp_fieldAddr Ev.evOp_field Ev.evOp_indexAddr Ev.evOp_index Ev.evOp_extract Ev.evOp_call Ev.evOp_append Ev.evOp_clear Ev.evOp_len Ev.evOp_min Ev.evOp_max Ev.condR_b Ev.condR_t Ev.evOps_nil Ev.evOps_plain Ev.evOps_guard Ev.runG_eq Ev.skipG_eq Ev.condL_tt Ev.condL_ff Ev.condL_tf Ev.condL_ft Ev.condL_u Ev.condC_t Ev.condC_f Ev.evC_skip Ev.evC_ret Ev.evC_exit Ev.evC_label Ev.evC_region Ev.evC_draw Ev.evC_seq Ev.evC_cond Ev.evC_block Ev.evC_loop Ev.fin_d Ev.fin_nils Ev.fin_agg_ Ev.fin_rs Ev.finS_s Ev.mapO_fin Ev.upd_upd Ev.argv_d Ev.argv_nils Ev.argv_agg Ev.argv_rs Ev.argv_p Ev.fk_low Ev.appendTo_nils Ev.appendTo_rs Ev.consV_d Ev.consV_agg Ev.consV_p Ev.consV_rs Ev.consV_nils Ev.consV_fn Ev.consV_und Ev.consV_jk Ev.consV_grown Ev.topR_grown Ev.len_grown Ev.consV_mp Ev.sameK_i Ev.sameK_s Ev.mget_0 Ev.mget_hit Ev.mget_miss Ev.mput_0 Ev.mput_hit Ev.mput_miss Ev.apartAll Ev.apartL Ev.apartV Ev.freeAll Ev.sel Ev.keyOfV Ev.evLookup Ev.evPut Ev.hintOk Ev.keyOk Ev.consP Ev.lookV Ev.guardV Ev.dstAt Ev.evPure Ev.evStore Ev.evPureB Ev.evBin Ev.evBinO Ev.evNil Ev.isNilC Ev.evUn Ev.evConv Ev.evSlice Ev.optI Ev.lenV Ev.elemT Ev.foldI Ev.capsOk Ev.noTup Ev.nth Ev.setN Ev.killAt Ev.pad Ev.V.get Ev.V.put Ev.putD Ev.hasT Ev.newBlk Ev.upd Ev.keq Ev.empty Ev.evCall Ev.V.args Ev.argP Ev.callOf Ev.evNilP Ev.isNilP Ev.look Ev.V.view.views Ev.V.view Ev.V.toD Ev.V.toD.V.toDs Ev.V.pure.pures Ev.V.pure Ev.D.flat.flats Ev.D.flat Ev.mkAgg Ev.allD Ev.aggParts Ev.setParts Ev.setElems Ev.getPath Ev.setPath Ev.subL Ev.eqD Ev.eqD.eqDs Ev.and2 Ev.strCut Ev.evalT Ev.constT Ev.evArgs Ev.mask Ev.maskOf Ev.tableOf Ev.compT Ev.resV Ev.retV Ev.mapO Ev.elemsOf Int.cast_ofNat_Int IntWalk.i64_in IntWalk.u64_in IntWalk.u8_in beq_self_eq_true Bool.true_beq Bool.false_beq Bool.and_true Bool.true_and Bool.false_and Bool.and_false Bool.and_self Bool.not_true Bool.not_false Bool.not_eq_true cond_true cond_false if_true if_false and_true true_and and_self decide_true decide_false Bool.or_true Bool.true_or Bool.or_false Bool.false_or List.isEmpty List.isEmpty_nil List.size_toArray List.map List.length_map List.length_cons List.length_nil Option.map Option.bind Option.getD Option.isSome List.replicate Bool.false_eq_true implies_true false_implies forall_const Array.toList Array.isEmpty List.append List.nil_append List.cons_append List.drop_zero List.take_length List.take_succ_cons List.take_zero List.take_nil List.getElem?_map List.getElem?_cons_zero List.getElem?_cons_succ List.getElem?_nil List.append_nil
attribute [local go_sem] FxNum.tk2 FxNum.ik2 FxNum.zv2 FxNum.tk3 FxNum.ik3 FxNum.zv3 FxNum.tk4 FxNum.ub4 FxNum.zv4 FxNum.tk5 FxNum.ik5 FxNum.zv5 FxNum.tk9 FxNum.ek9 FxNum.tk27 FxNum.ik27 FxNum.zv27 FxNum.tk133 FxNum.ik133 FxNum.zv133 FxNum.tk147 FxNum.ik147 FxNum.zv147 FxNum.tk176 FxNum.ct176 FxNum.zv176 FxNum.tk295 FxNum.mk66_1000000 FxNum.mk86_1000000 FxNum.mk87_1000000 FxNum.mk109_0 FxNum.mk109_1000001 FxNum.mk109_1000002 FxNum.mk109_1000000 FxNum.fi109_0 FxNum.mk110_1000000 FxNum.mk118_0 FxNum.mk118_1000001 FxNum.mk118_1000002 FxNum.mk118_1000000 FxNum.fi118_0 FxNum.mk150_1000001 FxNum.mk150_1000000 FxNum.mk171_0 FxNum.mk171_1000001 FxNum.mk171_1000002 FxNum.mk171_1000000 FxNum.fi171_0 FxNum.mk172_1000000 FxNum.mk182_1000000 FxNum.mk183_1000000 FxNum.dw203_6 FxNum.kl203_6 FxNum.nc203_6 FxNum.mk203_0 FxNum.mk203_2 FxNum.mk203_1000001 FxNum.mk203_1000002 FxNum.mk203_1000003 FxNum.mk203_1000004 FxNum.mk203_1000000 FxNum.fi203_0 FxNum.fi203_2 FxNum.mk225_1000000 FxNum.mk244_1000000
noncomputable def T6 : Table := tableOf [(118, en118)]
theorem T6_ok : TableOk Try.prog (G4.map (·.1)) T6 := (table_cons Try.func118 (by kernel_rfl) (by kernel_rfl) table_nil)
def hd6 (n : Int) (x : Nat × Int × Int) : List V := hd118_0 (u (n / 18446744073709551616)) (u (n % 18446744073709551616)) (u x.2.1) (u x.2.2)
theorem loop6 (L : Nat) (call : Caller) (st : Store) (n : Int) (hn0 : 0 ≤ n) (hn : n < 85070591730234615865843651857942052864) :
    ∀ (m : Nat) (x : Nat × Int × Int) (env : List V), (0 ≤ x.2.1 ∧ x.2.1 < x.2.2 ∧ x.2.2 ≤ 9223372036854775808 ∧ x.2.2 - x.2.1 ≤ pw x.1 ∧ x.2.1 * x.2.1 ≤ n ∧ n < x.2.2 * x.2.2) → x.1 < m → mask (maskOf en118.ms 0) env = hd6 n x →
      iter (evC Try.prog G4 call L en118.ms 0 0 lb118_0) (maskOf en118.ms 0) m env st = some (.exit 0, hx118_0 (u (isqrt n)), st) := by
  refine iter_wf _ _ _ (hd6 n) (fun _ => st) (fun _ => some (.exit 0, hx118_0 (u (isqrt n)), st)) (fun x => x.1) ?_
  rintro ⟨j, lo, hi⟩ ⟨i1, i2, i3, i4, i5, i6⟩ k hk
  simp only at i1 i2 i3 i4 i5 i6
  have w0 : IntKind.u64.wrap (hi - lo) = hi - lo := wu_in (by omega) (by omega)
  by_cases hd1 : hi - lo > 1
  case neg =>
    have e : hi = lo + 1 := by omega
    have er : isqrt n = lo := isqrt_eq ⟨i1, i5, by rw [e] at i6; exact i6⟩
    simp only [lb118_0, loopN, loops, hd6, hd118_0, hx118_0, Try.f118, go_sem, Nat.reduceAdd, Nat.reduceSub, Nat.reduceMul, Nat.reduceEqDiff, Nat.reduceBEq, Nat.reduceLT, Nat.reduceLeDiff, Nat.reducePow, Int.reduceToNat, Int.reduceLT, Int.reduceLE, Int.reduceGT, Int.reduceGE, Int.reduceEq, Int.reduceNeg, Int.reduceAdd, Int.reduceSub, ↓reduceIte, reduceCtorEq, w0, hd1, er]
  cases j with
  | zero => have e0 : pw 0 = 1 := rfl; omega
  | succ j =>
    have p1 := pw_succ j
    have t2 : (hi - lo).tdiv 2 = (hi - lo) / 2 := Int.tdiv_eq_ediv_of_nonneg (by omega)
    have w1 : IntKind.u64.wrap ((hi - lo) / 2) = (hi - lo) / 2 := wu_in (by omega) (by omega)
    have w2 : IntKind.u64.wrap (lo + (hi - lo) / 2) = lo + (hi - lo) / 2 := wu_in (by omega) (by omega)
    generalize hm : lo + (hi - lo) / 2 = md at *
    have rm := sMul_run md md ⟨by omega, by omega⟩ ⟨by omega, by omega⟩
    generalize hc : md * md = c at *
    have z2 : ¬ (2 : Int) = 0 := by decide
    by_cases ht : c ≤ n
    · have hn' := hk (j, md, hi)
      have hI : (0 ≤ md ∧ md < hi ∧ hi ≤ 9223372036854775808 ∧ hi - md ≤ pw j ∧ md * md ≤ n ∧ n < hi * hi) := ⟨by omega, by omega, i3, by omega, by omega, i6⟩
      by_cases a1 : c / 18446744073709551616 < n / 18446744073709551616
      · simp only [lb118_0, loopN, loops, hd6, hd118_0, G4, Try.f118, go_sem, Nat.reduceAdd, Nat.reduceSub, Nat.reduceMul, Nat.reduceEqDiff, Nat.reduceBEq, Nat.reduceLT, Nat.reduceLeDiff, Nat.reducePow, Int.reduceToNat, Int.reduceLT, Int.reduceLE, Int.reduceGT, Int.reduceGE, Int.reduceEq, Int.reduceNeg, Int.reduceAdd, Int.reduceSub, ↓reduceIte, reduceCtorEq, w0, hd1, t2, w1, hm, w2, z2, rm, a1]
        exact hn' _ hI (by simp) (by simp only [hd6, hd118_0, go_sem, Nat.reduceAdd, Nat.reduceSub, Nat.reduceMul, Nat.reduceEqDiff, Nat.reduceBEq, Nat.reduceLT, Nat.reduceLeDiff, Nat.reducePow, Int.reduceToNat, Int.reduceLT, Int.reduceLE, Int.reduceGT, Int.reduceGE, Int.reduceEq, Int.reduceNeg, Int.reduceAdd, Int.reduceSub, ↓reduceIte, reduceCtorEq])
      · have a2 : c / 18446744073709551616 = n / 18446744073709551616 := by omega
        have a3 : c % 18446744073709551616 ≤ n % 18446744073709551616 := by omega
        have a4 : ¬ n / 18446744073709551616 < n / 18446744073709551616 := by omega
        simp only [lb118_0, loopN, loops, hd6, hd118_0, G4, Try.f118, go_sem, Nat.reduceAdd, Nat.reduceSub, Nat.reduceMul, Nat.reduceEqDiff, Nat.reduceBEq, Nat.reduceLT, Nat.reduceLeDiff, Nat.reducePow, Int.reduceToNat, Int.reduceLT, Int.reduceLE, Int.reduceGT, Int.reduceGE, Int.reduceEq, Int.reduceNeg, Int.reduceAdd, Int.reduceSub, ↓reduceIte, reduceCtorEq, w0, hd1, t2, w1, hm, w2, z2, rm, a2, a3, a4]
        exact hn' _ hI (by simp) (by simp only [hd6, hd118_0, go_sem, Nat.reduceAdd, Nat.reduceSub, Nat.reduceMul, Nat.reduceEqDiff, Nat.reduceBEq, Nat.reduceLT, Nat.reduceLeDiff, Nat.reducePow, Int.reduceToNat, Int.reduceLT, Int.reduceLE, Int.reduceGT, Int.reduceGE, Int.reduceEq, Int.reduceNeg, Int.reduceAdd, Int.reduceSub, ↓reduceIte, reduceCtorEq])
    · have hn' := hk (j, lo, md)
      have hI : (0 ≤ lo ∧ lo < md ∧ md ≤ 9223372036854775808 ∧ md - lo ≤ pw j ∧ lo * lo ≤ n ∧ n < md * md) := ⟨i1, by omega, by omega, by omega, i5, by omega⟩
      have a1 : ¬ c / 18446744073709551616 < n / 18446744073709551616 := by omega
      by_cases a2 : c / 18446744073709551616 = n / 18446744073709551616
      · have a3 : ¬ c % 18446744073709551616 ≤ n % 18446744073709551616 := by omega
        have a4 : ¬ n / 18446744073709551616 < n / 18446744073709551616 := by omega
        simp only [lb118_0, loopN, loops, hd6, hd118_0, G4, Try.f118, go_sem, Nat.reduceAdd, Nat.reduceSub, Nat.reduceMul, Nat.reduceEqDiff, Nat.reduceBEq, Nat.reduceLT, Nat.reduceLeDiff, Nat.reducePow, Int.reduceToNat, Int.reduceLT, Int.reduceLE, Int.reduceGT, Int.reduceGE, Int.reduceEq, Int.reduceNeg, Int.reduceAdd, Int.reduceSub, ↓reduceIte, reduceCtorEq, w0, hd1, t2, w1, hm, w2, z2, rm, a2, a3, a4]
        exact hn' _ hI (by simp) (by simp only [hd6, hd118_0, go_sem, Nat.reduceAdd, Nat.reduceSub, Nat.reduceMul, Nat.reduceEqDiff, Nat.reduceBEq, Nat.reduceLT, Nat.reduceLeDiff, Nat.reducePow, Int.reduceToNat, Int.reduceLT, Int.reduceLE, Int.reduceGT, Int.reduceGE, Int.reduceEq, Int.reduceNeg, Int.reduceAdd, Int.reduceSub, ↓reduceIte, reduceCtorEq])
      · simp only [lb118_0, loopN, loops, hd6, hd118_0, G4, Try.f118, go_sem, Nat.reduceAdd, Nat.reduceSub, Nat.reduceMul, Nat.reduceEqDiff, Nat.reduceBEq, Nat.reduceLT, Nat.reduceLeDiff, Nat.reducePow, Int.reduceToNat, Int.reduceLT, Int.reduceLE, Int.reduceGT, Int.reduceGE, Int.reduceEq, Int.reduceNeg, Int.reduceAdd, Int.reduceSub, ↓reduceIte, reduceCtorEq, w0, hd1, t2, w1, hm, w2, z2, rm, a1, a2]
        exact hn' _ hI (by simp) (by simp only [hd6, hd118_0, go_sem, Nat.reduceAdd, Nat.reduceSub, Nat.reduceMul, Nat.reduceEqDiff, Nat.reduceBEq, Nat.reduceLT, Nat.reduceLeDiff, Nat.reducePow, Int.reduceToNat, Int.reduceLT, Int.reduceLE, Int.reduceGT, Int.reduceGE, Int.reduceEq, Int.reduceNeg, Int.reduceAdd, Int.reduceSub, ↓reduceIte, reduceCtorEq])
def P2 (a b : Int) : Prop := 0 ≤ a ∧ a < 9223372036854775808 ∧ 0 ≤ b ∧ b < 9223372036854775808
noncomputable def sRoot : Ev.Spec := specC (c2 .i64) (fun x => P2 x.1 x.2) fun x => [.int .i64 (isqrt (x.1 * x.2))]
theorem sRoot_run (a b : Int) (h : P2 a b) : sRoot.run [.int .i64 a, .int .i64 b] = some [.int .i64 (isqrt (a * b))] := specC_run (c2 .i64) _ _ (a, b) h
theorem eRoot (a b : Int) (h : P2 a b) : evTop Try.prog G4 T6 65 1 118 [.int .i64 a, .int .i64 b] = some [.int .i64 (isqrt (a * b))] := by
  unfold evTop
  simp only [List.map]
  rw [evF_s (fn := Try.f118) (msk := en118.ms) (hT := by rfl) (hb := by rfl)]
  obtain ⟨a0, a1, b0, b1⟩ := h
  obtain ⟨n0, n1⟩ := pos_prod (a := a) (b := b) ⟨by omega, a1⟩ ⟨by omega, b1⟩ (by omega) (by omega)
  obtain ⟨q0, q1⟩ := isqrt_bound n0 n1
  have ua : IntKind.u64.wrap a = a := wu_in (by omega) (by omega)
  have ub : IntKind.u64.wrap b = b := wu_in (by omega) (by omega)
  have rm := sMul_run a b ⟨by omega, by omega⟩ ⟨by omega, by omega⟩
  have wq : IntKind.i64.wrap (isqrt (a * b)) = isqrt (a * b) := wi_in (by omega) (by omega)
  simp only [Try.f118, G4, go_sem, Nat.reduceAdd, Nat.reduceSub, Nat.reduceMul, Nat.reduceEqDiff, Nat.reduceBEq, Nat.reduceLT, Nat.reduceLeDiff, Nat.reducePow, Int.reduceToNat, Int.reduceLT, Int.reduceLE, Int.reduceGT, Int.reduceGE, Int.reduceEq, Int.reduceNeg, Int.reduceAdd, Int.reduceSub, ↓reduceIte, reduceCtorEq, ua, ub, rm]
  conv in iter _ _ _ _ _ => change iter (evC _ G4 _ _ en118.ms _ _ lb118_0) (maskOf en118.ms 0) _ _ _
  rw [loop6 _ _ empty (a * b) n0 n1 _ (63, 0, 9223372036854775808) _ ⟨by decide, by decide, by decide, by decide, by simpa using n0, by simpa using n1⟩ (by simp) (by simp only [hd6, hd118_0, go_sem, Nat.reduceAdd, Nat.reduceSub, Nat.reduceMul, Nat.reduceEqDiff, Nat.reduceBEq, Nat.reduceLT, Nat.reduceLeDiff, Nat.reducePow, Int.reduceToNat, Int.reduceLT, Int.reduceLE, Int.reduceGT, Int.reduceGE, Int.reduceEq, Int.reduceNeg, Int.reduceAdd, Int.reduceSub, ↓reduceIte, reduceCtorEq])]
  simp only [hx118_0, go_sem, Nat.reduceAdd, Nat.reduceSub, Nat.reduceMul, Nat.reduceEqDiff, Nat.reduceBEq, Nat.reduceLT, Nat.reduceLeDiff, Nat.reducePow, Int.reduceToNat, Int.reduceLT, Int.reduceLE, Int.reduceGT, Int.reduceGE, Int.reduceEq, Int.reduceNeg, Int.reduceAdd, Int.reduceSub, ↓reduceIte, reduceCtorEq, wq]
theorem sRoot_ok : SpecOk Try.prog 118 sRoot := specC_ok mixed G4_ok T6_ok fun x hp => ⟨65, 1, eRoot x.1 x.2 hp⟩
#print axioms sRoot_ok
end Go.Proofs.Ytnojehmbiceceaa.Num6Num
end
section
set_option linter.unusedVariables false
set_option linter.unusedSimpArgs false
namespace Go.Proofs.Ytnojehmbiceceaa.P
open Go Go.Ev Go.Ari Go.Proofs.Ytnojehmbiceceaa.Num1Num Go.Proofs.Ytnojehmbiceceaa.Num2Num Go.Proofs.Ytnojehmbiceceaa.Num3Num Go.Proofs.Ytnojehmbiceceaa.Num4Num Go.Proofs.Ytnojehmbiceceaa.Num5Num Go.Proofs.Ytnojehmbiceceaa.Num6Num
theorem specP_weak {P : Program} {f : FuncId} {α β : Type} {c : CodL α} {p : α → Option β} {res : β → List D} {old : Ev.Spec} (ho : SpecOk P f old) (h : ∀ x r, p x = some r → old.run (c.e x) = some (res r)) : SpecOk P f (specP c p res) :=
  SpecOk.weak ho fun xs rs hr => by
    unfold specP specC at hr
    obtain ⟨x, rfl, hp, rfl⟩ := mkSpec_inv hr
    cases hx : p x with
    | none => rw [hx] at hp; cases hp
    | some r => simp only; exact h x r hx
def uB (x : Int) : Bool := decide (0 ≤ x) && decide (x < 18446744073709551616)
def iB (x : Int) : Bool := decide (-9223372036854775808 ≤ x) && decide (x < 9223372036854775808)
theorem uB_i {x : Int} (h : uB x = true) : U x := by simpa [uB, U] using h
theorem iB_i {x : Int} (h : iB x = true) : I x := by simpa [iB, I] using h
abbrev C1 (k : IntKind) : CodL (Int × Unit) := cCons (cI k) cNil
abbrev C2 (k : IntKind) : CodL (Int × Int × Unit) := cCons (cI k) (cCons (cI k) cNil)
abbrev C3 (k : IntKind) : CodL (Int × Int × Int × Unit) := cCons (cI k) (cCons (cI k) (cCons (cI k) cNil))
abbrev CW : Cod (Int × Int × Unit) := cA 176 (cCons (cI .i64) (cCons (cI .u64) cNil))
/-! ### math/bits -/
def p_bits_Add64 (L : Nat) (x y c : Int) : Option (Int × Int) := cb (uB x && uB y && (decide (0 ≤ c) && decide (c ≤ 1))) (some ((x + y + c) % 18446744073709551616, (x + y + c) / 18446744073709551616)) none
noncomputable def s_bits_Add64 (L : Nat) : Ev.Spec := specP (C3 .u64) (fun x => p_bits_Add64 L x.1 x.2.1 x.2.2.1) fun r => [.int .u64 r.1, .int .u64 r.2]
theorem s_bits_Add64_run (L : Nat) (x y c : Int) : (s_bits_Add64 L).run [.int .u64 x, .int .u64 y, .int .u64 c] = (p_bits_Add64 L x y c).map fun r => [.int .u64 r.1, .int .u64 r.2] := specP_run (C3 .u64) (fun x => p_bits_Add64 L x.1 x.2.1 x.2.2.1) (fun r => [.int .u64 r.1, .int .u64 r.2]) (x, y, c, ())
theorem ok_bits_Add64 (L : Nat) (hL : L ≤ 4611686018427387904) : SpecOk Try.prog 228 (s_bits_Add64 L) := specP_weak sAdd_ok fun x r h => by
  rcases cb_e h with ⟨hc, h⟩ | ⟨_, h⟩
  · simp only [Bool.and_eq_true, decide_eq_true_eq] at hc
    cases h
    exact sAdd_run x.1 x.2.1 x.2.2.1 (uB_i hc.1.1) (uB_i hc.1.2) hc.2.1 hc.2.2
  · cases h
def p_bits_Mul64 (L : Nat) (x y : Int) : Option (Int × Int) := cb (uB x && uB y) (some (x * y / 18446744073709551616, x * y % 18446744073709551616)) none
noncomputable def s_bits_Mul64 (L : Nat) : Ev.Spec := specP (C2 .u64) (fun x => p_bits_Mul64 L x.1 x.2.1) fun r => [.int .u64 r.1, .int .u64 r.2]
theorem s_bits_Mul64_run (L : Nat) (x y : Int) : (s_bits_Mul64 L).run [.int .u64 x, .int .u64 y] = (p_bits_Mul64 L x y).map fun r => [.int .u64 r.1, .int .u64 r.2] := specP_run (C2 .u64) (fun x => p_bits_Mul64 L x.1 x.2.1) (fun r => [.int .u64 r.1, .int .u64 r.2]) (x, y, ())
theorem ok_bits_Mul64 (L : Nat) (hL : L ≤ 4611686018427387904) : SpecOk Try.prog 172 (s_bits_Mul64 L) := specP_weak sMul_ok fun x r h => by
  rcases cb_e h with ⟨hc, h⟩ | ⟨_, h⟩
  · simp only [Bool.and_eq_true] at hc
    cases h
    exact sMul_run x.1 x.2.1 (uB_i hc.1) (uB_i hc.2)
  · cases h
def p_bits_Div64 (L : Nat) (a b c : Int) : Option (Int × Int) := cb (uB a && uB b && uB c && decide (a < c)) (some ((a * 18446744073709551616 + b) / c, (a * 18446744073709551616 + b) % c)) none
noncomputable def s_bits_Div64 (L : Nat) : Ev.Spec := specP (C3 .u64) (fun x => p_bits_Div64 L x.1 x.2.1 x.2.2.1) fun r => [.int .u64 r.1, .int .u64 r.2]
theorem s_bits_Div64_run (L : Nat) (x y c : Int) : (s_bits_Div64 L).run [.int .u64 x, .int .u64 y, .int .u64 c] = (p_bits_Div64 L x y c).map fun r => [.int .u64 r.1, .int .u64 r.2] := specP_run (C3 .u64) (fun x => p_bits_Div64 L x.1 x.2.1 x.2.2.1) (fun r => [.int .u64 r.1, .int .u64 r.2]) (x, y, c, ())
theorem ok_bits_Div64 (L : Nat) (hL : L ≤ 4611686018427387904) : SpecOk Try.prog 203 (s_bits_Div64 L) := specP_weak sDiv_ok fun x r h => by
  rcases cb_e h with ⟨hc, h⟩ | ⟨_, h⟩
  · simp only [Bool.and_eq_true, decide_eq_true_eq] at hc
    cases h
    exact sDiv_run x.1 x.2.1 x.2.2.1 (uB_i hc.1.1.1) (uB_i hc.1.1.2) (uB_i hc.1.2) hc.2
  · cases h
/-! ### package num -/
def wideN (n : Int) : Int × Int := (IntKind.i64.wrap (n / 18446744073709551616), n % 18446744073709551616)
def p_num_Product (L : Nat) (a b : Int) : Option (Int × Int) := cb (iB a && iB b) (some (wideN (a * b))) none
noncomputable def s_num_Product (L : Nat) : Ev.Spec := specP (C2 .i64) (fun x => p_num_Product L x.1 x.2.1) fun r => [.agg 176 [.int .i64 r.1, .int .u64 r.2]]
theorem s_num_Product_run (L : Nat) (x y : Int) : (s_num_Product L).run [.int .i64 x, .int .i64 y] = (p_num_Product L x y).map fun r => [.agg 176 [.int .i64 r.1, .int .u64 r.2]] := specP_run (C2 .i64) (fun x => p_num_Product L x.1 x.2.1) (fun r => [.agg 176 [.int .i64 r.1, .int .u64 r.2]]) (x, y, ())
theorem ok_num_Product (L : Nat) (hL : L ≤ 4611686018427387904) : SpecOk Try.prog 110 (s_num_Product L) := specP_weak sProd_ok fun x r h => by
  rcases cb_e h with ⟨hc, h⟩ | ⟨_, h⟩
  · simp only [Bool.and_eq_true] at hc
    cases h
    exact sProd_run x.1 x.2.1 (iB_i hc.1) (iB_i hc.2)
  · cases h
def p_num_MulDiv (L : Nat) (a b c : Int) : Option (Int × Int) := cb (iB a && iB b && iB c) (some (quoR (a * b) c)) none
noncomputable def s_num_MulDiv (L : Nat) : Ev.Spec := specP (C3 .i64) (fun x => p_num_MulDiv L x.1 x.2.1 x.2.2.1) fun r => [.int .i64 r.1, .int .i64 r.2]
theorem s_num_MulDiv_run (L : Nat) (x y c : Int) : (s_num_MulDiv L).run [.int .i64 x, .int .i64 y, .int .i64 c] = (p_num_MulDiv L x y c).map fun r => [.int .i64 r.1, .int .i64 r.2] := specP_run (C3 .i64) (fun x => p_num_MulDiv L x.1 x.2.1 x.2.2.1) (fun r => [.int .i64 r.1, .int .i64 r.2]) (x, y, c, ())
theorem ok_num_MulDiv (L : Nat) (hL : L ≤ 4611686018427387904) : SpecOk Try.prog 66 (s_num_MulDiv L) := specP_weak sMulDiv_ok fun x r h => by
  rcases cb_e h with ⟨hc, h⟩ | ⟨_, h⟩
  · simp only [Bool.and_eq_true] at hc
    cases h
    exact sMulDiv_run x.1 x.2.1 x.2.2.1 (iB_i hc.1.1) (iB_i hc.1.2) (iB_i hc.2)
  · cases h
def p_num_Wide_Div (L : Nat) (a b d : Int) : Option (Int × Int) := cb (iB a && uB b && iB d) (some (quoR (a * 18446744073709551616 + b) d)) none
noncomputable def s_num_Wide_Div (L : Nat) : Ev.Spec := specP (cCons CW (C1 .i64)) (fun x => p_num_Wide_Div L x.1.1 x.1.2.1 x.2.1) fun r => [.int .i64 r.1, .int .i64 r.2]
theorem s_num_Wide_Div_run (L : Nat) (a b d : Int) : (s_num_Wide_Div L).run [.agg 176 [.int .i64 a, .int .u64 b], .int .i64 d] = (p_num_Wide_Div L a b d).map fun r => [.int .i64 r.1, .int .i64 r.2] := specP_run (cCons CW (C1 .i64)) (fun x => p_num_Wide_Div L x.1.1 x.1.2.1 x.2.1) (fun r => [.int .i64 r.1, .int .i64 r.2]) ((a, b, ()), d, ())
theorem ok_num_Wide_Div (L : Nat) (hL : L ≤ 4611686018427387904) : SpecOk Try.prog 150 (s_num_Wide_Div L) := specP_weak sWdiv_ok fun x r h => by
  rcases cb_e h with ⟨hc, h⟩ | ⟨_, h⟩
  · simp only [Bool.and_eq_true] at hc
    cases h
    exact sWdiv_run x.1.1 x.1.2.1 x.2.1 (iB_i hc.1.1) (uB_i hc.1.2) (iB_i hc.2)
  · cases h
def p_num_Wide_Neg (L : Nat) (a b : Int) : Option (Int × Int) := cb (iB a && uB b) (some (wideN (-(a * 18446744073709551616 + b)))) none
noncomputable def s_num_Wide_Neg (L : Nat) : Ev.Spec := specP (cCons CW cNil) (fun x => p_num_Wide_Neg L x.1.1 x.1.2.1) fun r => [.agg 176 [.int .i64 r.1, .int .u64 r.2]]
theorem s_num_Wide_Neg_run (L : Nat) (a b : Int) : (s_num_Wide_Neg L).run [.agg 176 [.int .i64 a, .int .u64 b]] = (p_num_Wide_Neg L a b).map fun r => [.agg 176 [.int .i64 r.1, .int .u64 r.2]] := specP_run (cCons CW cNil) (fun x => p_num_Wide_Neg L x.1.1 x.1.2.1) (fun r => [.agg 176 [.int .i64 r.1, .int .u64 r.2]]) ((a, b, ()), ())
theorem ok_num_Wide_Neg (L : Nat) (hL : L ≤ 4611686018427387904) : SpecOk Try.prog 183 (s_num_Wide_Neg L) := specP_weak sNeg_ok fun x r h => by
  rcases cb_e h with ⟨hc, h⟩ | ⟨_, h⟩
  · simp only [Bool.and_eq_true] at hc
    cases h
    exact sNeg_run x.1.1 x.1.2.1 (iB_i hc.1) (uB_i hc.2)
  · cases h
/-- The root by bits: it can be run. -/
def rootC (n : Int) : Nat → Int → Int
  | 0, r => r
  | k + 1, r => if (r + 2 ^ k) * (r + 2 ^ k) ≤ n then rootC n k (r + 2 ^ k) else rootC n k r
theorem rootC_eq (n : Int) : ∀ (k : Nat) (r : Int), 0 ≤ r → r * r ≤ n → n < (r + 2 ^ k) * (r + 2 ^ k) → rootC n k r = isqrt n
  | 0, r, h0, h1, h2 => by
    rw [rootC]
    exact (isqrt_eq ⟨h0, h1, by simpa using h2⟩).symm
  | k + 1, r, h0, h1, h2 => by
    have hp : (0 : Int) < 2 ^ k := Int.pow_pos (by decide)
    have e : (2 : Int) ^ (k + 1) = 2 ^ k + 2 ^ k := by rw [Int.pow_succ]; omega
    rw [rootC]
    split
    · rename_i c
      exact rootC_eq n k _ (by omega) c (by rw [Int.add_assoc, ← e]; exact h2)
    · rename_i c
      exact rootC_eq n k r h0 h1 (by omega)
theorem rootC_ok {n : Int} (h0 : 0 ≤ n) (h : n < 340282366920938463463374607431768211456) : rootC n 64 0 = isqrt n := rootC_eq n 64 0 (by omega) (by omega) (by simpa using h)
def rootB (a b : Int) : Int := if a < 0 then 0 else if b < 0 then 0 else rootC (a * b) 64 0
theorem prod_lt {a b : Int} (ha : a < 9223372036854775808) (hb : b < 9223372036854775808) (a0 : 0 ≤ a) (b0 : 0 ≤ b) : a * b < 340282366920938463463374607431768211456 := by
  have := Int.mul_le_mul (show a ≤ 9223372036854775808 by omega) (show b ≤ 9223372036854775808 by omega) b0 (by decide)
  omega
theorem rootB_eq {a b : Int} (ha : iB a = true) (hb : iB b = true) : rootB a b = rootR a b := by
  unfold rootB rootR
  have h1 := iB_i ha
  have h2 := iB_i hb
  unfold I at h1 h2
  split
  · rfl
  · split
    · rfl
    · exact rootC_ok (Int.mul_nonneg (by omega) (by omega)) (prod_lt h1.2 h2.2 (by omega) (by omega))
def p_num_SqrtMul (L : Nat) (a b : Int) : Option Int := cb (iB a && iB b) (some (rootB a b)) none
noncomputable def s_num_SqrtMul (L : Nat) : Ev.Spec := specP (C2 .i64) (fun x => p_num_SqrtMul L x.1 x.2.1) fun r => [.int .i64 r]
theorem s_num_SqrtMul_run (L : Nat) (a b : Int) : (s_num_SqrtMul L).run [.int .i64 a, .int .i64 b] = (p_num_SqrtMul L a b).map fun r => [.int .i64 r] := specP_run (C2 .i64) (fun x => p_num_SqrtMul L x.1 x.2.1) (fun r => [.int .i64 r]) (a, b, ())
theorem ok_num_SqrtMul (L : Nat) (hL : L ≤ 4611686018427387904) : SpecOk Try.prog 109 (s_num_SqrtMul L) := specP_weak sSqrtMul_ok fun x r h => by
  rcases cb_e h with ⟨hc, h⟩ | ⟨_, h⟩
  · simp only [Bool.and_eq_true] at hc
    cases h
    have hs := sSqrtMul_run x.1 x.2.1 (iB_i hc.1) (iB_i hc.2)
    rw [← rootB_eq hc.1 hc.2] at hs
    exact hs
  · cases h
/-! ### the document's -/
def fitB (a b d : Int) : Bool := decide (-9223372036854775808 < a) && (decide (a < 9223372036854775808) && (decide (0 ≤ b) && (decide (b < 9223372036854775808) && (decide (0 < d) && (decide (d < 9223372036854775808) && (decide (-9223372036854775807 < a * b / d) && decide (a * b / d < 9223372036854775807)))))))
theorem fitB_i {a b d : Int} (h : fitB a b d = true) : Fit a b d := by simpa [fitB, Fit] using h
def p2B (a b : Int) : Bool := decide (0 ≤ a) && (decide (a < 9223372036854775808) && (decide (0 ≤ b) && decide (b < 9223372036854775808)))
theorem p2B_i {a b : Int} (h : p2B a b = true) : P2 a b := by simpa [p2B, P2] using h
def p_spyref3_Down (L : Nat) (a b d : Int) : Option Int := cb (fitB a b d) (some (a * b / d)) none
noncomputable def s_spyref3_Down (L : Nat) : Ev.Spec := specP (C3 .i64) (fun x => p_spyref3_Down L x.1 x.2.1 x.2.2.1) fun r => [.int .i64 r]
theorem s_spyref3_Down_run (L : Nat) (x y c : Int) : (s_spyref3_Down L).run [.int .i64 x, .int .i64 y, .int .i64 c] = (p_spyref3_Down L x y c).map fun r => [.int .i64 r] := specP_run (C3 .i64) (fun x => p_spyref3_Down L x.1 x.2.1 x.2.2.1) (fun r => [.int .i64 r]) (x, y, c, ())
theorem ok_spyref3_Down (L : Nat) (hL : L ≤ 4611686018427387904) : SpecOk Try.prog 86 (s_spyref3_Down L) := specP_weak sDown_ok fun x r h => by
  rcases cb_e h with ⟨hc, h⟩ | ⟨_, h⟩
  · cases h
    exact sDown_run x.1 x.2.1 x.2.2.1 (fitB_i hc)
  · cases h
def p_spyref3_Up (L : Nat) (a b d : Int) : Option Int := cb (fitB a b d) (some (cdiv (a * b) d)) none
noncomputable def s_spyref3_Up (L : Nat) : Ev.Spec := specP (C3 .i64) (fun x => p_spyref3_Up L x.1 x.2.1 x.2.2.1) fun r => [.int .i64 r]
theorem s_spyref3_Up_run (L : Nat) (x y c : Int) : (s_spyref3_Up L).run [.int .i64 x, .int .i64 y, .int .i64 c] = (p_spyref3_Up L x y c).map fun r => [.int .i64 r] := specP_run (C3 .i64) (fun x => p_spyref3_Up L x.1 x.2.1 x.2.2.1) (fun r => [.int .i64 r]) (x, y, c, ())
theorem ok_spyref3_Up (L : Nat) (hL : L ≤ 4611686018427387904) : SpecOk Try.prog 87 (s_spyref3_Up L) := specP_weak sUp_ok fun x r h => by
  rcases cb_e h with ⟨hc, h⟩ | ⟨_, h⟩
  · cases h
    exact sUp_run x.1 x.2.1 x.2.2.1 (fitB_i hc)
  · cases h
def p_spyref3_Root (L : Nat) (a b : Int) : Option Int := cb (p2B a b) (some (rootC (a * b) 64 0)) none
noncomputable def s_spyref3_Root (L : Nat) : Ev.Spec := specP (C2 .i64) (fun x => p_spyref3_Root L x.1 x.2.1) fun r => [.int .i64 r]
theorem s_spyref3_Root_run (L : Nat) (a b : Int) : (s_spyref3_Root L).run [.int .i64 a, .int .i64 b] = (p_spyref3_Root L a b).map fun r => [.int .i64 r] := specP_run (C2 .i64) (fun x => p_spyref3_Root L x.1 x.2.1) (fun r => [.int .i64 r]) (a, b, ())
theorem ok_spyref3_Root (L : Nat) (hL : L ≤ 4611686018427387904) : SpecOk Try.prog 118 (s_spyref3_Root L) := specP_weak sRoot_ok fun x r h => by
  rcases cb_e h with ⟨hc, h⟩ | ⟨_, h⟩
  · cases h
    have hp := p2B_i hc
    unfold P2 at hp
    rw [rootC_ok (Int.mul_nonneg hp.1 hp.2.2.1) (prod_lt hp.2.1 hp.2.2.2 hp.1 hp.2.2.1)]
    exact sRoot_run x.1 x.2.1 (p2B_i hc)
  · cases h
end Go.Proofs.Ytnojehmbiceceaa.P
end
section
set_option linter.unusedVariables false
set_option linter.unusedSimpArgs false
set_option maxRecDepth 100000
namespace Go.Proofs.Ytnojehmbiceceaa.P
open Go.Ev Go.IntKind Go.Proofs.Ytnojehmbiceceaa Go.Proofs.Ytnojehmbiceceaa.Ty Go.Proofs.Ytnojehmbiceceaa.E
def p_query_Near_l0 (L : Nat) (a5 : Int) (a6 : Int) (a7 : Bool) (a8 : Int) (a9 : Int) (a10 : Bool) (a11 : Int) (a12 : Int) (a13 : Bool) (a14 : Int) (a15 : Int) (a16 : Bool) (a17 : Int) (a18 : Int) (a19 : Bool) (a20 : Int) (a21 : Int) (a22 : Bool) : Nat → Int → Int → Int → Int → Int → Int → Int → Option (Int × Int × Int × Int × Int × Int)
  | 0, s4, s32, s33, s34, s35, s36, s37 => some (s32, s33, s34, s35, s36, s37)
  | tl + 1, s4, s32, s33, s34, s35, s36, s37 => cb (decide (s4 = 0)) (bnd (p_query_product L a5 a6 a7 a14 a15 a16) fun r47 => bnd (p_query_square L a5 a6 a7) fun r48 => bnd (p_query_square L a14 a15 a16) fun r49 => p_query_Near_l0 L a5 a6 a7 a8 a9 a10 a11 a12 a13 a14 a15 a16 a17 a18 a19 a20 a21 a22 tl (s4 + 1) (i64.wrap (s32 + r47.1)) (i64.wrap (s33 + r47.2)) (i64.wrap (s34 + r48.1)) (i64.wrap (s35 + r48.2)) (i64.wrap (s36 + r49.1)) (i64.wrap (s37 + r49.2))) (cb (decide (s4 = 1)) (bnd (p_query_product L a8 a9 a10 a17 a18 a19) fun r50 => bnd (p_query_square L a8 a9 a10) fun r51 => bnd (p_query_square L a17 a18 a19) fun r52 => p_query_Near_l0 L a5 a6 a7 a8 a9 a10 a11 a12 a13 a14 a15 a16 a17 a18 a19 a20 a21 a22 tl (s4 + 1) (i64.wrap (s32 + r50.1)) (i64.wrap (s33 + r50.2)) (i64.wrap (s34 + r51.1)) (i64.wrap (s35 + r51.2)) (i64.wrap (s36 + r52.1)) (i64.wrap (s37 + r52.2))) (cb (decide (s4 = 2)) (bnd (p_query_product L a11 a12 a13 a20 a21 a22) fun r53 => bnd (p_query_square L a11 a12 a13) fun r54 => bnd (p_query_square L a20 a21 a22) fun r55 => p_query_Near_l0 L a5 a6 a7 a8 a9 a10 a11 a12 a13 a14 a15 a16 a17 a18 a19 a20 a21 a22 tl (s4 + 1) (i64.wrap (s32 + r53.1)) (i64.wrap (s33 + r53.2)) (i64.wrap (s34 + r54.1)) (i64.wrap (s35 + r54.2)) (i64.wrap (s36 + r55.1)) (i64.wrap (s37 + r55.2))) (none)))
def p_query_Near (L : Nat) (a0_0_0 : Int) (a0_0_1 : Int) (a0_0_2 : Bool) (a0_1_0 : Int) (a0_1_1 : Int) (a0_1_2 : Bool) (a0_2_0 : Int) (a0_2_1 : Int) (a0_2_2 : Bool) (a1_0_0 : Int) (a1_0_1 : Int) (a1_0_2 : Bool) (a1_1_0 : Int) (a1_1_1 : Int) (a1_1_2 : Bool) (a1_2_0 : Int) (a1_2_1 : Int) (a1_2_2 : Bool) (a2 : Int) : Option Int := bnd (p_query_sides L a0_0_0 a0_0_1 a0_0_2 a0_1_0 a0_1_1 a0_1_2 a0_2_0 a0_2_1 a0_2_2) fun r1 => bnd (p_query_sides L a1_0_0 a1_0_1 a1_0_2 a1_1_0 a1_1_1 a1_1_2 a1_2_0 a1_2_1 a1_2_2) fun r2 => if a2 < 0 then (some 0) else (if a2 > 1073741824 then (some 0) else (cb r1.2.2.2.2.2.2.2.2.2 (cb r2.2.2.2.2.2.2.2.2.2 (rq (3 < L) <| bnd (p_query_Near_l0 L r1.1 r1.2.1 r1.2.2.1 r1.2.2.2.1 r1.2.2.2.2.1 r1.2.2.2.2.2.1 r1.2.2.2.2.2.2.1 r1.2.2.2.2.2.2.2.1 r1.2.2.2.2.2.2.2.2.1 r2.1 r2.2.1 r2.2.2.1 r2.2.2.2.1 r2.2.2.2.2.1 r2.2.2.2.2.2.1 r2.2.2.2.2.2.2.1 r2.2.2.2.2.2.2.2.1 r2.2.2.2.2.2.2.2.2.1 3 0 0 0 0 0 0 0) fun o56 => bnd (p_num_SqrtMul L o56.2.2.2.1 o56.2.2.2.2.2) fun r58 => bnd (p_num_Product L r58 r58) fun r59 => bnd (p_num_Product L o56.2.2.2.1 o56.2.2.2.2.2) fun r60 => bnd (p_num_Wide_Cmp L r59.1 r59.2 r60.1 r60.2) fun r61 => if r61 < 0 then (if o56.2.2.1 > 0 then (if o56.2.2.2.2.1 > 0 then (bnd (p_num_Product L o56.1 1073741824) fun r62 => bnd (p_num_Product L a2 (i64.wrap (r58 + 1))) fun r63 => bnd (p_num_Wide_Cmp L r62.1 r62.2 r63.1 r63.2) fun r64 => if r64 ≥ 0 then (some 2) else (bnd (p_num_Product L o56.2.1 1073741824) fun r65 => bnd (p_num_SqrtMul L o56.2.2.1 o56.2.2.2.2.1) fun r66 => bnd (p_num_Product L a2 r66) fun r67 => bnd (p_num_Wide_Cmp L r65.1 r65.2 r67.1 r67.2) fun r68 => if r68 < 0 then (some 0) else (some 1))) else (bnd (p_num_Product L o56.2.1 1073741824) fun r69 => bnd (p_num_SqrtMul L o56.2.2.1 o56.2.2.2.2.1) fun r70 => bnd (p_num_Product L a2 r70) fun r71 => bnd (p_num_Wide_Cmp L r69.1 r69.2 r71.1 r71.2) fun r72 => if r72 < 0 then (some 0) else (some 1))) else (bnd (p_num_Product L o56.2.1 1073741824) fun r73 => bnd (p_num_SqrtMul L o56.2.2.1 o56.2.2.2.2.1) fun r74 => bnd (p_num_Product L a2 r74) fun r75 => bnd (p_num_Wide_Cmp L r73.1 r73.2 r75.1 r75.2) fun r76 => if r76 < 0 then (some 0) else (some 1))) else (if o56.2.2.1 > 0 then (if o56.2.2.2.2.1 > 0 then (bnd (p_num_Product L o56.1 1073741824) fun r77 => bnd (p_num_Product L a2 r58) fun r78 => bnd (p_num_Wide_Cmp L r77.1 r77.2 r78.1 r78.2) fun r79 => if r79 ≥ 0 then (some 2) else (bnd (p_num_Product L o56.2.1 1073741824) fun r80 => bnd (p_num_SqrtMul L o56.2.2.1 o56.2.2.2.2.1) fun r81 => bnd (p_num_Product L a2 r81) fun r82 => bnd (p_num_Wide_Cmp L r80.1 r80.2 r82.1 r82.2) fun r83 => if r83 < 0 then (some 0) else (some 1))) else (bnd (p_num_Product L o56.2.1 1073741824) fun r84 => bnd (p_num_SqrtMul L o56.2.2.1 o56.2.2.2.2.1) fun r85 => bnd (p_num_Product L a2 r85) fun r86 => bnd (p_num_Wide_Cmp L r84.1 r84.2 r86.1 r86.2) fun r87 => if r87 < 0 then (some 0) else (some 1))) else (bnd (p_num_Product L o56.2.1 1073741824) fun r88 => bnd (p_num_SqrtMul L o56.2.2.1 o56.2.2.2.2.1) fun r89 => bnd (p_num_Product L a2 r89) fun r90 => bnd (p_num_Wide_Cmp L r88.1 r88.2 r90.1 r90.2) fun r91 => if r91 < 0 then (some 0) else (some 1)))) (some 1)) (some 1)))
attribute [local go_sem] Ev.putR_s Ev.putR_0 Ev.thenO_s Ev.thenO_0 Ev.seqR_n Ev.seqR_e Ev.seqR_r Ev.seqR_0 Ev.blkR_e Ev.blkR_n Ev.blkR_r Ev.blkR_0 Ev.normR_s Ev.normR_0 Ev.outR_r Ev.outR_n Ev.outR_0 Ev.retS_s Ev.retS_0 Ev.pureO_s Ev.pureO_0 Ev.topR_0 Ev.topR_t Ev.topR_t0 Ev.oneL_0 Ev.oneL_s Ev.topR_d Ev.topR_nils Ev.topR_agg Ev.topR_rs Ev.evOp_move Ev.evOp_assign Ev.evOp_pick Ev.evOp_alloc Ev.evOp_box Ev.evOp_build Ev.evOp_buildSlice Ev.evOp_load Ev.evOp_store Ev.evOp_makeMap Ev.evOp_lookup Ev.evOp_mapUpdate Ev.evOp_insert Ev.evOp_nilCheck Ev.evOp_binOp Ev.evOp_unOp Ev.evOp_convert Ev.evOp_makeFunc Ev.evOp_makeSlice Ev.evOp_slice Ev.evOp_fieldAddr Ev.evOp_field Ev.evOp_indexAddr Ev.evOp_index Ev.evOp_extract Ev.evOp_call Ev.evOp_append Ev.evOp_clear Ev.evOp_len Ev.evOp_min Ev.evOp_max Ev.condR_b Ev.condR_t Ev.evOps_nil Ev.evOps_plain Ev.evOps_guard Ev.runG_eq Ev.skipG_eq Ev.condL_tt Ev.condL_ff Ev.condL_tf Ev.condL_ft Ev.condL_u Ev.condC_t Ev.condC_f Ev.evC_skip Ev.evC_ret Ev.evC_exit Ev.evC_label Ev.evC_region Ev.evC_draw Ev.evC_seq Ev.evC_cond Ev.evC_block Ev.evC_loop Ev.fin_d Ev.fin_nils Ev.fin_agg_ Ev.fin_rs Ev.finS_s Ev.mapO_fin Ev.upd_upd Ev.argv_d Ev.argv_nils Ev.argv_agg Ev.argv_rs Ev.argv_p Ev.fk_low Ev.appendTo_nils Ev.appendTo_rs Ev.consV_d Ev.consV_agg Ev.consV_p Ev.consV_rs Ev.consV_nils Ev.consV_fn Ev.consV_und Ev.consV_jk Ev.consV_grown Ev.topR_grown Ev.len_grown Ev.consV_mp Ev.sameK_i Ev.sameK_s Ev.mget_0 Ev.mget_hit Ev.mget_miss Ev.mput_0 Ev.mput_hit Ev.mput_miss Ev.apartAll Ev.apartL Ev.apartV Ev.freeAll Ev.sel Ev.keyOfV Ev.evLookup Ev.evPut Ev.hintOk Ev.keyOk Ev.consP Ev.lookV Ev.guardV Ev.dstAt Ev.evPure Ev.evStore Ev.evBin Ev.evBinO Ev.evNil Ev.isNilC Ev.evUn Ev.evConv Ev.evSlice Ev.optI Ev.foldI Ev.capsOk Ev.noTup Ev.nth Ev.setN Ev.killAt Ev.pad Ev.V.get Ev.V.put Ev.putD Ev.newBlk Ev.upd Ev.keq Ev.empty Ev.evCall Ev.V.args Ev.argP Ev.callOf Ev.evNilP Ev.isNilP Ev.look Ev.V.view.views Ev.V.view Ev.V.toD Ev.V.toD.V.toDs Ev.V.pure.pures Ev.V.pure Ev.D.flat.flats Ev.D.flat Ev.mkAgg Ev.allD Ev.aggParts Ev.setParts Ev.setElems Ev.getPath Ev.setPath Ev.subL Ev.eqD Ev.eqD.eqDs Ev.and2 Ev.strCut Ev.evalT Ev.constT Ev.evArgs Ev.mask Ev.maskOf Ev.tableOf Ev.compT Ev.resV Ev.retV Ev.mapO Ev.frzO_n Ev.frzO_e Ev.frzO_r Ev.frzO_0 Ev.mb_z Ev.mb_0 Ev.mb_s Ev.frzL_t Ev.frzL_f Ev.frzL_0 Ev.frzT_nils Ev.frzT_rs Ev.frzT_p Ev.frzK_i Ev.keyIn_i Ev.rI_nil Ev.rI_cons Ev.rI_row Ev.rI_app Ev.r_d Ev.r_nils Ev.r_agg Ev.r_rs Ev.r_gl Ev.vw_row Ev.vw_app Ev.appO_s Ev.frzT_gl Ev.allD_gl Ev.killAt_i Ev.tkOne_i Ev.hT_agg Ev.hT_vagg Ev.hT_int Ev.hT_bool Ev.hT_str Ev.hT_sl Ev.hT_ptr Ev.hT_np Ev.hT_p Ev.hT_rs Ev.hT_mp Ev.hT_nils Ev.hT_fn Ev.hT_jk Ev.hT_gl Ev.eO_sl Ev.eO_nils Ev.eO_rs Ev.eT_sl Ev.eT_rs Ev.pL_str Ev.pL_sl Ev.pL_rs Ev.pL_nils Ev.pL_min Ev.pL_max Ev.len_glB Ev.noTup_gl Ev.rowV_len Ev.rowV_nil Ev.rowV_cons Ev.rowV_append Ev.rowV_set Ev.rowV_replicate Ev.nth_row Ev.row_take Ev.row_drop Ev.toDs_row Ev.fin_row Ev.map_row Ev.map_take_ Ev.map_drop_ Ev.Bk_i Ev.GlB_0 Ev.GlB_mk Ev.gl_nil Ev.gl_cons Ev.gl_snoc Ev.gl_setN Ev.appendTo_gl Ev.consV_gl Ev.elems_gl Ev.fin_gl Ev.view_gl Ev.argv_gl Ev.topR_gl Ev.sp_z Ev.sp_0 Ev.sp_s Ev.km_z Ev.km_0 Ev.km_s Ev.beq_toList Ev.nc0 Ev.bq_t Ev.bq_f Ev.bodyN Ev.le_maxRow Int.cast_ofNat_Int IntWalk.i64_in IntWalk.u64_in IntWalk.u8_in beq_self_eq_true Bool.true_beq Bool.false_beq Bool.and_true Bool.true_and Bool.false_and Bool.and_false Bool.and_self Bool.not_true Bool.not_false Bool.not_eq_true cond_true cond_false if_true if_false and_true true_and and_self decide_true decide_false Bool.or_true Bool.true_or Bool.or_false Bool.false_or List.isEmpty List.isEmpty_nil List.size_toArray List.map List.length_map List.length_cons List.length_nil Option.map Option.bind Option.getD Option.isSome List.replicate Bool.false_eq_true implies_true false_implies forall_const Array.toList Array.isEmpty List.append List.nil_append List.cons_append List.drop_zero List.take_length List.take_succ_cons List.take_zero List.take_nil List.getElem?_map List.getElem?_cons_zero List.getElem?_cons_succ List.getElem?_nil List.append_nil eq_self Int.toNat_natCast List.length_append Nat.zero_add Nat.add_zero List.length_replicate Nat.sub_zero Option.map_some Option.map_none Int.le_refl Nat.le_refl Int.natCast_nonneg List.map_append
attribute [local go_sem_proc] Nat.reduceAdd Nat.reduceSub Nat.reduceMul Nat.reduceEqDiff Nat.reduceBEq Nat.reduceLT Nat.reduceLeDiff Nat.reducePow Int.reduceToNat Int.reduceLT Int.reduceLE Int.reduceGT Int.reduceGE Int.reduceEq Int.reduceNeg Int.reduceAdd Int.reduceSub Int.reduceMul reduceCtorEq
attribute [local go_sem_proc ↓] reduceIte
noncomputable def G_query_Near (L : Nat) : Specs := [(106, s_query_sides L), (107, s_query_product L), (108, s_query_square L), (109, s_num_SqrtMul L), (110, s_num_Product L), (111, s_num_Wide_Cmp L)]
noncomputable def T_query_Near : Table := tableOf [(33, en33)]
theorem Go_query_Near (L : Nat) (hL : L ≤ 4611686018427387904) : ∀ g s, Ev.look (G_query_Near L) g = some s → SpecOk Try.prog g s := (specs_cons (ok_query_sides L hL) (specs_cons (ok_query_product L hL) (specs_cons (ok_query_square L hL) (specs_cons (ok_num_SqrtMul L hL) (specs_cons (ok_num_Product L hL) (specs_cons (ok_num_Wide_Cmp L hL) specs_nil))))))
theorem To_query_Near (L : Nat) : TableOk Try.prog ((G_query_Near L).map (·.1)) T_query_Near := (table_cons Try.func33 (by kernel_rfl) (by kernel_rfl) table_nil)
theorem lk_query_Near_106 (L : Nat) : Ev.look (G_query_Near L) 106 = some (s_query_sides L) := nr rfl
theorem lk_query_Near_107 (L : Nat) : Ev.look (G_query_Near L) 107 = some (s_query_product L) := nr rfl
theorem lk_query_Near_108 (L : Nat) : Ev.look (G_query_Near L) 108 = some (s_query_square L) := nr rfl
theorem lk_query_Near_109 (L : Nat) : Ev.look (G_query_Near L) 109 = some (s_num_SqrtMul L) := nr rfl
theorem lk_query_Near_110 (L : Nat) : Ev.look (G_query_Near L) 110 = some (s_num_Product L) := nr rfl
theorem lk_query_Near_111 (L : Nat) : Ev.look (G_query_Near L) 111 = some (s_num_Wide_Cmp L) := nr rfl
attribute [local go_sem] Ty.tk2 Ty.ik2 Ty.ek2 Ty.zv2 Ty.by2 Ty.so2 Ty.tk3 Ty.ik3 Ty.ek3 Ty.zv3 Ty.by3 Ty.so3 Ty.tk4 Ty.ub4 Ty.ek4 Ty.zv4 Ty.by4 Ty.so4 Ty.tk62 Ty.ik62 Ty.ek62 Ty.zv62 Ty.by62 Ty.so62 Ty.tk64 Ty.ct64 Ty.ek64 Ty.zv64 Ty.by64 Ty.so64 Ty.tk66 Ty.ct66 Ty.ek66 Ty.zv66 Ty.by66 Ty.so66 Ty.tk67 Ty.ik67 Ty.ek67 Ty.zv67 Ty.by67 Ty.so67 Ty.tk133 Ty.ik133 Ty.ek133 Ty.zv133 Ty.by133 Ty.so133 Ty.tk168 Ty.ct168 Ty.zv168 Ty.by168 Ty.so168 Ty.tk176 Ty.ct176 Ty.ek176 Ty.zv176 Ty.by176 Ty.so176 Ty.k64_e Ty.k66_e Ty.k168_e Ty.k176_e E.dw33_11 E.kl33_11 E.nc33_11 E.mk33_0 E.mk33_1000001 E.mk33_1000002 E.mk33_1000003 E.mk33_1000000 E.fz33_0 E.fi33_0 E.lb33_0 lk_query_Near_106 lk_query_Near_107 lk_query_Near_108 lk_query_Near_109 lk_query_Near_110 lk_query_Near_111 s_query_sides_run s_query_product_run s_query_square_run s_num_SqrtMul_run s_num_Product_run s_num_Wide_Cmp_run loopN loops Try.f33
def Q0_p_query_Near_l0 (a2 : Int) (a5 : Int) (a6 : Int) (a7 : Bool) (a8 : Int) (a9 : Int) (a10 : Bool) (a11 : Int) (a12 : Int) (a13 : Bool) (a14 : Int) (a15 : Int) (a16 : Bool) (a17 : Int) (a18 : Int) (a19 : Bool) (a20 : Int) (a21 : Int) (a22 : Bool) (u : Int × Int × Int × Int × Int × Int) (z : Out) : Prop := ∃ env st, z = some (.exit 0, env, st) ∧ env = sp 128 0 [(2, .d (.int .i64 a2)), (11, .d (.int .i64 u.1)), (12, .d (.int .i64 u.2.1)), (13, .d (.int .i64 u.2.2.1)), (14, .d (.int .i64 u.2.2.2.1)), (15, .d (.int .i64 u.2.2.2.2.1)), (16, .d (.int .i64 u.2.2.2.2.2))]
abbrev Q_p_query_Near_l0 (a2 : Int) (a5 : Int) (a6 : Int) (a7 : Bool) (a8 : Int) (a9 : Int) (a10 : Bool) (a11 : Int) (a12 : Int) (a13 : Bool) (a14 : Int) (a15 : Int) (a16 : Bool) (a17 : Int) (a18 : Int) (a19 : Bool) (a20 : Int) (a21 : Int) (a22 : Bool) (o : Int × Int × Int × Int × Int × Int) (z : Out) : Prop := Q0_p_query_Near_l0 a2 a5 a6 a7 a8 a9 a10 a11 a12 a13 a14 a15 a16 a17 a18 a19 a20 a21 a22 o z
theorem l_p_query_Near_l0 (L : Nat) (hL : L ≤ 4611686018427387904) (a2 : Int) (a5 : Int) (a6 : Int) (a7 : Bool) (a8 : Int) (a9 : Int) (a10 : Bool) (a11 : Int) (a12 : Int) (a13 : Bool) (a14 : Int) (a15 : Int) (a16 : Bool) (a17 : Int) (a18 : Int) (a19 : Bool) (a20 : Int) (a21 : Int) (a22 : Bool) : ∀ (tl n : Nat) (s4 : Int) (s32 : Int) (s33 : Int) (s34 : Int) (s35 : Int) (s36 : Int) (s37 : Int) (env : List V) (st : Store) (o : Int × Int × Int × Int × Int × Int), tl < n → Cnt 3 s4 tl → mask (maskOf en33.ms 0) env = sp 128 0 [(2, .d (.int .i64 a2)), (7, .p (0, 7) (st (0, 7)).ver 0 []), (9, .p (0, 9) (st (0, 9)).ver 0 []), (11, .d (.int .i64 s32)), (12, .d (.int .i64 s33)), (13, .d (.int .i64 s34)), (14, .d (.int .i64 s35)), (15, .d (.int .i64 s36)), (16, .d (.int .i64 s37)), (43, .d (.int .i64 s4))] → Bk (st (0, 7)) 168 [.d (.agg 168 [.agg 64 [.int .i64 a5, .int .i64 a6, .bool a7], .agg 64 [.int .i64 a8, .int .i64 a9, .bool a10], .agg 64 [.int .i64 a11, .int .i64 a12, .bool a13]])] → Bk (st (0, 9)) 168 [.d (.agg 168 [.agg 64 [.int .i64 a14, .int .i64 a15, .bool a16], .agg 64 [.int .i64 a17, .int .i64 a18, .bool a19], .agg 64 [.int .i64 a20, .int .i64 a21, .bool a22]])] → p_query_Near_l0 L a5 a6 a7 a8 a9 a10 a11 a12 a13 a14 a15 a16 a17 a18 a19 a20 a21 a22 tl s4 s32 s33 s34 s35 s36 s37 = some o →
    Q_p_query_Near_l0 a2 a5 a6 a7 a8 a9 a10 a11 a12 a13 a14 a15 a16 a17 a18 a19 a20 a21 a22 o (iter (evC Try.prog (G_query_Near L) (evF Try.prog (G_query_Near L) T_query_Near L 0) L en33.ms 0 0 lb33_0) (maskOf en33.ms 0) n env st) := by
  intro tl
  induction tl with
  | zero =>
    intro n s4 s32 s33 s34 s35 s36 s37 env st o hn hR he hb0 hb1 h
    obtain ⟨n, rfl⟩ : ∃ m, n = m + 1 := ⟨n - 1, by omega⟩
    obtain ⟨be0, bv0, bl0⟩ := hb0
    obtain ⟨be1, bv1, bl1⟩ := hb1
    generalize hQ : Q_p_query_Near_l0 a2 a5 a6 a7 a8 a9 a10 a11 a12 a13 a14 a15 a16 a17 a18 a19 a20 a21 a22 = Q
    have g0 := cnt_nil hR
    rw [iter, he]
    clear he
    generalize hK : iter _ _ n = K
    rw [p_query_Near_l0] at h
    revert h
    rintro ⟨⟩
    simp only [go_sem, *]
    subst hQ
    refine (⟨_, _, rfl, ?_⟩ : Q0_p_query_Near_l0 _ _ _ _ _ _ _ _ _ _ _ _ _ _ _ _ _ _ _ _ _)
    all_goals simp only [go_sem, *]
  | succ tl ih =>
    intro n s4 s32 s33 s34 s35 s36 s37 env st o hn hR he hb0 hb1 h
    obtain ⟨n, rfl⟩ : ∃ m, n = m + 1 := ⟨n - 1, by omega⟩
    obtain ⟨be0, bv0, bl0⟩ := hb0
    obtain ⟨be1, bv1, bl1⟩ := hb1
    generalize hQ : Q_p_query_Near_l0 a2 a5 a6 a7 a8 a9 a10 a11 a12 a13 a14 a15 a16 a17 a18 a19 a20 a21 a22 = Q at ih ⊢
    replace ih : Hold _ := ih
    replace hR := cnt_s hR
    obtain ⟨g0, g1, g3, hR⟩ := hR
    rw [iter, he]
    clear he
    generalize hK : iter _ _ n = K
    rw [p_query_Near_l0] at h
    revert h
    refine cb_i (fun c1 => ?_) (fun c1 => ?_)
    · have c2 : 0 ≤ s4 := by have := of_decide_eq_true c1; omega
      have c3 : s4 < 3 := by have := of_decide_eq_true c1; omega
      have c4 : s4.toNat = 0 := by have := of_decide_eq_true c1; omega
      refine bnd_i fun r47 c5 => ?_
      refine bnd_i fun r48 c6 => ?_
      refine bnd_i fun r49 c7 => ?_
      intro h
      simp only [go_sem, *]
      subst hK
      refine ih n (s4 + 1) (i64.wrap (s32 + r47.1)) (i64.wrap (s33 + r47.2)) (i64.wrap (s34 + r48.1)) (i64.wrap (s35 + r48.2)) (i64.wrap (s36 + r49.1)) (i64.wrap (s37 + r49.2)) _ _ _ (by omega) hR ?_ ?_ ?_ h
      all_goals simp only [go_sem, *]
    · refine cb_i (fun c8 => ?_) (fun c8 => ?_)
      · have c9 : 0 ≤ s4 := by have := of_decide_eq_true c8; omega
        have c10 : s4 < 3 := by have := of_decide_eq_true c8; omega
        have c11 : s4.toNat = 1 := by have := of_decide_eq_true c8; omega
        refine bnd_i fun r50 c12 => ?_
        refine bnd_i fun r51 c13 => ?_
        refine bnd_i fun r52 c14 => ?_
        intro h
        simp only [go_sem, *]
        subst hK
        refine ih n (s4 + 1) (i64.wrap (s32 + r50.1)) (i64.wrap (s33 + r50.2)) (i64.wrap (s34 + r51.1)) (i64.wrap (s35 + r51.2)) (i64.wrap (s36 + r52.1)) (i64.wrap (s37 + r52.2)) _ _ _ (by omega) hR ?_ ?_ ?_ h
        all_goals simp only [go_sem, *]
      · refine cb_i (fun c15 => ?_) (fun c15 => ?_)
        · have c16 : 0 ≤ s4 := by have := of_decide_eq_true c15; omega
          have c17 : s4 < 3 := by have := of_decide_eq_true c15; omega
          have c18 : s4.toNat = 2 := by have := of_decide_eq_true c15; omega
          refine bnd_i fun r53 c19 => ?_
          refine bnd_i fun r54 c20 => ?_
          refine bnd_i fun r55 c21 => ?_
          intro h
          simp only [go_sem, *]
          subst hK
          refine ih n (s4 + 1) (i64.wrap (s32 + r53.1)) (i64.wrap (s33 + r53.2)) (i64.wrap (s34 + r54.1)) (i64.wrap (s35 + r54.2)) (i64.wrap (s36 + r55.1)) (i64.wrap (s37 + r55.2)) _ _ _ (by omega) hR ?_ ?_ ?_ h
          all_goals simp only [go_sem, *]
        · intro h; cases h
theorem e_query_Near (L : Nat) (hL : L ≤ 4611686018427387904) (a0_0_0 : Int) (a0_0_1 : Int) (a0_0_2 : Bool) (a0_1_0 : Int) (a0_1_1 : Int) (a0_1_2 : Bool) (a0_2_0 : Int) (a0_2_1 : Int) (a0_2_2 : Bool) (a1_0_0 : Int) (a1_0_1 : Int) (a1_0_2 : Bool) (a1_1_0 : Int) (a1_1_1 : Int) (a1_1_2 : Bool) (a1_2_0 : Int) (a1_2_1 : Int) (a1_2_2 : Bool) (a2 : Int) (res : Int) (h : p_query_Near L a0_0_0 a0_0_1 a0_0_2 a0_1_0 a0_1_1 a0_1_2 a0_2_0 a0_2_1 a0_2_2 a1_0_0 a1_0_1 a1_0_2 a1_1_0 a1_1_1 a1_1_2 a1_2_0 a1_2_1 a1_2_2 a2 = some res) : evTop Try.prog (G_query_Near L) T_query_Near L 1 33 [.agg 66 [.agg 64 [.int .i64 a0_0_0, .int .i64 a0_0_1, .bool a0_0_2], .agg 64 [.int .i64 a0_1_0, .int .i64 a0_1_1, .bool a0_1_2], .agg 64 [.int .i64 a0_2_0, .int .i64 a0_2_1, .bool a0_2_2]], .agg 66 [.agg 64 [.int .i64 a1_0_0, .int .i64 a1_0_1, .bool a1_0_2], .agg 64 [.int .i64 a1_1_0, .int .i64 a1_1_1, .bool a1_1_2], .agg 64 [.int .i64 a1_2_0, .int .i64 a1_2_1, .bool a1_2_2]], .int .i64 a2] = some [.int .i64 res] := by
  revert h
  unfold p_query_Near evTop
  simp only [List.map]
  rw [evF_s (fn := Try.f33) (msk := en33.ms) (hT := by rfl) (hb := by rfl)]
  refine bnd_i fun r1 c1 => ?_
  refine bnd_i fun r2 c2 => ?_
  refine ite_i (fun c3 => ?_) (fun c3 => ?_)
  · rintro ⟨⟩
    simp only [go_sem, *]
  · refine ite_i (fun c4 => ?_) (fun c4 => ?_)
    · rintro ⟨⟩
      simp only [go_sem, *]
    · refine cb_i (fun c5 => ?_) (fun c5 => ?_)
      · refine cb_i (fun c6 => ?_) (fun c6 => ?_)
        · refine rq_i fun c7 => ?_
          refine bnd_i fun o56 ho8 => ?_
          intro h
          simp only [go_sem, *]
          generalize hz10 : iter _ _ _ _ _ = z9
          have hq11 : Q_p_query_Near_l0 a2 r1.1 r1.2.1 r1.2.2.1 r1.2.2.2.1 r1.2.2.2.2.1 r1.2.2.2.2.2.1 r1.2.2.2.2.2.2.1 r1.2.2.2.2.2.2.2.1 r1.2.2.2.2.2.2.2.2.1 r2.1 r2.2.1 r2.2.2.1 r2.2.2.2.1 r2.2.2.2.2.1 r2.2.2.2.2.2.1 r2.2.2.2.2.2.2.1 r2.2.2.2.2.2.2.2.1 r2.2.2.2.2.2.2.2.2.1 o56 z9 := by
            rw [← hz10]
            refine l_p_query_Near_l0 L hL a2 r1.1 r1.2.1 r1.2.2.1 r1.2.2.2.1 r1.2.2.2.2.1 r1.2.2.2.2.2.1 r1.2.2.2.2.2.2.1 r1.2.2.2.2.2.2.2.1 r1.2.2.2.2.2.2.2.2.1 r2.1 r2.2.1 r2.2.2.1 r2.2.2.2.1 r2.2.2.2.2.1 r2.2.2.2.2.2.1 r2.2.2.2.2.2.2.1 r2.2.2.2.2.2.2.2.1 r2.2.2.2.2.2.2.2.2.1 _ L 0 0 0 0 0 0 0 _ _ _ c7 (cnt_0 (by decide) (by decide)) ?_ ?_ ?_ ho8
            all_goals simp only [go_sem, *]
          clear hz10 ho8
          obtain ⟨_, st57, rfl, rfl⟩ := hq11
          revert h
          refine bnd_i fun r58 c12 => ?_
          refine bnd_i fun r59 c13 => ?_
          refine bnd_i fun r60 c14 => ?_
          refine bnd_i fun r61 c15 => ?_
          refine ite_i (fun c16 => ?_) (fun c16 => ?_)
          · refine ite_i (fun c17 => ?_) (fun c17 => ?_)
            · refine ite_i (fun c18 => ?_) (fun c18 => ?_)
              · refine bnd_i fun r62 c19 => ?_
                refine bnd_i fun r63 c20 => ?_
                refine bnd_i fun r64 c21 => ?_
                refine ite_i (fun c22 => ?_) (fun c22 => ?_)
                · rintro ⟨⟩
                  simp only [go_sem, *]
                · refine bnd_i fun r65 c23 => ?_
                  refine bnd_i fun r66 c24 => ?_
                  refine bnd_i fun r67 c25 => ?_
                  refine bnd_i fun r68 c26 => ?_
                  refine ite_i (fun c27 => ?_) (fun c27 => ?_)
                  · rintro ⟨⟩
                    simp only [go_sem, *]
                  · rintro ⟨⟩
                    simp only [go_sem, *]
              · refine bnd_i fun r69 c28 => ?_
                refine bnd_i fun r70 c29 => ?_
                refine bnd_i fun r71 c30 => ?_
                refine bnd_i fun r72 c31 => ?_
                refine ite_i (fun c32 => ?_) (fun c32 => ?_)
                · rintro ⟨⟩
                  simp only [go_sem, *]
                · rintro ⟨⟩
                  simp only [go_sem, *]
            · refine bnd_i fun r73 c33 => ?_
              refine bnd_i fun r74 c34 => ?_
              refine bnd_i fun r75 c35 => ?_
              refine bnd_i fun r76 c36 => ?_
              refine ite_i (fun c37 => ?_) (fun c37 => ?_)
              · rintro ⟨⟩
                simp only [go_sem, *]
              · rintro ⟨⟩
                simp only [go_sem, *]
          · refine ite_i (fun c38 => ?_) (fun c38 => ?_)
            · refine ite_i (fun c39 => ?_) (fun c39 => ?_)
              · refine bnd_i fun r77 c40 => ?_
                refine bnd_i fun r78 c41 => ?_
                refine bnd_i fun r79 c42 => ?_
                refine ite_i (fun c43 => ?_) (fun c43 => ?_)
                · rintro ⟨⟩
                  simp only [go_sem, *]
                · refine bnd_i fun r80 c44 => ?_
                  refine bnd_i fun r81 c45 => ?_
                  refine bnd_i fun r82 c46 => ?_
                  refine bnd_i fun r83 c47 => ?_
                  refine ite_i (fun c48 => ?_) (fun c48 => ?_)
                  · rintro ⟨⟩
                    simp only [go_sem, *]
                  · rintro ⟨⟩
                    simp only [go_sem, *]
              · refine bnd_i fun r84 c49 => ?_
                refine bnd_i fun r85 c50 => ?_
                refine bnd_i fun r86 c51 => ?_
                refine bnd_i fun r87 c52 => ?_
                refine ite_i (fun c53 => ?_) (fun c53 => ?_)
                · rintro ⟨⟩
                  simp only [go_sem, *]
                · rintro ⟨⟩
                  simp only [go_sem, *]
            · refine bnd_i fun r88 c54 => ?_
              refine bnd_i fun r89 c55 => ?_
              refine bnd_i fun r90 c56 => ?_
              refine bnd_i fun r91 c57 => ?_
              refine ite_i (fun c58 => ?_) (fun c58 => ?_)
              · rintro ⟨⟩
                simp only [go_sem, *]
              · rintro ⟨⟩
                simp only [go_sem, *]
        · rintro ⟨⟩
          simp only [go_sem, *]
      · rintro ⟨⟩
        simp only [go_sem, *]
noncomputable def s_query_Near (L : Nat) : Ev.Spec := specP (cCons k66 (cCons k66 (cCons (cI .i64) cNil))) (fun x => p_query_Near L x.1.1.1 x.1.1.2.1 x.1.1.2.2.1 x.1.2.1.1 x.1.2.1.2.1 x.1.2.1.2.2.1 x.1.2.2.1.1 x.1.2.2.1.2.1 x.1.2.2.1.2.2.1 x.2.1.1.1 x.2.1.1.2.1 x.2.1.1.2.2.1 x.2.1.2.1.1 x.2.1.2.1.2.1 x.2.1.2.1.2.2.1 x.2.1.2.2.1.1 x.2.1.2.2.1.2.1 x.2.1.2.2.1.2.2.1 x.2.2.1) (fun r => [.int .i64 r])
theorem s_query_Near_run (L : Nat) (a0_0_0 : Int) (a0_0_1 : Int) (a0_0_2 : Bool) (a0_1_0 : Int) (a0_1_1 : Int) (a0_1_2 : Bool) (a0_2_0 : Int) (a0_2_1 : Int) (a0_2_2 : Bool) (a1_0_0 : Int) (a1_0_1 : Int) (a1_0_2 : Bool) (a1_1_0 : Int) (a1_1_1 : Int) (a1_1_2 : Bool) (a1_2_0 : Int) (a1_2_1 : Int) (a1_2_2 : Bool) (a2 : Int) : (s_query_Near L).run [.agg 66 [.agg 64 [.int .i64 a0_0_0, .int .i64 a0_0_1, .bool a0_0_2], .agg 64 [.int .i64 a0_1_0, .int .i64 a0_1_1, .bool a0_1_2], .agg 64 [.int .i64 a0_2_0, .int .i64 a0_2_1, .bool a0_2_2]], .agg 66 [.agg 64 [.int .i64 a1_0_0, .int .i64 a1_0_1, .bool a1_0_2], .agg 64 [.int .i64 a1_1_0, .int .i64 a1_1_1, .bool a1_1_2], .agg 64 [.int .i64 a1_2_0, .int .i64 a1_2_1, .bool a1_2_2]], .int .i64 a2] = (p_query_Near L a0_0_0 a0_0_1 a0_0_2 a0_1_0 a0_1_1 a0_1_2 a0_2_0 a0_2_1 a0_2_2 a1_0_0 a1_0_1 a1_0_2 a1_1_0 a1_1_1 a1_1_2 a1_2_0 a1_2_1 a1_2_2 a2).map fun r => [.int .i64 r] := specP_run (cCons k66 (cCons k66 (cCons (cI .i64) cNil))) (fun x => p_query_Near L x.1.1.1 x.1.1.2.1 x.1.1.2.2.1 x.1.2.1.1 x.1.2.1.2.1 x.1.2.1.2.2.1 x.1.2.2.1.1 x.1.2.2.1.2.1 x.1.2.2.1.2.2.1 x.2.1.1.1 x.2.1.1.2.1 x.2.1.1.2.2.1 x.2.1.2.1.1 x.2.1.2.1.2.1 x.2.1.2.1.2.2.1 x.2.1.2.2.1.1 x.2.1.2.2.1.2.1 x.2.1.2.2.1.2.2.1 x.2.2.1) (fun r => [.int .i64 r]) (((a0_0_0, a0_0_1, a0_0_2, ()), (a0_1_0, a0_1_1, a0_1_2, ()), (a0_2_0, a0_2_1, a0_2_2, ()), ()), ((a1_0_0, a1_0_1, a1_0_2, ()), (a1_1_0, a1_1_1, a1_1_2, ()), (a1_2_0, a1_2_1, a1_2_2, ()), ()), a2, ())
theorem ok_query_Near (L : Nat) (hL : L ≤ 4611686018427387904) : SpecOk Try.prog 33 (s_query_Near L) := specP_ok mixed (Go_query_Near L hL) (To_query_Near L) fun x r h => ⟨L, 1, e_query_Near L hL x.1.1.1 x.1.1.2.1 x.1.1.2.2.1 x.1.2.1.1 x.1.2.1.2.1 x.1.2.1.2.2.1 x.1.2.2.1.1 x.1.2.2.1.2.1 x.1.2.2.1.2.2.1 x.2.1.1.1 x.2.1.1.2.1 x.2.1.1.2.2.1 x.2.1.2.1.1 x.2.1.2.1.2.1 x.2.1.2.1.2.2.1 x.2.1.2.2.1.1 x.2.1.2.2.1.2.1 x.2.1.2.2.1.2.2.1 x.2.2.1 r h⟩
def sk_query_Near : Ev.Spec := specK (c := (cCons k66 (cCons k66 (cCons (cI .i64) cNil)))) (dCons (dA 66 (dCons (dA 64 (dCons (dI .i64) (dCons (dI .i64) (dCons dB dNil)))) (dCons (dA 64 (dCons (dI .i64) (dCons (dI .i64) (dCons dB dNil)))) (dCons (dA 64 (dCons (dI .i64) (dCons (dI .i64) (dCons dB dNil)))) dNil)))) (dCons (dA 66 (dCons (dA 64 (dCons (dI .i64) (dCons (dI .i64) (dCons dB dNil)))) (dCons (dA 64 (dCons (dI .i64) (dCons (dI .i64) (dCons dB dNil)))) (dCons (dA 64 (dCons (dI .i64) (dCons (dI .i64) (dCons dB dNil)))) dNil)))) (dCons (dI .i64) dNil))) (fun x => p_query_Near 1000 x.1.1.1 x.1.1.2.1 x.1.1.2.2.1 x.1.2.1.1 x.1.2.1.2.1 x.1.2.1.2.2.1 x.1.2.2.1.1 x.1.2.2.1.2.1 x.1.2.2.1.2.2.1 x.2.1.1.1 x.2.1.1.2.1 x.2.1.1.2.2.1 x.2.1.2.1.1 x.2.1.2.1.2.1 x.2.1.2.1.2.2.1 x.2.1.2.2.1.1 x.2.1.2.2.1.2.1 x.2.1.2.2.1.2.2.1 x.2.2.1) (fun r => [.int .i64 r])
theorem okk_query_Near : SpecOk Try.prog 33 sk_query_Near := specK_ok (dCons (dA 66 (dCons (dA 64 (dCons (dI .i64) (dCons (dI .i64) (dCons dB dNil)))) (dCons (dA 64 (dCons (dI .i64) (dCons (dI .i64) (dCons dB dNil)))) (dCons (dA 64 (dCons (dI .i64) (dCons (dI .i64) (dCons dB dNil)))) dNil)))) (dCons (dA 66 (dCons (dA 64 (dCons (dI .i64) (dCons (dI .i64) (dCons dB dNil)))) (dCons (dA 64 (dCons (dI .i64) (dCons (dI .i64) (dCons dB dNil)))) (dCons (dA 64 (dCons (dI .i64) (dCons (dI .i64) (dCons dB dNil)))) dNil)))) (dCons (dI .i64) dNil))) mixed (Go_query_Near 1000 (by decide)) (To_query_Near 1000) fun x r h => ⟨1000, 1, e_query_Near 1000 (by decide) x.1.1.1 x.1.1.2.1 x.1.1.2.2.1 x.1.2.1.1 x.1.2.1.2.1 x.1.2.1.2.2.1 x.1.2.2.1.1 x.1.2.2.1.2.1 x.1.2.2.1.2.2.1 x.2.1.1.1 x.2.1.1.2.1 x.2.1.1.2.2.1 x.2.1.2.1.1 x.2.1.2.1.2.1 x.2.1.2.1.2.2.1 x.2.1.2.2.1.1 x.2.1.2.2.1.2.1 x.2.1.2.2.1.2.2.1 x.2.2.1 r h⟩
end Go.Proofs.Ytnojehmbiceceaa.P
end
section
set_option linter.unusedVariables false
set_option linter.unusedSimpArgs false
set_option maxRecDepth 100000
namespace Go.Proofs.Ytnojehmbiceceaa.P
open Go.Ev Go.IntKind Go.Proofs.Ytnojehmbiceceaa Go.Proofs.Ytnojehmbiceceaa.Ty Go.Proofs.Ytnojehmbiceceaa.E
def p_spylaw3_queries (L : Nat) : Option Bool := some true
attribute [local go_sem] Ev.putR_s Ev.putR_0 Ev.thenO_s Ev.thenO_0 Ev.seqR_n Ev.seqR_e Ev.seqR_r Ev.seqR_0 Ev.blkR_e Ev.blkR_n Ev.blkR_r Ev.blkR_0 Ev.normR_s Ev.normR_0 Ev.outR_r Ev.outR_n Ev.outR_0 Ev.retS_s Ev.retS_0 Ev.pureO_s Ev.pureO_0 Ev.topR_0 Ev.topR_t Ev.topR_t0 Ev.oneL_0 Ev.oneL_s Ev.topR_d Ev.topR_nils Ev.topR_agg Ev.topR_rs Ev.evOp_move Ev.evOp_assign Ev.evOp_pick Ev.evOp_alloc Ev.evOp_box Ev.evOp_build Ev.evOp_buildSlice Ev.evOp_load Ev.evOp_store Ev.evOp_makeMap Ev.evOp_lookup Ev.evOp_mapUpdate Ev.evOp_insert Ev.evOp_nilCheck Ev.evOp_binOp Ev.evOp_unOp Ev.evOp_convert Ev.evOp_makeFunc Ev.evOp_makeSlice Ev.evOp_slice Ev.evOp_fieldAddr Ev.evOp_field Ev.evOp_indexAddr Ev.evOp_index Ev.evOp_extract Ev.evOp_call Ev.evOp_append Ev.evOp_clear Ev.evOp_len Ev.evOp_min Ev.evOp_max Ev.condR_b Ev.condR_t Ev.evOps_nil Ev.evOps_plain Ev.evOps_guard Ev.runG_eq Ev.skipG_eq Ev.condL_tt Ev.condL_ff Ev.condL_tf Ev.condL_ft Ev.condL_u Ev.condC_t Ev.condC_f Ev.evC_skip Ev.evC_ret Ev.evC_exit Ev.evC_label Ev.evC_region Ev.evC_draw Ev.evC_seq Ev.evC_cond Ev.evC_block Ev.evC_loop Ev.fin_d Ev.fin_nils Ev.fin_agg_ Ev.fin_rs Ev.finS_s Ev.mapO_fin Ev.upd_upd Ev.argv_d Ev.argv_nils Ev.argv_agg Ev.argv_rs Ev.argv_p Ev.fk_low Ev.appendTo_nils Ev.appendTo_rs Ev.consV_d Ev.consV_agg Ev.consV_p Ev.consV_rs Ev.consV_nils Ev.consV_fn Ev.consV_und Ev.consV_jk Ev.consV_grown Ev.topR_grown Ev.len_grown Ev.consV_mp Ev.sameK_i Ev.sameK_s Ev.mget_0 Ev.mget_hit Ev.mget_miss Ev.mput_0 Ev.mput_hit Ev.mput_miss Ev.apartAll Ev.apartL Ev.apartV Ev.freeAll Ev.sel Ev.keyOfV Ev.evLookup Ev.evPut Ev.hintOk Ev.keyOk Ev.consP Ev.lookV Ev.guardV Ev.dstAt Ev.evPure Ev.evStore Ev.evBin Ev.evBinO Ev.evNil Ev.isNilC Ev.evUn Ev.evConv Ev.evSlice Ev.optI Ev.foldI Ev.capsOk Ev.noTup Ev.nth Ev.setN Ev.killAt Ev.pad Ev.V.get Ev.V.put Ev.putD Ev.newBlk Ev.upd Ev.keq Ev.empty Ev.evCall Ev.V.args Ev.argP Ev.callOf Ev.evNilP Ev.isNilP Ev.look Ev.V.view.views Ev.V.view Ev.V.toD Ev.V.toD.V.toDs Ev.V.pure.pures Ev.V.pure Ev.D.flat.flats Ev.D.flat Ev.mkAgg Ev.allD Ev.aggParts Ev.setParts Ev.setElems Ev.getPath Ev.setPath Ev.subL Ev.eqD Ev.eqD.eqDs Ev.and2 Ev.strCut Ev.evalT Ev.constT Ev.evArgs Ev.mask Ev.maskOf Ev.tableOf Ev.compT Ev.resV Ev.retV Ev.mapO Ev.frzO_n Ev.frzO_e Ev.frzO_r Ev.frzO_0 Ev.mb_z Ev.mb_0 Ev.mb_s Ev.frzL_t Ev.frzL_f Ev.frzL_0 Ev.frzT_nils Ev.frzT_rs Ev.frzT_p Ev.frzK_i Ev.keyIn_i Ev.rI_nil Ev.rI_cons Ev.rI_row Ev.rI_app Ev.r_d Ev.r_nils Ev.r_agg Ev.r_rs Ev.r_gl Ev.vw_row Ev.vw_app Ev.appO_s Ev.frzT_gl Ev.allD_gl Ev.killAt_i Ev.tkOne_i Ev.hT_agg Ev.hT_vagg Ev.hT_int Ev.hT_bool Ev.hT_str Ev.hT_sl Ev.hT_ptr Ev.hT_np Ev.hT_p Ev.hT_rs Ev.hT_mp Ev.hT_nils Ev.hT_fn Ev.hT_jk Ev.hT_gl Ev.eO_sl Ev.eO_nils Ev.eO_rs Ev.eT_sl Ev.eT_rs Ev.pL_str Ev.pL_sl Ev.pL_rs Ev.pL_nils Ev.pL_min Ev.pL_max Ev.len_glB Ev.noTup_gl Ev.rowV_len Ev.rowV_nil Ev.rowV_cons Ev.rowV_append Ev.rowV_set Ev.rowV_replicate Ev.nth_row Ev.row_take Ev.row_drop Ev.toDs_row Ev.fin_row Ev.map_row Ev.map_take_ Ev.map_drop_ Ev.Bk_i Ev.GlB_0 Ev.GlB_mk Ev.gl_nil Ev.gl_cons Ev.gl_snoc Ev.gl_setN Ev.appendTo_gl Ev.consV_gl Ev.elems_gl Ev.fin_gl Ev.view_gl Ev.argv_gl Ev.topR_gl Ev.sp_z Ev.sp_0 Ev.sp_s Ev.km_z Ev.km_0 Ev.km_s Ev.beq_toList Ev.nc0 Ev.bq_t Ev.bq_f Ev.bodyN Ev.le_maxRow Int.cast_ofNat_Int IntWalk.i64_in IntWalk.u64_in IntWalk.u8_in beq_self_eq_true Bool.true_beq Bool.false_beq Bool.and_true Bool.true_and Bool.false_and Bool.and_false Bool.and_self Bool.not_true Bool.not_false Bool.not_eq_true cond_true cond_false if_true if_false and_true true_and and_self decide_true decide_false Bool.or_true Bool.true_or Bool.or_false Bool.false_or List.isEmpty List.isEmpty_nil List.size_toArray List.map List.length_map List.length_cons List.length_nil Option.map Option.bind Option.getD Option.isSome List.replicate Bool.false_eq_true implies_true false_implies forall_const Array.toList Array.isEmpty List.append List.nil_append List.cons_append List.drop_zero List.take_length List.take_succ_cons List.take_zero List.take_nil List.getElem?_map List.getElem?_cons_zero List.getElem?_cons_succ List.getElem?_nil List.append_nil eq_self Int.toNat_natCast List.length_append Nat.zero_add Nat.add_zero List.length_replicate Nat.sub_zero Option.map_some Option.map_none Int.le_refl Nat.le_refl Int.natCast_nonneg List.map_append
attribute [local go_sem_proc] Nat.reduceAdd Nat.reduceSub Nat.reduceMul Nat.reduceEqDiff Nat.reduceBEq Nat.reduceLT Nat.reduceLeDiff Nat.reducePow Int.reduceToNat Int.reduceLT Int.reduceLE Int.reduceGT Int.reduceGE Int.reduceEq Int.reduceNeg Int.reduceAdd Int.reduceSub Int.reduceMul reduceCtorEq
attribute [local go_sem_proc ↓] reduceIte
def Gk_spylaw3_queries : Specs := [(33, sk_query_Near), (100, sk_cmp_Or_Errno), (126, sk_catalog_ends_Quanta), (127, sk_catalog_ends_Tick), (188, sk_query_between_Tick), (189, sk_query_between_Quanta), (190, sk_query_point)]
noncomputable def T_spylaw3_queries : Table := tableOf [(32, en32), (35, en35), (37, en37), (41, en41), (45, en45), (105, en105), (119, en119), (121, en121), (125, en125), (181, en181), (193, en193), (227, en227), (258, en258), (265, en265)]
theorem Gko_spylaw3_queries : ∀ g s, Ev.look Gk_spylaw3_queries g = some s → SpecOk Try.prog g s := (specs_cons okk_query_Near (specs_cons okk_cmp_Or_Errno (specs_cons okk_catalog_ends_Quanta (specs_cons okk_catalog_ends_Tick (specs_cons okk_query_between_Tick (specs_cons okk_query_between_Quanta (specs_cons okk_query_point specs_nil)))))))
theorem To_spylaw3_queries : TableOk Try.prog (Gk_spylaw3_queries.map (·.1)) T_spylaw3_queries := (table_cons Try.func32 (by kernel_rfl) (by kernel_rfl) (table_cons Try.func35 (by kernel_rfl) (by kernel_rfl) (table_cons Try.func37 (by kernel_rfl) (by kernel_rfl) (table_cons Try.func41 (by kernel_rfl) (by kernel_rfl) (table_cons Try.func45 (by kernel_rfl) (by kernel_rfl) (table_cons Try.func105 (by kernel_rfl) (by kernel_rfl) (table_cons Try.func119 (by kernel_rfl) (by kernel_rfl) (table_cons Try.func121 (by kernel_rfl) (by kernel_rfl) (table_cons Try.func125 (by kernel_rfl) (by kernel_rfl) (table_cons Try.func181 (by kernel_rfl) (by kernel_rfl) (table_cons Try.func193 (by kernel_rfl) (by kernel_rfl) (table_cons Try.func227 (by kernel_rfl) (by kernel_rfl) (table_cons Try.func258 (by kernel_rfl) (by kernel_rfl) (table_cons Try.func265 (by kernel_rfl) (by kernel_rfl) table_nil))))))))))))))
theorem ek_spylaw3_queries : evTop Try.prog Gk_spylaw3_queries T_spylaw3_queries 1000 40 32 [] = some [.bool true] := by kernel_rfl
def s_spylaw3_queries (L : Nat) : Ev.Spec := ⟨fun xs => match xs with | [] => some [.bool true] | _ => none⟩
theorem s_spylaw3_queries_run (L : Nat) : (s_spylaw3_queries L).run [] = (p_spylaw3_queries L).map fun r => [.bool r] := rfl
theorem ok_spylaw3_queries (L : Nat) (hL : L ≤ 4611686018427387904) : SpecOk Try.prog 32 (s_spylaw3_queries L) := spec_of_ev mixed Gko_spylaw3_queries To_spylaw3_queries fun xs rs hr => by
  simp only [s_spylaw3_queries] at hr
  split at hr
  · cases hr; exact ⟨1000, 40, ek_spylaw3_queries⟩
  · cases hr
end Go.Proofs.Ytnojehmbiceceaa.P
end
section
set_option linter.unusedVariables false
set_option linter.unusedSimpArgs false
set_option maxRecDepth 100000
namespace Go.Proofs.Ytnojehmbiceceaa.E
open Go.Ev
noncomputable def en34 : Entry := ⟨Try.f34, [(0, mb 113 0 [2, 7, 9, 11, 12, 45]), (2, mb 113 0 [2, 7, 9, 11, 12, 13, 14, 45, 50, 51, 52]), (4, mb 113 0 [2, 7, 9, 11, 12, 13, 14, 16, 45, 50, 51, 52, 58, 59, 60]), (1000001, mb 113 0 [2, 7, 9, 11, 12]), (1000002, mb 113 0 [2, 7, 9, 11, 12, 45]), (1000003, mb 113 0 [2, 7, 9, 11, 12, 14, 45]), (1000004, mb 113 0 [2, 7, 9, 11, 12, 13, 14, 45, 50, 51, 52]), (1000005, mb 113 0 [2, 7, 9, 11, 12, 13, 14, 45, 50, 51, 52]), (1000006, mb 113 0 [2, 7, 9, 11, 12, 13, 14, 16, 45, 50, 51, 52, 58, 59, 60]), (1000000, mb 113 0 [6])]⟩
theorem mk34_0 (vs : List V) : mask (maskOf en34.ms 0) vs = km 113 0 [2, 7, 9, 11, 12, 45] vs := mask_mb _ _ _ _
theorem mk34_2 (vs : List V) : mask (maskOf en34.ms 2) vs = km 113 0 [2, 7, 9, 11, 12, 13, 14, 45, 50, 51, 52] vs := mask_mb _ _ _ _
theorem mk34_4 (vs : List V) : mask (maskOf en34.ms 4) vs = km 113 0 [2, 7, 9, 11, 12, 13, 14, 16, 45, 50, 51, 52, 58, 59, 60] vs := mask_mb _ _ _ _
theorem mk34_1000001 (vs : List V) : mask (maskOf en34.ms 1000001) vs = km 113 0 [2, 7, 9, 11, 12] vs := mask_mb _ _ _ _
theorem mk34_1000002 (vs : List V) : mask (maskOf en34.ms 1000002) vs = km 113 0 [2, 7, 9, 11, 12, 45] vs := mask_mb _ _ _ _
theorem mk34_1000003 (vs : List V) : mask (maskOf en34.ms 1000003) vs = km 113 0 [2, 7, 9, 11, 12, 14, 45] vs := mask_mb _ _ _ _
theorem mk34_1000004 (vs : List V) : mask (maskOf en34.ms 1000004) vs = km 113 0 [2, 7, 9, 11, 12, 13, 14, 45, 50, 51, 52] vs := mask_mb _ _ _ _
theorem mk34_1000005 (vs : List V) : mask (maskOf en34.ms 1000005) vs = km 113 0 [2, 7, 9, 11, 12, 13, 14, 45, 50, 51, 52] vs := mask_mb _ _ _ _
theorem mk34_1000006 (vs : List V) : mask (maskOf en34.ms 1000006) vs = km 113 0 [2, 7, 9, 11, 12, 13, 14, 16, 45, 50, 51, 52, 58, 59, 60] vs := mask_mb _ _ _ _
theorem mk34_1000000 (vs : List V) : mask (maskOf en34.ms 1000000) vs = km 113 0 [6] vs := mask_mb _ _ _ _
theorem fz34_0 (lv : Nat) (f : Run) : frzF en34.ms lv 0 f = f := nr rfl
theorem fi34_0 (lv : Nat) (env : List V) (st : Store) (q : Store → Out) : frzI en34.ms lv 0 env st q = q st := nr rfl
theorem fz34_2 (lv : Nat) (f : Run) : frzF en34.ms lv 2 f = f := nr rfl
theorem fi34_2 (lv : Nat) (env : List V) (st : Store) (q : Store → Out) : frzI en34.ms lv 2 env st q = q st := nr rfl
theorem fz34_4 (lv : Nat) (f : Run) : frzF en34.ms lv 4 f = f := nr rfl
theorem fi34_4 (lv : Nat) (env : List V) (st : Store) (q : Store → Out) : frzI en34.ms lv 4 env st q = q st := nr rfl
noncomputable def lb34_0 : Code := loopN Try.f34 0
noncomputable def lb34_2 : Code := loopN Try.f34 1
noncomputable def lb34_4 : Code := loopN Try.f34 2
end Go.Proofs.Ytnojehmbiceceaa.E
end
section
set_option linter.unusedVariables false
set_option linter.unusedSimpArgs false
set_option maxRecDepth 100000
namespace Go.Proofs.Ytnojehmbiceceaa.E
open Go.Ev
noncomputable def en112 : Entry := ⟨Try.f112, [(0, mb 62 0 [2, 4, 13, 14]), (1000001, mb 62 0 [2, 4]), (1000002, mb 62 0 [2, 4, 13, 14]), (1000000, mb 62 0 [2, 3]), (6000000, mb 62 0 [4]), (7000000, mb 62 0 [43])]⟩
theorem mk112_0 (vs : List V) : mask (maskOf en112.ms 0) vs = km 62 0 [2, 4, 13, 14] vs := mask_mb _ _ _ _
theorem mk112_1000001 (vs : List V) : mask (maskOf en112.ms 1000001) vs = km 62 0 [2, 4] vs := mask_mb _ _ _ _
theorem mk112_1000002 (vs : List V) : mask (maskOf en112.ms 1000002) vs = km 62 0 [2, 4, 13, 14] vs := mask_mb _ _ _ _
theorem mk112_1000000 (vs : List V) : mask (maskOf en112.ms 1000000) vs = km 62 0 [2, 3] vs := mask_mb _ _ _ _
def fk112_0 : List Bool := mb 62 0 [43]
theorem fz112_0 (lv : Nat) (f : Run) : frzF en112.ms lv 0 f = fun env st => frzO lv (mb 62 0 [4]) fk112_0 (f env st) := nr rfl
theorem fi112_0 (lv : Nat) (env : List V) (st : Store) (q : Store → Out) : frzI en112.ms lv 0 env st q = (match frzL st lv fk112_0 (mb 62 0 [4]) env st with | some st' => q (killL lv fk112_0 0 st') | none => none) := nr rfl
theorem kq112_0 (lv : Nat) (st : Store) : killL lv fk112_0 0 st = killAt (st) (lv, 43) := nr rfl
theorem gd112_0_1 : fk112_0.getD 1 false = false := by kernel_rfl
theorem gd112_0_2 : fk112_0.getD 2 false = false := by kernel_rfl
theorem gd112_0_4 : fk112_0.getD 4 false = false := by kernel_rfl
theorem gd112_0_6 : fk112_0.getD 6 false = false := by kernel_rfl
theorem gd112_0_43 : fk112_0.getD 43 false = true := by kernel_rfl
theorem gd112_0_57 : fk112_0.getD 57 false = false := by kernel_rfl
theorem gd112_0_58 : fk112_0.getD 58 false = false := by kernel_rfl
noncomputable def lb112_0 : Code := loopN Try.f112 0
end Go.Proofs.Ytnojehmbiceceaa.E
end
