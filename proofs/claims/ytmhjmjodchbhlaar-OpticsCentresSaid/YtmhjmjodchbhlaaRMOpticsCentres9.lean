/- Parts of one proof, joined: Frac2Cen, Frac3Cen, MeanCen, Cen1Cen, Cen2Cen. -/
import Derived.Test.YtmhjmjodchbhlaaRMOpticsCentres8
section
set_option linter.unusedVariables false
set_option linter.unusedSimpArgs false
set_option maxRecDepth 100000
namespace Go.Proofs.YtmhjmjodchbhlaaR.Frac2Cen
open Go.Ev Go.Ari Go.Proofs.YtmhjmjodchbhlaaR.FxCen Go.Proofs.YtmhjmjodchbhlaaR.Frac1Cen
open Go.Proofs.YtmhjmjodchbhlaaR.Num1Pull (c1 c2 c3 U I)
open Go.Proofs.YtmhjmjodchbhlaaR.Num3Pull (ab wide sProd sProd_run sProd_ok)
attribute [local go_sem] Ev.putR_s Ev.putR_0 Ev.thenO_s Ev.thenO_0 Ev.seqR_n Ev.seqR_e Ev.seqR_r Ev.seqR_0 Ev.blkR_e Ev.blkR_n Ev.blkR_r Ev.blkR_0 Ev.normR_s Ev.normR_0 Ev.outR_r Ev.outR_n Ev.outR_0 Ev.retS_s Ev.retS_0 Ev.pureO_s Ev.pureO_0 Ev.topR_0 Ev.topR_t Ev.topR_t0 Ev.oneL_0 Ev.oneL_s Ev.topR_d Ev.topR_nils Ev.topR_agg Ev.topR_rs Ev.evOp_move Ev.evOp_assign Ev.evOp_pick Ev.evOp_alloc Ev.evOp_box Ev.evOp_build Ev.evOp_buildSlice Ev.evOp_load Ev.evOp_store Ev.evOp_makeMap Ev.evOp_lookup Ev.evOp_mapUpdate Ev.evOp_insert Ev.evOp_nilCheck Ev.evOp_binOp Ev.evOp_unOp Ev.evOp_convert Ev.evOp_makeFunc Ev.evOp_makeSlice Ev.evOp_slice Ev.evOp_fieldAddr Ev.evOp_field Ev.evOp_indexAddr Ev.evOp_index Ev.evOp_extract Ev.evOp_call Ev.evOp_append Ev.evOp_len Ev.evOp_min Ev.evOp_max Ev.condR_b Ev.condR_t Ev.evOps_nil Ev.evOps_plain Ev.evOps_guard Ev.runG_eq Ev.skipG_eq Ev.condL_tt Ev.condL_ff Ev.condL_tf Ev.condL_ft Ev.condL_u Ev.condC_t Ev.condC_f Ev.evC_skip Ev.evC_ret Ev.evC_exit Ev.evC_label Ev.evC_region Ev.evC_draw Ev.evC_seq Ev.evC_cond Ev.evC_block Ev.evC_loop Ev.fin_d Ev.fin_nils Ev.fin_agg_ Ev.fin_rs Ev.finS_s Ev.mapO_fin Ev.upd_upd Ev.argv_d Ev.argv_nils Ev.argv_agg Ev.argv_rs Ev.argv_p Ev.appendTo_nils Ev.appendTo_rs Ev.consV_d Ev.consV_agg Ev.consV_p Ev.consV_rs Ev.consV_nils Ev.consV_fn Ev.consV_und Ev.consV_jk Ev.consV_grown Ev.topR_grown Ev.len_grown Ev.consV_mp Ev.sameK_i Ev.sameK_s Ev.mget_0 Ev.mget_hit Ev.mget_miss Ev.mput_0 Ev.mput_hit Ev.mput_miss Ev.apartAll Ev.apartL Ev.apartV Ev.freeAll Ev.sel Ev.keyOfV Ev.evLookup Ev.evPut Ev.hintOk Ev.keyOk Ev.consP Ev.lookV Ev.guardV Ev.dstAt Ev.evPure Ev.evStore Ev.evPureB Ev.evBin Ev.evBinO Ev.evNil Ev.isNilC Ev.evUn Ev.evConv Ev.evSlice Ev.optI Ev.lenV Ev.elemT Ev.foldI Ev.capsOk Ev.noTup Ev.nth Ev.setN Ev.pad Ev.V.get Ev.V.put Ev.putD Ev.hasT Ev.newBlk Ev.upd Ev.keq Ev.empty Ev.evCall Ev.V.args Ev.argP Ev.callOf Ev.evNilP Ev.isNilP Ev.look Ev.V.view.views Ev.V.view Ev.V.toD Ev.V.toD.V.toDs Ev.V.pure.pures Ev.V.pure Ev.D.flat.flats Ev.D.flat Ev.mkAgg Ev.allD Ev.aggParts Ev.setParts Ev.setElems Ev.getPath Ev.setPath Ev.subL Ev.eqD Ev.eqD.eqDs Ev.and2 Ev.strCut Ev.evalT Ev.constT Ev.evArgs Ev.mask Ev.maskOf Ev.tableOf Ev.compT Ev.resV Ev.retV Ev.mapO Ev.elemsOf Int.cast_ofNat_Int IntWalk.i64_in IntWalk.u64_in IntWalk.u8_in beq_self_eq_true Bool.true_beq Bool.false_beq Bool.and_true Bool.true_and Bool.false_and Bool.and_false Bool.and_self Bool.not_true Bool.not_false Bool.not_eq_true cond_true cond_false if_true if_false and_true true_and and_self decide_true decide_false Bool.or_true Bool.true_or Bool.or_false Bool.false_or List.isEmpty List.isEmpty_nil List.size_toArray List.map List.length_map List.length_cons List.length_nil Option.map Option.bind Option.getD Option.isSome List.replicate Bool.false_eq_true implies_true forall_const Array.toList Array.isEmpty List.append List.nil_append List.cons_append List.drop_zero List.take_length List.take_succ_cons List.take_zero List.take_nil List.getElem?_map List.getElem?_cons_zero List.getElem?_cons_succ List.getElem?_nil List.append_nil
attribute [local go_sem] FxCen.tk2 FxCen.ik2 FxCen.ek2 FxCen.zv2 FxCen.tk3 FxCen.ik3 FxCen.ek3 FxCen.zv3 FxCen.tk4 FxCen.ub4 FxCen.zv4 FxCen.by4 FxCen.so4 FxCen.tk27 FxCen.ik27 FxCen.zv27 FxCen.by27 FxCen.so27 FxCen.tk31 FxCen.zv31 FxCen.tk33 FxCen.ct33 FxCen.ek33 FxCen.zv33 FxCen.tk56 FxCen.ik56 FxCen.zv56 FxCen.tk57 FxCen.zv57 FxCen.tk61 FxCen.ik61 FxCen.ek61 FxCen.zv61 FxCen.tk63 FxCen.ct63 FxCen.ek63 FxCen.zv63 FxCen.by63 FxCen.so63 FxCen.tk72 FxCen.ct72 FxCen.zv72 FxCen.by72 FxCen.so72 FxCen.tk92 FxCen.ik92 FxCen.zv92 FxCen.tk99 FxCen.zv99 FxCen.tk100 FxCen.zv100 FxCen.tk101 FxCen.zv101 FxCen.tk135 FxCen.ik135 FxCen.zv135 FxCen.tk150 FxCen.ct150 FxCen.zv150 FxCen.tk159 FxCen.zv159 FxCen.tk190 FxCen.zv190 FxCen.mk5_1000000 FxCen.dw19_18 FxCen.nc19_18 FxCen.dw19_19 FxCen.nc19_19 FxCen.mk19_0 FxCen.mk19_1000001 FxCen.mk19_1000002 FxCen.mk19_1000003 FxCen.mk19_1000000 FxCen.dw20_19 FxCen.nc20_19 FxCen.mk20_0 FxCen.mk20_1000001 FxCen.mk20_1000002 FxCen.mk20_1000000 FxCen.mk21_1000000 FxCen.dw32_7 FxCen.nc32_7 FxCen.mk32_1 FxCen.mk32_1000001 FxCen.mk32_1000002 FxCen.mk32_1000003 FxCen.mk32_1000000 FxCen.mk35_1000000 FxCen.mk56_1000000 FxCen.dw57_5 FxCen.nc57_5 FxCen.dw57_6 FxCen.nc57_6 FxCen.mk57_0 FxCen.mk57_1000001 FxCen.mk57_1000002 FxCen.mk57_1000003 FxCen.mk57_1000000 FxCen.dw58_4 FxCen.nc58_4 FxCen.dw58_5 FxCen.nc58_5 FxCen.dw58_6 FxCen.nc58_6 FxCen.mk58_1000000 FxCen.mk59_0 FxCen.mk59_1000001 FxCen.mk59_1000002 FxCen.mk59_1000000 FxCen.dw60_5 FxCen.nc60_5 FxCen.dw60_10 FxCen.nc60_10 FxCen.mk60_0 FxCen.mk60_1000001 FxCen.mk60_1000002 FxCen.mk60_1000000 FxCen.dw61_5 FxCen.nc61_5 FxCen.dw61_8 FxCen.nc61_8 FxCen.mk61_1000000 FxCen.mk62_1000000 FxCen.mk63_1000000 FxCen.mk69_1000000 FxCen.mk79_1000001 FxCen.mk79_1000000 FxCen.mk104_1000000 FxCen.dw105_1 FxCen.nc105_1 FxCen.mk105_1000000 FxCen.dw106_3 FxCen.nc106_3 FxCen.mk106_0 FxCen.mk106_1000001 FxCen.mk106_1000002 FxCen.mk106_1000000 FxCen.mk107_1000000 FxCen.mk108_0 FxCen.mk108_1000001 FxCen.mk108_1000002 FxCen.mk108_1000000 FxCen.mk109_1000000 FxCen.dw110_6 FxCen.nc110_6 FxCen.mk110_1000000 FxCen.mk137_1000000
/-! ### num.Mul -/
def fits (n : Int) : Prop := -9223372036854775808 ≤ n ∧ n < 9223372036854775808
instance (n : Int) : Decidable (fits n) := by unfold fits; infer_instance
def mulR (n : Int) : Int × Bool := if fits n then (n, true) else (0, false)
noncomputable def sMulO : Ev.Spec := specC (c2 .i64) (fun x => I x.1 ∧ I x.2) fun x => [.int .i64 (mulR (x.1 * x.2)).1, .bool (mulR (x.1 * x.2)).2]
theorem sMulO_run (a b : Int) (ha : I a) (hb : I b) : sMulO.run [.int .i64 a, .int .i64 b] = some [.int .i64 (mulR (a * b)).1, .bool (mulR (a * b)).2] := specC_run (c2 .i64) _ _ (a, b) ⟨ha, hb⟩
noncomputable def G1 : Specs := [(99, sProd)]
noncomputable def T1 : Table := tableOf [(107, en107)]
theorem G1_ok : ∀ g s, Ev.look G1 g = some s → SpecOk Try.prog g s := specs_cons sProd_ok specs_nil
theorem T1_ok : TableOk Try.prog (G1.map (·.1)) T1 := (table_cons Try.func107 (by kernel_rfl) (by kernel_rfl) table_nil)
theorem mul_bd {a b : Int} (ha : I a) (hb : I b) : -85070591730234615865843651857942052864 ≤ a * b ∧ a * b ≤ 85070591730234615865843651857942052864 := by
  have h := Go.Proofs.YtmhjmjodchbhlaaR.Num3Pull.prod_bounds ha hb
  have e := Go.Proofs.YtmhjmjodchbhlaaR.Num3Pull.ab_mul a b
  rw [e] at h
  split at h <;> omega
theorem shr63 (x : Int) : shrI .i64 x 63 = x / 9223372036854775808 := shr_lit .i64 x 63 (by decide)
theorem eMulO (a b : Int) (ha : I a) (hb : I b) : evTop Try.prog G1 T1 0 1 107 [.int .i64 a, .int .i64 b] = some [.int .i64 (mulR (a * b)).1, .bool (mulR (a * b)).2] := by
  have rp := sProd_run a b ha hb
  obtain ⟨b0, b1⟩ := mul_bd ha hb
  generalize a * b = n at *
  unfold wide at rp
  unfold evTop
  simp only [List.map]
  rw [evF_s (fn := Try.f107) (msk := en107.ms) (hT := by rfl) (hb := by rfl)]
  unfold mulR
  by_cases h : fits n
  · rw [if_pos h]
    obtain ⟨h0, h1⟩ := h
    have e1 : decide (IntKind.i64.wrap (n / 18446744073709551616) = n / 9223372036854775808) = true := decide_eq_true (by simp only [wi]; omega)
    have e2 : IntKind.i64.wrap (n % 18446744073709551616) = n := by rw [wi]; omega
    simp only [Try.f107, G1, go_sem, Nat.reduceAdd, Nat.reduceSub, Nat.reduceMul, Nat.reduceEqDiff, Nat.reduceBEq, Nat.reduceLT, Nat.reduceLeDiff, Nat.reducePow, Int.reduceToNat, Int.reduceLT, Int.reduceLE, Int.reduceGT, Int.reduceGE, Int.reduceEq, Int.reduceNeg, Int.reduceAdd, Int.reduceSub, ↓reduceIte, reduceCtorEq, rp, shr63, e1, e2]
  · rw [if_neg h]
    have e1 : decide (IntKind.i64.wrap (n / 18446744073709551616) = IntKind.i64.wrap (n % 18446744073709551616) / 9223372036854775808) = false := decide_eq_false (by
      unfold fits at h
      have w : IntKind.i64.wrap (n / 18446744073709551616) = n / 18446744073709551616 := wi_in (by omega) (by omega)
      rw [w, wi]
      rcases Int.lt_or_le (n % 18446744073709551616) 9223372036854775808 with q | q
      · rw [Int.emod_eq_of_lt (by omega) (by omega)]; omega
      · have : (n % 18446744073709551616 + 9223372036854775808) % 18446744073709551616 = n % 18446744073709551616 - 9223372036854775808 := by omega
        rw [this]; omega)
    simp only [Try.f107, G1, go_sem, Nat.reduceAdd, Nat.reduceSub, Nat.reduceMul, Nat.reduceEqDiff, Nat.reduceBEq, Nat.reduceLT, Nat.reduceLeDiff, Nat.reducePow, Int.reduceToNat, Int.reduceLT, Int.reduceLE, Int.reduceGT, Int.reduceGE, Int.reduceEq, Int.reduceNeg, Int.reduceAdd, Int.reduceSub, ↓reduceIte, reduceCtorEq, rp, shr63, e1]
theorem mulO_ok : SpecOk Try.prog 107 sMulO := specC_ok mixed G1_ok T1_ok fun x hp => ⟨0, 1, eMulO x.1 x.2 hp.1 hp.2⟩
#print axioms mulO_ok
/-! ### frac.made -/
instance (n : Int) : Decidable (Lim n) := by unfold Lim; infer_instance
def madeR (n d : Int) (o : Bool) : (Int × Int) × Int := if o = true ∧ Lim n then ((n, d), 0) else ((0, 0), 2)
noncomputable def cMade : CodL (Int × Int × Bool × Bool) := ⟨fun x => [.int .i64 x.1, .int .i64 x.2.1, .sl 4 [.bool x.2.2.1, .bool x.2.2.2]], fun x y h => by
  obtain ⟨a, b, c, d⟩ := x; obtain ⟨a', b', c', d'⟩ := y
  simp only [List.cons.injEq, D.int.injEq, D.sl.injEq, D.bool.injEq, true_and, and_true] at h
  simp [h]⟩
noncomputable def sMade : Ev.Spec := specC cMade (fun x => x.2.1 ≤ 1152921504606846976) fun x => [fD (madeR x.1 x.2.1 (x.2.2.1 && x.2.2.2)).1, .int .i64 (madeR x.1 x.2.1 (x.2.2.1 && x.2.2.2)).2]
theorem sMade_run (n d : Int) (o p : Bool) (h : d ≤ 1152921504606846976) : sMade.run [.int .i64 n, .int .i64 d, .sl 4 [.bool o, .bool p]] = some [fD (madeR n d (o && p)).1, .int .i64 (madeR n d (o && p)).2] := specC_run cMade _ _ (n, d, o, p) h
noncomputable def T2 : Table := tableOf [(108, en108)]
theorem T2_ok : TableOk Try.prog (([] : Specs).map (·.1)) T2 := (table_cons Try.func108 (by kernel_rfl) (by kernel_rfl) table_nil)
theorem eMade (n d : Int) (o p : Bool) (h : d ≤ 1152921504606846976) : evTop Try.prog [] T2 3 1 108 [.int .i64 n, .int .i64 d, .sl 4 [.bool o, .bool p]] = some [fD (madeR n d (o && p)).1, .int .i64 (madeR n d (o && p)).2] := by
  have wa : IntKind.i64.wrap (0 + 1) = 1 := by decide
  have wb : IntKind.i64.wrap (1 + 1) = 2 := by decide
  unfold evTop
  simp only [List.map]
  rw [evF_s (fn := Try.f108) (msk := en108.ms) (hT := by rfl) (hb := by rfl)]
  unfold madeR
  cases o with
  | false =>
    rw [if_neg (by simp)]
    simp only [Try.f108, go_sem, Nat.reduceAdd, Nat.reduceSub, Nat.reduceMul, Nat.reduceEqDiff, Nat.reduceBEq, Nat.reduceLT, Nat.reduceLeDiff, Nat.reducePow, Int.reduceToNat, Int.reduceLT, Int.reduceLE, Int.reduceGT, Int.reduceGE, Int.reduceEq, Int.reduceNeg, Int.reduceAdd, Int.reduceSub, ↓reduceIte, reduceCtorEq, iter_s, fD]
  | true =>
    cases p with
    | false =>
      rw [if_neg (by simp)]
      simp only [Try.f108, go_sem, Nat.reduceAdd, Nat.reduceSub, Nat.reduceMul, Nat.reduceEqDiff, Nat.reduceBEq, Nat.reduceLT, Nat.reduceLeDiff, Nat.reducePow, Int.reduceToNat, Int.reduceLT, Int.reduceLE, Int.reduceGT, Int.reduceGE, Int.reduceEq, Int.reduceNeg, Int.reduceAdd, Int.reduceSub, ↓reduceIte, reduceCtorEq, iter_s, fD]
    | true =>
      have c3 : ¬ d > 1152921504606846976 := by omega
      by_cases c1 : n < -1152921504606846976
      · rw [if_neg (by unfold Lim; omega)]
        simp only [Try.f108, go_sem, Nat.reduceAdd, Nat.reduceSub, Nat.reduceMul, Nat.reduceEqDiff, Nat.reduceBEq, Nat.reduceLT, Nat.reduceLeDiff, Nat.reducePow, Int.reduceToNat, Int.reduceLT, Int.reduceLE, Int.reduceGT, Int.reduceGE, Int.reduceEq, Int.reduceNeg, Int.reduceAdd, Int.reduceSub, ↓reduceIte, reduceCtorEq, iter_s, c1, fD]
      by_cases c2 : n > 1152921504606846976
      · rw [if_neg (by unfold Lim; omega)]
        simp only [Try.f108, go_sem, Nat.reduceAdd, Nat.reduceSub, Nat.reduceMul, Nat.reduceEqDiff, Nat.reduceBEq, Nat.reduceLT, Nat.reduceLeDiff, Nat.reducePow, Int.reduceToNat, Int.reduceLT, Int.reduceLE, Int.reduceGT, Int.reduceGE, Int.reduceEq, Int.reduceNeg, Int.reduceAdd, Int.reduceSub, ↓reduceIte, reduceCtorEq, iter_s, c1, c2, fD]
      rw [if_pos ⟨rfl, by unfold Lim; omega⟩]
      simp only [Try.f108, go_sem, Nat.reduceAdd, Nat.reduceSub, Nat.reduceMul, Nat.reduceEqDiff, Nat.reduceBEq, Nat.reduceLT, Nat.reduceLeDiff, Nat.reducePow, Int.reduceToNat, Int.reduceLT, Int.reduceLE, Int.reduceGT, Int.reduceGE, Int.reduceEq, Int.reduceNeg, Int.reduceAdd, Int.reduceSub, ↓reduceIte, reduceCtorEq, iter_s, c1, c2, c3, fD]
theorem made_ok : SpecOk Try.prog 108 sMade := specC_ok mixed specs_nil T2_ok fun x hp => ⟨3, 1, eMade x.1 x.2.1 x.2.2.1 x.2.2.2 hp⟩
#print axioms made_ok
/-! ### cmp.Or -/
def orR : List Int → Int
  | [] => 0
  | x :: r => if x = 0 then orR r else x
def cOr : CodL (List Int) := cOne (cL 27 (cI .i64))
noncomputable def sOr : Ev.Spec := specC cOr (fun l => l.length = 2 ∨ l.length = 3) fun l => [.int .i64 (orR l)]
theorem sOr_run2 (a b : Int) : sOr.run [.sl 27 [.int .i64 a, .int .i64 b]] = some [.int .i64 (orR [a, b])] := specC_run cOr _ _ [a, b] (.inl rfl)
theorem sOr_run3 (a b c : Int) : sOr.run [.sl 27 [.int .i64 a, .int .i64 b, .int .i64 c]] = some [.int .i64 (orR [a, b, c])] := specC_run cOr _ _ [a, b, c] (.inr rfl)
noncomputable def T3 : Table := tableOf [(59, en59)]
theorem T3_ok : TableOk Try.prog (([] : Specs).map (·.1)) T3 := (table_cons Try.func59 (by kernel_rfl) (by kernel_rfl) table_nil)
theorem eOr3 (a b c : Int) : evTop Try.prog [] T3 4 1 59 [.sl 27 [.int .i64 a, .int .i64 b, .int .i64 c]] = some [.int .i64 (orR [a, b, c])] := by
  have wa : IntKind.i64.wrap (0 + 1) = 1 := by decide
  have wb : IntKind.i64.wrap (1 + 1) = 2 := by decide
  have wc : IntKind.i64.wrap (2 + 1) = 3 := by decide
  unfold evTop
  simp only [List.map]
  rw [evF_s (fn := Try.f59) (msk := en59.ms) (hT := by rfl) (hb := by rfl)]
  unfold orR orR orR orR
  by_cases c1 : a = 0
  case neg => rw [if_neg c1]; simp only [Try.f59, go_sem, Nat.reduceAdd, Nat.reduceSub, Nat.reduceMul, Nat.reduceEqDiff, Nat.reduceBEq, Nat.reduceLT, Nat.reduceLeDiff, Nat.reducePow, Int.reduceToNat, Int.reduceLT, Int.reduceLE, Int.reduceGT, Int.reduceGE, Int.reduceEq, Int.reduceNeg, Int.reduceAdd, Int.reduceSub, ↓reduceIte, reduceCtorEq, iter_s, decide_eq_false c1]
  rw [if_pos c1]
  by_cases c2 : b = 0
  case neg => rw [if_neg c2]; simp only [Try.f59, go_sem, Nat.reduceAdd, Nat.reduceSub, Nat.reduceMul, Nat.reduceEqDiff, Nat.reduceBEq, Nat.reduceLT, Nat.reduceLeDiff, Nat.reducePow, Int.reduceToNat, Int.reduceLT, Int.reduceLE, Int.reduceGT, Int.reduceGE, Int.reduceEq, Int.reduceNeg, Int.reduceAdd, Int.reduceSub, ↓reduceIte, reduceCtorEq, iter_s, decide_eq_true c1, decide_eq_false c2]
  rw [if_pos c2]
  by_cases c3 : c = 0
  · rw [if_pos c3]; simp only [Try.f59, go_sem, Nat.reduceAdd, Nat.reduceSub, Nat.reduceMul, Nat.reduceEqDiff, Nat.reduceBEq, Nat.reduceLT, Nat.reduceLeDiff, Nat.reducePow, Int.reduceToNat, Int.reduceLT, Int.reduceLE, Int.reduceGT, Int.reduceGE, Int.reduceEq, Int.reduceNeg, Int.reduceAdd, Int.reduceSub, ↓reduceIte, reduceCtorEq, iter_s, decide_eq_true c1, decide_eq_true c2, decide_eq_true c3]
  · rw [if_neg c3]; simp only [Try.f59, go_sem, Nat.reduceAdd, Nat.reduceSub, Nat.reduceMul, Nat.reduceEqDiff, Nat.reduceBEq, Nat.reduceLT, Nat.reduceLeDiff, Nat.reducePow, Int.reduceToNat, Int.reduceLT, Int.reduceLE, Int.reduceGT, Int.reduceGE, Int.reduceEq, Int.reduceNeg, Int.reduceAdd, Int.reduceSub, ↓reduceIte, reduceCtorEq, iter_s, decide_eq_true c1, decide_eq_true c2, decide_eq_false c3]
theorem eOr2 (a b : Int) : evTop Try.prog [] T3 3 1 59 [.sl 27 [.int .i64 a, .int .i64 b]] = some [.int .i64 (orR [a, b])] := by
  have wa : IntKind.i64.wrap (0 + 1) = 1 := by decide
  have wb : IntKind.i64.wrap (1 + 1) = 2 := by decide
  unfold evTop
  simp only [List.map]
  rw [evF_s (fn := Try.f59) (msk := en59.ms) (hT := by rfl) (hb := by rfl)]
  unfold orR orR orR
  by_cases c1 : a = 0
  case neg => rw [if_neg c1]; simp only [Try.f59, go_sem, Nat.reduceAdd, Nat.reduceSub, Nat.reduceMul, Nat.reduceEqDiff, Nat.reduceBEq, Nat.reduceLT, Nat.reduceLeDiff, Nat.reducePow, Int.reduceToNat, Int.reduceLT, Int.reduceLE, Int.reduceGT, Int.reduceGE, Int.reduceEq, Int.reduceNeg, Int.reduceAdd, Int.reduceSub, ↓reduceIte, reduceCtorEq, iter_s, decide_eq_false c1]
  rw [if_pos c1]
  by_cases c2 : b = 0
  · rw [if_pos c2]; simp only [Try.f59, go_sem, Nat.reduceAdd, Nat.reduceSub, Nat.reduceMul, Nat.reduceEqDiff, Nat.reduceBEq, Nat.reduceLT, Nat.reduceLeDiff, Nat.reducePow, Int.reduceToNat, Int.reduceLT, Int.reduceLE, Int.reduceGT, Int.reduceGE, Int.reduceEq, Int.reduceNeg, Int.reduceAdd, Int.reduceSub, ↓reduceIte, reduceCtorEq, iter_s, decide_eq_true c1, decide_eq_true c2]
  · rw [if_neg c2]; simp only [Try.f59, go_sem, Nat.reduceAdd, Nat.reduceSub, Nat.reduceMul, Nat.reduceEqDiff, Nat.reduceBEq, Nat.reduceLT, Nat.reduceLeDiff, Nat.reducePow, Int.reduceToNat, Int.reduceLT, Int.reduceLE, Int.reduceGT, Int.reduceGE, Int.reduceEq, Int.reduceNeg, Int.reduceAdd, Int.reduceSub, ↓reduceIte, reduceCtorEq, iter_s, decide_eq_true c1, decide_eq_false c2]
theorem or_ok : SpecOk Try.prog 59 sOr := specC_ok mixed specs_nil T3_ok fun l hp => by
  match l, hp with
  | [a, b], _ => exact ⟨3, 1, eOr2 a b⟩
  | [a, b, c], _ => exact ⟨4, 1, eOr3 a b c⟩
  | [], hp => simp at hp
  | [_], hp => simp at hp
  | _ :: _ :: _ :: _ :: _, hp => simp at hp
#print axioms or_ok
/-! ### frac.Check, both -/
def okF (p : Int × Int) : Prop := Lim p.1 ∧ (1 ≤ p.2 ∧ p.2 ≤ 1152921504606846976) ∧ gI p.1 p.2 = 1
def cF : Cod (Int × Int) := cA 33 (cCons (cI .i64) (cOne (cI .i64)))
noncomputable def sChkF : Ev.Spec := specC (cOne cF) okF fun _ => [.int .i64 0]
theorem sChkF_run (p q : Int) (h : okF (p, q)) : sChkF.run [.agg 33 [.int .i64 p, .int .i64 q]] = some [.int .i64 0] := specC_run (cOne cF) _ _ (p, q) h
noncomputable def G4 : Specs := [(106, sGcd)]
noncomputable def T4 : Table := tableOf [(137, en137)]
theorem G4_ok : ∀ g s, Ev.look G4 g = some s → SpecOk Try.prog g s := specs_cons gcd_ok specs_nil
theorem T4_ok : TableOk Try.prog (G4.map (·.1)) T4 := (table_cons Try.func137 (by kernel_rfl) (by kernel_rfl) table_nil)
theorem eChkF (p q : Int) (h : okF (p, q)) : evTop Try.prog G4 T4 0 1 137 [.agg 33 [.int .i64 p, .int .i64 q]] = some [.int .i64 0] := by
  obtain ⟨⟨h1, h2⟩, ⟨h3, h4⟩, h5⟩ := h
  simp only at h1 h2 h3 h4 h5
  have rg := sGcd_run p q ⟨h1, h2⟩ ⟨by omega, h4⟩
  rw [h5] at rg
  have c1 : ¬ p < -1152921504606846976 := by omega
  have c2 : ¬ p > 1152921504606846976 := by omega
  have c3 : ¬ q < 1 := by omega
  have c4 : ¬ q > 1152921504606846976 := by omega
  unfold evTop
  simp only [List.map]
  rw [evF_s (fn := Try.f137) (msk := en137.ms) (hT := by rfl) (hb := by rfl)]
  simp only [Try.f137, G4, go_sem, Nat.reduceAdd, Nat.reduceSub, Nat.reduceMul, Nat.reduceEqDiff, Nat.reduceBEq, Nat.reduceLT, Nat.reduceLeDiff, Nat.reducePow, Int.reduceToNat, Int.reduceLT, Int.reduceLE, Int.reduceGT, Int.reduceGE, Int.reduceEq, Int.reduceNeg, Int.reduceAdd, Int.reduceSub, ↓reduceIte, reduceCtorEq, c1, c2, c3, c4, rg]
theorem chkF_ok : SpecOk Try.prog 137 sChkF := specC_ok mixed G4_ok T4_ok fun x hp => ⟨0, 1, eChkF x.1 x.2 hp⟩
noncomputable def sBoth : Ev.Spec := specC (cCons cF (cOne cF)) (fun x => okF x.1 ∧ okF x.2) fun _ => [.int .i64 0]
theorem sBoth_run (p q r s : Int) (h : okF (p, q)) (h' : okF (r, s)) : sBoth.run [.agg 33 [.int .i64 p, .int .i64 q], .agg 33 [.int .i64 r, .int .i64 s]] = some [.int .i64 0] := specC_run (cCons cF (cOne cF)) _ _ ((p, q), (r, s)) ⟨h, h'⟩
noncomputable def G5 : Specs := [(137, sChkF), (59, sOr)]
noncomputable def T5 : Table := tableOf [(105, en105)]
theorem G5_ok : ∀ g s, Ev.look G5 g = some s → SpecOk Try.prog g s := specs_cons chkF_ok (specs_cons or_ok specs_nil)
theorem T5_ok : TableOk Try.prog (G5.map (·.1)) T5 := (table_cons Try.func105 (by kernel_rfl) (by kernel_rfl) table_nil)
theorem eBoth (p q r s : Int) (h : okF (p, q)) (h' : okF (r, s)) : evTop Try.prog G5 T5 0 1 105 [.agg 33 [.int .i64 p, .int .i64 q], .agg 33 [.int .i64 r, .int .i64 s]] = some [.int .i64 0] := by
  have r1 := sChkF_run p q h
  have r2 := sChkF_run r s h'
  have r3 := sOr_run2 0 0
  have e : orR [0, 0] = 0 := rfl
  rw [e] at r3
  unfold evTop
  simp only [List.map]
  rw [evF_s (fn := Try.f105) (msk := en105.ms) (hT := by rfl) (hb := by rfl)]
  simp only [Try.f105, G5, go_sem, Nat.reduceAdd, Nat.reduceSub, Nat.reduceMul, Nat.reduceEqDiff, Nat.reduceBEq, Nat.reduceLT, Nat.reduceLeDiff, Nat.reducePow, Int.reduceToNat, Int.reduceLT, Int.reduceLE, Int.reduceGT, Int.reduceGE, Int.reduceEq, Int.reduceNeg, Int.reduceAdd, Int.reduceSub, ↓reduceIte, reduceCtorEq, r1, r2, r3]
theorem both_ok : SpecOk Try.prog 105 sBoth := specC_ok mixed G5_ok T5_ok fun x hp => ⟨0, 1, eBoth x.1.1 x.1.2 x.2.1 x.2.2 hp.1 hp.2⟩
#print axioms both_ok
/-! ### frac.Mul by 128 -/
theorem gI_one (p : Int) : gI p 1 = 1 := by unfold gI; rw [Int.gcd_one_right]; rfl
def mul128 (x : Int × Int) : (Int × Int) × Int := if Lim (x.1 * (128 / gI 128 x.2)) then ((x.1 * (128 / gI 128 x.2), x.2 / gI 128 x.2), 0) else ((0, 0), 2)
noncomputable def c128 : CodL (Int × Int) := ⟨fun x => [.agg 33 [.int .i64 x.1, .int .i64 x.2], .agg 33 [.int .i64 128, .int .i64 1]], fun x y h => by
  obtain ⟨a, b⟩ := x; obtain ⟨a', b'⟩ := y
  simp only [List.cons.injEq, D.agg.injEq, D.int.injEq, true_and, and_true] at h
  simp [h]⟩
noncomputable def sMul128 : Ev.Spec := specC c128 okF fun x => [fD (mul128 x).1, .int .i64 (mul128 x).2]
theorem sMul128_run (p q : Int) (h : okF (p, q)) : sMul128.run [.agg 33 [.int .i64 p, .int .i64 q], .agg 33 [.int .i64 128, .int .i64 1]] = some [fD (mul128 (p, q)).1, .int .i64 (mul128 (p, q)).2] := specC_run c128 _ _ (p, q) h
noncomputable def G6 : Specs := [(105, sBoth), (106, sGcd), (107, sMulO), (108, sMade)]
noncomputable def T6 : Table := tableOf [(58, en58)]
theorem G6_ok : ∀ g s, Ev.look G6 g = some s → SpecOk Try.prog g s := specs_cons both_ok (specs_cons gcd_ok (specs_cons mulO_ok (specs_cons made_ok specs_nil)))
theorem T6_ok : TableOk Try.prog (G6.map (·.1)) T6 := (table_cons Try.func58 (by kernel_rfl) (by kernel_rfl) table_nil)
theorem okF_one {m : Int} (h : Lim m) : okF (m, 1) := ⟨h, ⟨by simp, by simp⟩, gI_one m⟩
theorem eMul128 (p q : Int) (h : okF (p, q)) : evTop Try.prog G6 T6 0 1 58 [.agg 33 [.int .i64 p, .int .i64 q], .agg 33 [.int .i64 128, .int .i64 1]] = some [fD (mul128 (p, q)).1, .int .i64 (mul128 (p, q)).2] := by
  have rb := sBoth_run p q 128 1 h (okF_one (m := 128) ⟨by decide, by decide⟩)
  obtain ⟨⟨h1, h2⟩, ⟨h3, h4⟩, h5⟩ := h
  simp only at h1 h2 h3 h4 h5
  have g1 := sGcd_run p 1 ⟨h1, h2⟩ ⟨by decide, by decide⟩
  rw [gI_one] at g1
  have g2 := sGcd_run 128 q ⟨by decide, by decide⟩ ⟨by omega, h4⟩
  have hg : 1 ≤ gI 128 q := gI_pos h3
  have hg0 : ¬ gI 128 q = 0 := by omega
  obtain ⟨q0, q1⟩ := quo_le (show (0 : Int) ≤ 128 by decide) hg
  obtain ⟨d0, d1⟩ := quo_le (show (0 : Int) ≤ q by omega) hg
  have t1 : p.tdiv 1 = p := Int.tdiv_one p
  have t2 : (128 : Int).tdiv (gI 128 q) = 128 / gI 128 q := Int.tdiv_eq_ediv_of_nonneg (by decide)
  have t3 : q.tdiv (gI 128 q) = q / gI 128 q := Int.tdiv_eq_ediv_of_nonneg (by omega)
  have t4 : (1 : Int).tdiv 1 = 1 := by decide
  have w1 : IntKind.i64.wrap p = p := wi_in (by omega) (by omega)
  have w2 : IntKind.i64.wrap (128 / gI 128 q) = 128 / gI 128 q := wi_in (by omega) (by omega)
  have w3 : IntKind.i64.wrap (q / gI 128 q) = q / gI 128 q := wi_in (by omega) (by omega)
  have w4 : IntKind.i64.wrap 1 = 1 := by decide
  have m1 := sMulO_run p (128 / gI 128 q) (by unfold I; omega) (by unfold I; omega)
  have m2 := sMulO_run (q / gI 128 q) 1 (by unfold I; omega) (by unfold I; omega)
  have e2 : mulR (q / gI 128 q * 1) = (q / gI 128 q, true) := by rw [Int.mul_one]; unfold mulR; rw [if_pos (by unfold fits; omega)]
  rw [e2] at m2
  unfold mul128
  simp only
  generalize p * (128 / gI 128 q) = n at *
  have rm := sMade_run (mulR n).1 (q / gI 128 q) (mulR n).2 true (by omega)
  have em : madeR (mulR n).1 (q / gI 128 q) ((mulR n).2 && true) = if Lim n then ((n, q / gI 128 q), 0) else ((0, 0), 2) := by
    unfold mulR madeR
    by_cases hf : fits n
    · rw [if_pos hf]
      simp
    · rw [if_neg hf, if_neg (by simp), if_neg (by unfold Lim; unfold fits at hf; omega)]
  rw [em] at rm
  generalize mulR n = M at *
  generalize (if Lim n then ((n, q / gI 128 q), 0) else ((0, 0), 2) : (Int × Int) × Int) = F at *
  unfold fD at rm
  unfold evTop
  simp only [List.map]
  rw [evF_s (fn := Try.f58) (msk := en58.ms) (hT := by rfl) (hb := by rfl)]
  simp only [Try.f58, G6, go_sem, Nat.reduceAdd, Nat.reduceSub, Nat.reduceMul, Nat.reduceEqDiff, Nat.reduceBEq, Nat.reduceLT, Nat.reduceLeDiff, Nat.reducePow, Int.reduceToNat, Int.reduceLT, Int.reduceLE, Int.reduceGT, Int.reduceGE, Int.reduceEq, Int.reduceNeg, Int.reduceAdd, Int.reduceSub, ↓reduceIte, reduceCtorEq, rb, g1, g2, hg0, t1, t2, t3, t4, w1, w2, w3, w4, m1, m2, rm, fD]
theorem mul128_ok : SpecOk Try.prog 58 sMul128 := specC_ok mixed G6_ok T6_ok fun x hp => ⟨0, 1, eMul128 x.1 x.2 hp⟩
#print axioms mul128_ok
end Go.Proofs.YtmhjmjodchbhlaaR.Frac2Cen
end
section
set_option linter.unusedVariables false
set_option linter.unusedSimpArgs false
set_option maxRecDepth 100000
namespace Go.Proofs.YtmhjmjodchbhlaaR.Frac3Cen
open Go.Ev Go.Ari Go.Proofs.YtmhjmjodchbhlaaR.FxCen Go.Proofs.YtmhjmjodchbhlaaR.Frac1Cen Go.Proofs.YtmhjmjodchbhlaaR.Frac2Cen
open Go.Proofs.YtmhjmjodchbhlaaR.Num1Pull (c1 c2 c3 U I sAdd sAdd_run sAdd_ok)
open Go.Proofs.YtmhjmjodchbhlaaR.Num2Pull (sDiv sDiv_run sDiv_ok)
open Go.Proofs.YtmhjmjodchbhlaaR.Num3Pull (ab wide cW sProd sProd_run sProd_ok sNeg sNeg_run sNeg_ok quoR two sWdiv sWdiv_run)
attribute [local go_sem] Ev.putR_s Ev.putR_0 Ev.thenO_s Ev.thenO_0 Ev.seqR_n Ev.seqR_e Ev.seqR_r Ev.seqR_0 Ev.blkR_e Ev.blkR_n Ev.blkR_r Ev.blkR_0 Ev.normR_s Ev.normR_0 Ev.outR_r Ev.outR_n Ev.outR_0 Ev.retS_s Ev.retS_0 Ev.pureO_s Ev.pureO_0 Ev.topR_0 Ev.topR_t Ev.topR_t0 Ev.oneL_0 Ev.oneL_s Ev.topR_d Ev.topR_nils Ev.topR_agg Ev.topR_rs Ev.evOp_move Ev.evOp_assign Ev.evOp_pick Ev.evOp_alloc Ev.evOp_box Ev.evOp_build Ev.evOp_buildSlice Ev.evOp_load Ev.evOp_store Ev.evOp_makeMap Ev.evOp_lookup Ev.evOp_mapUpdate Ev.evOp_insert Ev.evOp_nilCheck Ev.evOp_binOp Ev.evOp_unOp Ev.evOp_convert Ev.evOp_makeFunc Ev.evOp_makeSlice Ev.evOp_slice Ev.evOp_fieldAddr Ev.evOp_field Ev.evOp_indexAddr Ev.evOp_index Ev.evOp_extract Ev.evOp_call Ev.evOp_append Ev.evOp_len Ev.evOp_min Ev.evOp_max Ev.condR_b Ev.condR_t Ev.evOps_nil Ev.evOps_plain Ev.evOps_guard Ev.runG_eq Ev.skipG_eq Ev.condL_tt Ev.condL_ff Ev.condL_tf Ev.condL_ft Ev.condL_u Ev.condC_t Ev.condC_f Ev.evC_skip Ev.evC_ret Ev.evC_exit Ev.evC_label Ev.evC_region Ev.evC_draw Ev.evC_seq Ev.evC_cond Ev.evC_block Ev.evC_loop Ev.fin_d Ev.fin_nils Ev.fin_agg_ Ev.fin_rs Ev.finS_s Ev.mapO_fin Ev.upd_upd Ev.argv_d Ev.argv_nils Ev.argv_agg Ev.argv_rs Ev.argv_p Ev.appendTo_nils Ev.appendTo_rs Ev.consV_d Ev.consV_agg Ev.consV_p Ev.consV_rs Ev.consV_nils Ev.consV_fn Ev.consV_und Ev.consV_jk Ev.consV_grown Ev.topR_grown Ev.len_grown Ev.consV_mp Ev.sameK_i Ev.sameK_s Ev.mget_0 Ev.mget_hit Ev.mget_miss Ev.mput_0 Ev.mput_hit Ev.mput_miss Ev.apartAll Ev.apartL Ev.apartV Ev.freeAll Ev.sel Ev.keyOfV Ev.evLookup Ev.evPut Ev.hintOk Ev.keyOk Ev.consP Ev.lookV Ev.guardV Ev.dstAt Ev.evPure Ev.evStore Ev.evPureB Ev.evBin Ev.evBinO Ev.evNil Ev.isNilC Ev.evUn Ev.evConv Ev.evSlice Ev.optI Ev.lenV Ev.elemT Ev.foldI Ev.capsOk Ev.noTup Ev.nth Ev.setN Ev.pad Ev.V.get Ev.V.put Ev.putD Ev.hasT Ev.newBlk Ev.upd Ev.keq Ev.empty Ev.evCall Ev.V.args Ev.argP Ev.callOf Ev.evNilP Ev.isNilP Ev.look Ev.V.view.views Ev.V.view Ev.V.toD Ev.V.toD.V.toDs Ev.V.pure.pures Ev.V.pure Ev.D.flat.flats Ev.D.flat Ev.mkAgg Ev.allD Ev.aggParts Ev.setParts Ev.setElems Ev.getPath Ev.setPath Ev.subL Ev.eqD Ev.eqD.eqDs Ev.and2 Ev.strCut Ev.evalT Ev.constT Ev.evArgs Ev.mask Ev.maskOf Ev.tableOf Ev.compT Ev.resV Ev.retV Ev.mapO Ev.elemsOf Int.cast_ofNat_Int IntWalk.i64_in IntWalk.u64_in IntWalk.u8_in beq_self_eq_true Bool.true_beq Bool.false_beq Bool.and_true Bool.true_and Bool.false_and Bool.and_false Bool.and_self Bool.not_true Bool.not_false Bool.not_eq_true cond_true cond_false if_true if_false and_true true_and and_self decide_true decide_false Bool.or_true Bool.true_or Bool.or_false Bool.false_or List.isEmpty List.isEmpty_nil List.size_toArray List.map List.length_map List.length_cons List.length_nil Option.map Option.bind Option.getD Option.isSome List.replicate Bool.false_eq_true implies_true forall_const Array.toList Array.isEmpty List.append List.nil_append List.cons_append List.drop_zero List.take_length List.take_succ_cons List.take_zero List.take_nil List.getElem?_map List.getElem?_cons_zero List.getElem?_cons_succ List.getElem?_nil List.append_nil
attribute [local go_sem] FxCen.tk2 FxCen.ik2 FxCen.ek2 FxCen.zv2 FxCen.tk3 FxCen.ik3 FxCen.ek3 FxCen.zv3 FxCen.tk4 FxCen.ub4 FxCen.zv4 FxCen.by4 FxCen.so4 FxCen.tk27 FxCen.ik27 FxCen.zv27 FxCen.by27 FxCen.so27 FxCen.tk31 FxCen.zv31 FxCen.tk33 FxCen.ct33 FxCen.ek33 FxCen.zv33 FxCen.tk56 FxCen.ik56 FxCen.zv56 FxCen.tk57 FxCen.zv57 FxCen.tk61 FxCen.ik61 FxCen.ek61 FxCen.zv61 FxCen.tk63 FxCen.ct63 FxCen.ek63 FxCen.zv63 FxCen.by63 FxCen.so63 FxCen.tk72 FxCen.ct72 FxCen.zv72 FxCen.by72 FxCen.so72 FxCen.tk92 FxCen.ik92 FxCen.zv92 FxCen.tk99 FxCen.zv99 FxCen.tk100 FxCen.zv100 FxCen.tk101 FxCen.zv101 FxCen.tk135 FxCen.ik135 FxCen.zv135 FxCen.tk150 FxCen.ct150 FxCen.zv150 FxCen.tk159 FxCen.zv159 FxCen.tk190 FxCen.zv190 FxCen.mk5_1000000 FxCen.dw19_18 FxCen.nc19_18 FxCen.dw19_19 FxCen.nc19_19 FxCen.mk19_0 FxCen.mk19_1000001 FxCen.mk19_1000002 FxCen.mk19_1000003 FxCen.mk19_1000000 FxCen.dw20_19 FxCen.nc20_19 FxCen.mk20_0 FxCen.mk20_1000001 FxCen.mk20_1000002 FxCen.mk20_1000000 FxCen.mk21_1000000 FxCen.dw32_7 FxCen.nc32_7 FxCen.mk32_1 FxCen.mk32_1000001 FxCen.mk32_1000002 FxCen.mk32_1000003 FxCen.mk32_1000000 FxCen.mk35_1000000 FxCen.mk56_1000000 FxCen.dw57_5 FxCen.nc57_5 FxCen.dw57_6 FxCen.nc57_6 FxCen.mk57_0 FxCen.mk57_1000001 FxCen.mk57_1000002 FxCen.mk57_1000003 FxCen.mk57_1000000 FxCen.dw58_4 FxCen.nc58_4 FxCen.dw58_5 FxCen.nc58_5 FxCen.dw58_6 FxCen.nc58_6 FxCen.mk58_1000000 FxCen.mk59_0 FxCen.mk59_1000001 FxCen.mk59_1000002 FxCen.mk59_1000000 FxCen.dw60_5 FxCen.nc60_5 FxCen.dw60_10 FxCen.nc60_10 FxCen.mk60_0 FxCen.mk60_1000001 FxCen.mk60_1000002 FxCen.mk60_1000000 FxCen.dw61_5 FxCen.nc61_5 FxCen.dw61_8 FxCen.nc61_8 FxCen.mk61_1000000 FxCen.mk62_1000000 FxCen.mk63_1000000 FxCen.mk69_1000000 FxCen.mk79_1000001 FxCen.mk79_1000000 FxCen.mk104_1000000 FxCen.dw105_1 FxCen.nc105_1 FxCen.mk105_1000000 FxCen.dw106_3 FxCen.nc106_3 FxCen.mk106_0 FxCen.mk106_1000001 FxCen.mk106_1000002 FxCen.mk106_1000000 FxCen.mk107_1000000 FxCen.mk108_0 FxCen.mk108_1000001 FxCen.mk108_1000002 FxCen.mk108_1000000 FxCen.mk109_1000000 FxCen.dw110_6 FxCen.nc110_6 FxCen.mk110_1000000 FxCen.mk137_1000000
abbrev W2 := 18446744073709551616
noncomputable def sPlus : Ev.Spec := specC (cCons cW (cOne cW)) (fun x => (I x.1.1 ∧ U x.1.2) ∧ I x.2.1 ∧ U x.2.2) fun x => wide (x.1.1 * 18446744073709551616 + x.1.2 + (x.2.1 * 18446744073709551616 + x.2.2))
theorem sPlus_run (a b c d : Int) (h : (I a ∧ U b) ∧ I c ∧ U d) : sPlus.run [.agg 150 [.int .i64 a, .int .u64 b], .agg 150 [.int .i64 c, .int .u64 d]] = some (wide (a * 18446744073709551616 + b + (c * 18446744073709551616 + d))) := specC_run (cCons cW (cOne cW)) _ _ ((a, b), (c, d)) h
noncomputable def G1 : Specs := [(138, sAdd)]
noncomputable def T1 : Table := tableOf [(109, en109)]
theorem G1_ok : ∀ g s, Ev.look G1 g = some s → SpecOk Try.prog g s := specs_cons sAdd_ok specs_nil
theorem T1_ok : TableOk Try.prog (G1.map (·.1)) T1 := (table_cons Try.func109 (by kernel_rfl) (by kernel_rfl) table_nil)
theorem ePlus (a b c d : Int) (h : (I a ∧ U b) ∧ I c ∧ U d) : evTop Try.prog G1 T1 0 1 109 [.agg 150 [.int .i64 a, .int .u64 b], .agg 150 [.int .i64 c, .int .u64 d]] = some (wide (a * 18446744073709551616 + b + (c * 18446744073709551616 + d))) := by
  obtain ⟨⟨ha, hb⟩, hc, hd⟩ := h
  have hu1 : U (IntKind.u64.wrap a) := by unfold U; rw [wu]; omega
  have hu2 : U (IntKind.u64.wrap c) := by unfold U; rw [wu]; omega
  have r1 := sAdd_run b d 0 hb hd (by decide) (by decide)
  have hcy : 0 ≤ (b + d + 0) / 18446744073709551616 ∧ (b + d + 0) / 18446744073709551616 ≤ 1 := by unfold U at hb hd; omega
  have r2 := sAdd_run (IntKind.u64.wrap a) (IntKind.u64.wrap c) ((b + d + 0) / 18446744073709551616) hu1 hu2 hcy.1 hcy.2
  have x1 : IntKind.i64.wrap ((IntKind.u64.wrap a + IntKind.u64.wrap c + (b + d + 0) / 18446744073709551616) % 18446744073709551616) = IntKind.i64.wrap ((a * 18446744073709551616 + b + (c * 18446744073709551616 + d)) / 18446744073709551616) := by
    simp only [wi, wu]; omega
  have x2 : (b + d + 0) % 18446744073709551616 = (a * 18446744073709551616 + b + (c * 18446744073709551616 + d)) % 18446744073709551616 := by omega
  unfold evTop
  simp only [List.map]
  rw [evF_s (fn := Try.f109) (msk := en109.ms) (hT := by rfl) (hb := by rfl)]
  simp only [Try.f109, G1, go_sem, Nat.reduceAdd, Nat.reduceSub, Nat.reduceMul, Nat.reduceEqDiff, Nat.reduceBEq, Nat.reduceLT, Nat.reduceLeDiff, Nat.reducePow, Int.reduceToNat, Int.reduceLT, Int.reduceLE, Int.reduceGT, Int.reduceGE, Int.reduceEq, Int.reduceNeg, Int.reduceAdd, Int.reduceSub, ↓reduceIte, reduceCtorEq, r1, r2, x1, x2, wide]
theorem plus_ok : SpecOk Try.prog 109 sPlus := specC_ok mixed G1_ok T1_ok fun x hp => ⟨0, 1, ePlus x.1.1 x.1.2 x.2.1 x.2.2 hp⟩
#print axioms plus_ok
/-! ### Mod by 1 -/
noncomputable def cW1 : CodL (Int × Int) := ⟨fun x => [.agg 150 [.int .i64 x.1, .int .u64 x.2], .int .i64 1], fun x y h => by
  obtain ⟨a, b⟩ := x; obtain ⟨a', b'⟩ := y
  simp only [List.cons.injEq, D.agg.injEq, D.int.injEq, true_and, and_true] at h
  simp [h]⟩
noncomputable def sMod1 : Ev.Spec := specC cW1 (fun x => I x.1 ∧ U x.2) fun _ => [.int .i64 0]
theorem sMod1_run (a b : Int) (ha : I a) (hb : U b) : sMod1.run [.agg 150 [.int .i64 a, .int .u64 b], .int .i64 1] = some [.int .i64 0] := specC_run cW1 _ _ (a, b) ⟨ha, hb⟩
noncomputable def G2 : Specs := [((135), sNeg), (136, sDiv)]
noncomputable def T2 : Table := tableOf [(110, en110)]
theorem G2_ok : ∀ g s, Ev.look G2 g = some s → SpecOk Try.prog g s := specs_cons sNeg_ok (specs_cons sDiv_ok specs_nil)
theorem T2_ok : TableOk Try.prog (G2.map (·.1)) T2 := (table_cons Try.func110 (by kernel_rfl) (by kernel_rfl) table_nil)
theorem eMod1 (a b : Int) (ha : I a) (hb : U b) : evTop Try.prog G2 T2 0 1 110 [.agg 150 [.int .i64 a, .int .u64 b], .int .i64 1] = some [.int .i64 0] := by
  have rn := sNeg_run a b ha hb
  unfold wide at rn
  have hv : U (-(a * 18446744073709551616 + b) % 18446744073709551616) := by unfold U; omega
  generalize hX : IntKind.i64.wrap (-(a * 18446744073709551616 + b) / 18446744073709551616) = X at *
  generalize hY : -(a * 18446744073709551616 + b) % 18446744073709551616 = Y at *
  have u0 : U 0 := ⟨by decide, by decide⟩
  have u1 : U 1 := ⟨by decide, by decide⟩
  have r1 := sDiv_run 0 b 1 u0 hb u1 (by decide)
  have r2 := sDiv_run 0 Y 1 u0 hv u1 (by decide)
  rw [Int.emod_one] at r1 r2
  have w1 : IntKind.u64.wrap 1 = 1 := by decide
  have w0 : IntKind.i64.wrap 0 = 0 := by decide
  have h1 : ¬ (1 : Int) = 0 := by decide
  have t1 : ∀ z : Int, z.tmod 1 = 0 := fun z => Int.tmod_one z
  unfold evTop
  simp only [List.map]
  rw [evF_s (fn := Try.f110) (msk := en110.ms) (hT := by rfl) (hb := by rfl)]
  by_cases hn : a < 0
  · simp only [Try.f110, G2, go_sem, Nat.reduceAdd, Nat.reduceSub, Nat.reduceMul, Nat.reduceEqDiff, Nat.reduceBEq, Nat.reduceLT, Nat.reduceLeDiff, Nat.reducePow, Int.reduceToNat, Int.reduceLT, Int.reduceLE, Int.reduceGT, Int.reduceGE, Int.reduceEq, Int.reduceNeg, Int.reduceAdd, Int.reduceSub, ↓reduceIte, reduceCtorEq, hn, rn, w1, h1, t1, r2, w0]
  · simp only [Try.f110, G2, go_sem, Nat.reduceAdd, Nat.reduceSub, Nat.reduceMul, Nat.reduceEqDiff, Nat.reduceBEq, Nat.reduceLT, Nat.reduceLeDiff, Nat.reducePow, Int.reduceToNat, Int.reduceLT, Int.reduceLE, Int.reduceGT, Int.reduceGE, Int.reduceEq, Int.reduceNeg, Int.reduceAdd, Int.reduceSub, ↓reduceIte, reduceCtorEq, hn, w1, h1, t1, r1, w0]
theorem mod1_ok : SpecOk Try.prog 110 sMod1 := specC_ok mixed G2_ok T2_ok fun x hp => ⟨0, 1, eMod1 x.1 x.2 hp.1 hp.2⟩
#print axioms mod1_ok
/-! ### Add of a whole number -/
def addR (x : Int × Int) (m : Int) : (Int × Int) × Int := if Lim (x.1 + m * x.2) then ((x.1 + m * x.2, x.2), 0) else ((0, 0), 2)
noncomputable def cAdd : CodL ((Int × Int) × Int) := ⟨fun x => [.agg 33 [.int .i64 x.1.1, .int .i64 x.1.2], .agg 33 [.int .i64 x.2, .int .i64 1]], fun x y h => by
  obtain ⟨⟨a, b⟩, c⟩ := x; obtain ⟨⟨a', b'⟩, c'⟩ := y
  simp only [List.cons.injEq, D.agg.injEq, D.int.injEq, true_and, and_true] at h
  simp [h]⟩
noncomputable def sAddF : Ev.Spec := specC cAdd (fun x => okF x.1 ∧ Lim x.2) fun x => [fD (addR x.1 x.2).1, .int .i64 (addR x.1 x.2).2]
theorem sAddF_run (p q m : Int) (h : okF (p, q)) (hm : Lim m) : sAddF.run [.agg 33 [.int .i64 p, .int .i64 q], .agg 33 [.int .i64 m, .int .i64 1]] = some [fD (addR (p, q) m).1, .int .i64 (addR (p, q) m).2] := specC_run cAdd _ _ ((p, q), m) ⟨h, hm⟩
noncomputable def G3 : Specs := [(105, sBoth), (106, sGcd), (99, sProd), (109, sPlus), (110, sMod1), (100, sWdiv), (107, sMulO), (108, sMade)]
noncomputable def T3 : Table := tableOf [(61, en61)]
theorem G3_ok : ∀ g s, Ev.look G3 g = some s → SpecOk Try.prog g s := specs_cons both_ok (specs_cons gcd_ok (specs_cons sProd_ok (specs_cons plus_ok (specs_cons mod1_ok (specs_cons Go.Proofs.YtmhjmjodchbhlaaR.Num3Pull.sWdiv_ok (specs_cons mulO_ok (specs_cons made_ok specs_nil)))))))
theorem T3_ok : TableOk Try.prog (G3.map (·.1)) T3 := (table_cons Try.func61 (by kernel_rfl) (by kernel_rfl) table_nil)
theorem wide_val {n : Int} (h0 : -170141183460469231731687303715884105728 ≤ n) (h1 : n < 170141183460469231731687303715884105728) : I (IntKind.i64.wrap (n / 18446744073709551616)) ∧ U (n % 18446744073709551616) ∧ IntKind.i64.wrap (n / 18446744073709551616) * 18446744073709551616 + n % 18446744073709551616 = n := by
  have w : IntKind.i64.wrap (n / 18446744073709551616) = n / 18446744073709551616 := wi_in (by omega) (by omega)
  rw [w]
  refine ⟨by unfold I; omega, by unfold U; omega, by omega⟩
theorem eAddF (p q m : Int) (h : okF (p, q)) (hm : Lim m) : evTop Try.prog G3 T3 0 1 61 [.agg 33 [.int .i64 p, .int .i64 q], .agg 33 [.int .i64 m, .int .i64 1]] = some [fD (addR (p, q) m).1, .int .i64 (addR (p, q) m).2] := by
  have rb := sBoth_run p q m 1 h (okF_one hm)
  obtain ⟨⟨h1, h2⟩, ⟨h3, h4⟩, h5⟩ := h
  simp only at h1 h2 h3 h4 h5
  obtain ⟨m0, m1⟩ := hm
  have l1 : Lim 1 := ⟨by decide, by decide⟩
  have g1 := sGcd_run q 1 ⟨by omega, h4⟩ l1
  rw [gI_one] at g1
  have g2 := sGcd_run 0 1 ⟨by decide, by decide⟩ l1
  rw [gI_one] at g2
  have t1 : (1 : Int).tdiv 1 = 1 := by decide
  have t2 : q.tdiv 1 = q := Int.tdiv_one q
  have w1 : IntKind.i64.wrap 1 = 1 := by decide
  have w2 : IntKind.i64.wrap q = q := wi_in (by omega) (by omega)
  have n1 : ¬ (1 : Int) = 0 := by decide
  have iq : I q := by unfold I; omega
  have i1 : I 1 := ⟨by decide, by decide⟩
  have p1 := sProd_run p 1 (by unfold I; omega) i1
  have p2 := sProd_run m q (by unfold I; omega) iq
  rw [Int.mul_one] at p1
  have hb : -1329227995784915872903807060280344576 ≤ m * q ∧ m * q ≤ 1329227995784915872903807060280344576 := by
    have a1 : m * q ≤ 1152921504606846976 * q := Int.mul_le_mul_of_nonneg_right m1 (by omega)
    have a2 : -1152921504606846976 * q ≤ m * q := Int.mul_le_mul_of_nonneg_right m0 (by omega)
    omega
  obtain ⟨v1, v2, v3⟩ := wide_val (n := p) (by omega) (by omega)
  obtain ⟨v4, v5, v6⟩ := wide_val (n := m * q) (by omega) (by omega)
  have ps := sPlus_run _ _ _ _ ⟨⟨v1, v2⟩, v4, v5⟩
  rw [v3, v6] at ps
  obtain ⟨v7, v8, v9⟩ := wide_val (n := p + m * q) (by omega) (by omega)
  have pm := sMod1_run _ _ v7 v8
  have pd := sWdiv_run _ _ 1 v7 v8 i1
  rw [v9] at pd
  have q1 := sMulO_run q 1 iq i1
  have e1 : mulR (q * 1) = (q, true) := by rw [Int.mul_one]; unfold mulR; rw [if_pos (by unfold fits; omega)]
  rw [e1] at q1
  unfold addR
  simp only
  generalize p + m * q = n at *
  have hq : quoR n 1 = if fits n then (n, 0) else (0, 2) := by
    unfold quoR
    rw [if_neg (by decide), Int.ediv_one]
    rfl
  rw [hq] at pd
  have rm := sMade_run (if fits n then (n, (0 : Int)) else (0, 2)).1 q (decide ((if fits n then (n, (0 : Int)) else (0, 2)).2 = 0)) true h4
  have em : madeR (if fits n then (n, (0 : Int)) else (0, 2)).1 q (decide ((if fits n then (n, (0 : Int)) else (0, 2)).2 = 0) && true) = if Lim n then ((n, q), 0) else ((0, 0), 2) := by
    unfold madeR
    by_cases hf : fits n
    · rw [if_pos hf]; simp
    · rw [if_neg hf, if_neg (by simp), if_neg (by unfold Lim; unfold fits at hf; omega)]
  rw [em] at rm
  generalize (if fits n then (n, (0 : Int)) else (0, 2)) = M at *
  generalize (if Lim n then ((n, q), 0) else ((0, 0), 2) : (Int × Int) × Int) = F at *
  unfold wide at p1 p2 ps
  unfold two at pd
  unfold fD at rm
  unfold evTop
  simp only [List.map]
  rw [evF_s (fn := Try.f61) (msk := en61.ms) (hT := by rfl) (hb := by rfl)]
  simp only [Try.f61, G3, go_sem, Nat.reduceAdd, Nat.reduceSub, Nat.reduceMul, Nat.reduceEqDiff, Nat.reduceBEq, Nat.reduceLT, Nat.reduceLeDiff, Nat.reducePow, Int.reduceToNat, Int.reduceLT, Int.reduceLE, Int.reduceGT, Int.reduceGE, Int.reduceEq, Int.reduceNeg, Int.reduceAdd, Int.reduceSub, ↓reduceIte, reduceCtorEq, rb, g1, g2, n1, t1, t2, w1, w2, p1, p2, ps, pm, pd, q1, rm, fD]
theorem addF_ok : SpecOk Try.prog 61 sAddF := specC_ok mixed G3_ok T3_ok fun x hp => ⟨0, 1, eAddF x.1.1 x.1.2 x.2 hp.1 hp.2⟩
#print axioms addF_ok
end Go.Proofs.YtmhjmjodchbhlaaR.Frac3Cen
end
section
set_option linter.unusedVariables false
set_option linter.unusedSimpArgs false
namespace Go.Proofs.YtmhjmjodchbhlaaR.MeanCen
open Go.Ev Go.Proofs.YtmhjmjodchbhlaaR.Frac1Cen Go.Proofs.YtmhjmjodchbhlaaR.Frac2Cen Go.Proofs.YtmhjmjodchbhlaaR.Frac3Cen
theorem gI_mk {n d : Int} (hd : 1 ≤ d) : gI (n / gI n d) (d / gI n d) = 1 := by
  have h : 0 < Int.gcd n d := by have := gI_pos (n := n) hd; unfold gI at this; omega
  have := Int.gcd_ediv_gcd_ediv_gcd h
  unfold gI
  rw [this]; rfl
theorem lim_quo {n d : Int} (hd : 1 ≤ d) (hn : Lim n) : Lim (n / gI n d) := by
  have hg := gI_pos (n := n) hd
  obtain ⟨h0, h1⟩ := hn
  unfold Lim
  rcases Int.le_total 0 n with h | h
  · have := quo_le h hg; omega
  · have e : n / gI n d = -((-n) / gI n d) := by rw [Int.neg_ediv_of_dvd (gI_dl n d), Int.neg_neg]
    have := quo_le (show 0 ≤ -n by omega) hg
    omega
theorem okF_mk {n d : Int} (h : okM (n, d)) : okF (mk n d) := by
  obtain ⟨h1, h2, h3⟩ := h
  simp only at h1 h2 h3
  have hg := gI_pos (n := n) h2
  have hq := quo_le (show 0 ≤ d by omega) hg
  refine ⟨lim_quo h2 h1, ⟨?_, ?_⟩, gI_mk h2⟩
  · show 1 ≤ d / gI n d
    rcases Int.lt_or_le 0 (d / gI n d) with q | q
    · omega
    · have e := Int.ediv_mul_cancel (gI_dr n d)
      have := Int.mul_nonpos_of_nonpos_of_nonneg q (show 0 ≤ gI n d by omega)
      omega
  · show d / gI n d ≤ _
    omega
/-- What is left of a fraction behind the product with 128 is in lowest terms. -/
theorem okF_128 {p q : Int} (h : okF (p, q)) (hl : Lim (p * (128 / gI 128 q))) : okF (p * (128 / gI 128 q), q / gI 128 q) := by
  obtain ⟨h1, ⟨h2, h3⟩, h4⟩ := h
  simp only at h1 h2 h3 h4
  have hg : 1 ≤ gI 128 q := gI_pos h2
  have hq := quo_le (show 0 ≤ q by omega) hg
  refine ⟨hl, ⟨?_, by show q / gI 128 q ≤ _; omega⟩, ?_⟩
  · show 1 ≤ q / gI 128 q
    rcases Int.lt_or_le 0 (q / gI 128 q) with k | k
    · omega
    · have e := Int.ediv_mul_cancel (gI_dr 128 q)
      have := Int.mul_nonpos_of_nonpos_of_nonneg k (show 0 ≤ gI 128 q by omega)
      omega
  · show gI (p * (128 / gI 128 q)) (q / gI 128 q) = 1
    have hpos : 0 < Nat.gcd 128 q.natAbs := Nat.gcd_pos_of_pos_left _ (by decide)
    have c1 : Nat.Coprime p.natAbs q.natAbs := by
      have : Int.gcd p q = 1 := by unfold gI at h4; omega
      exact this
    have c2 : Nat.Coprime (128 / Nat.gcd 128 q.natAbs) (q.natAbs / Nat.gcd 128 q.natAbs) := Nat.coprime_div_gcd_div_gcd hpos
    have c3 : Nat.Coprime p.natAbs (q.natAbs / Nat.gcd 128 q.natAbs) := c1.coprime_div_right (Nat.gcd_dvd_right _ _)
    have c4 := Nat.Coprime.mul_left c3 c2
    have eg : gI 128 q = ((Nat.gcd 128 q.natAbs : Nat) : Int) := rfl
    have e1 : (p * (128 / gI 128 q)).natAbs = p.natAbs * (128 / Nat.gcd 128 q.natAbs) := by
      rw [Int.natAbs_mul, eg]; rfl
    have e2 : (q / gI 128 q).natAbs = q.natAbs / Nat.gcd 128 q.natAbs := by
      have : q = ((q.natAbs : Nat) : Int) := by omega
      rw [eg]
      conv => lhs; rw [this]
      rfl
    show ((Nat.gcd (p * (128 / gI 128 q)).natAbs (q / gI 128 q).natAbs : Nat) : Int) = 1
    rw [e1, e2]
    have : Nat.gcd (p.natAbs * (128 / Nat.gcd 128 q.natAbs)) (q.natAbs / Nat.gcd 128 q.natAbs) = 1 := c4
    rw [this]; rfl
theorem gI_emod (n d : Int) : gI (n % d) d = gI n d := by
  unfold gI
  have e := Int.mul_ediv_add_emod n d
  conv => rhs; rw [← e]
  rw [Int.add_comm, Int.gcd_add_mul_left_left]
/-- The centre, as the document gathers it. -/
def meanR (n d : Int) : (Int × Int) × Int := addR (mul128 (mk (n % d) d)).1 (128 * (n / d))
theorem mul_small {n d : Int} (hd : 1 ≤ d) (hd2 : d ≤ 281474976710656) : (mul128 (mk (n % d) d)).2 = 0 ∧ Lim ((mk (n % d) d).1 * (128 / gI 128 (mk (n % d) d).2)) := by
  have m0 := Int.emod_nonneg n (show d ≠ 0 by omega)
  have m1 := Int.emod_lt_of_pos n (show 0 < d by omega)
  have hg := gI_pos (n := n % d) hd
  have hp := quo_le m0 hg
  have ho := okF_mk (n := n % d) (d := d) ⟨by unfold Lim; omega, hd, by simp only; omega⟩
  have h2 := ho.2.1.1
  have hk : 0 ≤ 128 / gI 128 (mk (n % d) d).2 ∧ 128 / gI 128 (mk (n % d) d).2 ≤ 128 := quo_le (by decide) (gI_pos h2)
  have hl : Lim ((mk (n % d) d).1 * (128 / gI 128 (mk (n % d) d).2)) := by
    have e1 : (mk (n % d) d).1 = n % d / gI (n % d) d := rfl
    have a0 := Int.mul_nonneg (show 0 ≤ (mk (n % d) d).1 by rw [e1]; omega) hk.1
    have a1 : (mk (n % d) d).1 * (128 / gI 128 (mk (n % d) d).2) ≤ 281474976710656 * 128 := Int.mul_le_mul (by rw [e1]; omega) hk.2 hk.1 (by decide)
    unfold Lim; omega
  refine ⟨?_, hl⟩
  unfold mul128
  rw [if_pos hl]
theorem mean_eq {n d : Int} (hd : 1 ≤ d) (hd2 : d ≤ 281474976710656) : meanR n d = mul128 (mk n d) := by
  obtain ⟨_, hl⟩ := mul_small (n := n) hd hd2
  have hg := gI_pos (n := n) hd
  have eg : gI (n % d) d = gI n d := gI_emod n d
  have hdq : d / gI n d * gI n d = d := Int.ediv_mul_cancel (gI_dr n d)
  -- the parts of the fraction
  have e := Int.mul_ediv_add_emod n d
  have ep : n / gI n d = d / gI n d * (n / d) + n % d / gI n d := by
    have h3 : ∀ g : Int, g ≠ 0 → d / g * g = d → n / g = d / g * (n / d) + n % d / g := by
      intro g hg0 hgd
      have e2 : n = n % d + g * (d / g * (n / d)) := by
        rw [← Int.mul_assoc, Int.mul_comm g, hgd]; omega
      conv => lhs; rw [e2]
      rw [Int.add_mul_ediv_left _ _ hg0, Int.add_comm]
    exact h3 _ (by omega) hdq
  unfold meanR
  have e1 : mk (n % d) d = (n % d / gI n d, d / gI n d) := by unfold mk; rw [eg]
  have e2 : mk n d = (n / gI n d, d / gI n d) := rfl
  rw [e1] at hl ⊢
  rw [e2, ep]
  generalize d / gI n d = q at *
  generalize n % d / gI n d = p at *
  generalize n / d = W at *
  unfold mul128
  simp only at hl ⊢
  rw [if_pos hl]
  unfold addR
  simp only
  have hqd : gI 128 q * (128 / gI 128 q) = 128 := Int.mul_ediv_cancel' (gI_dl 128 q)
  have hqq : gI 128 q * (q / gI 128 q) = q := Int.mul_ediv_cancel' (gI_dr 128 q)
  generalize hk : 128 / gI 128 q = k at *
  generalize hs : q / gI 128 q = s at *
  have key : p * k + 128 * W * s = (q * W + p) * k := by
    rw [← hqd]
    conv => rhs; rw [← hqq]
    generalize gI 128 q = h
    rw [Int.add_mul]
    have : h * k * W * s = h * s * W * k := by
      rw [Int.mul_assoc, Int.mul_assoc, Int.mul_assoc, Int.mul_assoc]
      congr 1
      rw [Int.mul_comm W s, ← Int.mul_assoc, Int.mul_comm k s, Int.mul_assoc, Int.mul_comm k W]
    rw [this, Int.add_comm]
  rw [key]
end Go.Proofs.YtmhjmjodchbhlaaR.MeanCen
end
section
set_option linter.unusedVariables false
set_option linter.unusedSimpArgs false
set_option maxRecDepth 100000
namespace Go.Proofs.YtmhjmjodchbhlaaR.Cen1Cen
open Go.Ev Go.Ari Go.Proofs.YtmhjmjodchbhlaaR.FxCen Go.Proofs.YtmhjmjodchbhlaaR.Frac1Cen Go.Proofs.YtmhjmjodchbhlaaR.Frac2Cen Go.Proofs.YtmhjmjodchbhlaaR.Frac3Cen Go.Proofs.YtmhjmjodchbhlaaR.MeanCen
attribute [local go_sem] Ev.putR_s Ev.putR_0 Ev.thenO_s Ev.thenO_0 Ev.seqR_n Ev.seqR_e Ev.seqR_r Ev.seqR_0 Ev.blkR_e Ev.blkR_n Ev.blkR_r Ev.blkR_0 Ev.normR_s Ev.normR_0 Ev.outR_r Ev.outR_n Ev.outR_0 Ev.retS_s Ev.retS_0 Ev.pureO_s Ev.pureO_0 Ev.topR_0 Ev.topR_t Ev.topR_t0 Ev.oneL_0 Ev.oneL_s Ev.topR_d Ev.topR_nils Ev.topR_agg Ev.topR_rs Ev.evOp_move Ev.evOp_assign Ev.evOp_pick Ev.evOp_alloc Ev.evOp_box Ev.evOp_build Ev.evOp_buildSlice Ev.evOp_load Ev.evOp_store Ev.evOp_makeMap Ev.evOp_lookup Ev.evOp_mapUpdate Ev.evOp_insert Ev.evOp_nilCheck Ev.evOp_binOp Ev.evOp_unOp Ev.evOp_convert Ev.evOp_makeFunc Ev.evOp_makeSlice Ev.evOp_slice Ev.evOp_fieldAddr Ev.evOp_field Ev.evOp_indexAddr Ev.evOp_index Ev.evOp_extract Ev.evOp_call Ev.evOp_append Ev.evOp_len Ev.evOp_min Ev.evOp_max Ev.condR_b Ev.condR_t Ev.evOps_nil Ev.evOps_plain Ev.evOps_guard Ev.runG_eq Ev.skipG_eq Ev.condL_tt Ev.condL_ff Ev.condL_tf Ev.condL_ft Ev.condL_u Ev.condC_t Ev.condC_f Ev.evC_skip Ev.evC_ret Ev.evC_exit Ev.evC_label Ev.evC_region Ev.evC_draw Ev.evC_seq Ev.evC_cond Ev.evC_block Ev.evC_loop Ev.fin_d Ev.fin_nils Ev.fin_agg_ Ev.fin_rs Ev.finS_s Ev.mapO_fin Ev.upd_upd Ev.argv_d Ev.argv_nils Ev.argv_agg Ev.argv_rs Ev.argv_p Ev.appendTo_nils Ev.appendTo_rs Ev.consV_d Ev.consV_agg Ev.consV_p Ev.consV_rs Ev.consV_nils Ev.consV_fn Ev.consV_und Ev.consV_jk Ev.consV_grown Ev.topR_grown Ev.len_grown Ev.consV_mp Ev.sameK_i Ev.sameK_s Ev.mget_0 Ev.mget_hit Ev.mget_miss Ev.mput_0 Ev.mput_hit Ev.mput_miss Ev.apartAll Ev.apartL Ev.apartV Ev.freeAll Ev.sel Ev.keyOfV Ev.evLookup Ev.evPut Ev.hintOk Ev.keyOk Ev.consP Ev.lookV Ev.guardV Ev.dstAt Ev.evPure Ev.evStore Ev.evPureB Ev.evBin Ev.evBinO Ev.evNil Ev.isNilC Ev.evUn Ev.evConv Ev.evSlice Ev.optI Ev.lenV Ev.elemT Ev.foldI Ev.capsOk Ev.noTup Ev.nth Ev.setN Ev.pad Ev.V.get Ev.V.put Ev.putD Ev.hasT Ev.newBlk Ev.upd Ev.keq Ev.empty Ev.evCall Ev.V.args Ev.argP Ev.callOf Ev.evNilP Ev.isNilP Ev.look Ev.V.view.views Ev.V.view Ev.V.toD Ev.V.toD.V.toDs Ev.V.pure.pures Ev.V.pure Ev.D.flat.flats Ev.D.flat Ev.mkAgg Ev.allD Ev.aggParts Ev.setParts Ev.setElems Ev.getPath Ev.setPath Ev.subL Ev.eqD Ev.eqD.eqDs Ev.and2 Ev.strCut Ev.evalT Ev.constT Ev.evArgs Ev.mask Ev.maskOf Ev.tableOf Ev.compT Ev.resV Ev.retV Ev.mapO Ev.elemsOf Int.cast_ofNat_Int IntWalk.i64_in IntWalk.u64_in IntWalk.u8_in beq_self_eq_true Bool.true_beq Bool.false_beq Bool.and_true Bool.true_and Bool.false_and Bool.and_false Bool.and_self Bool.not_true Bool.not_false Bool.not_eq_true cond_true cond_false if_true if_false and_true true_and and_self decide_true decide_false Bool.or_true Bool.true_or Bool.or_false Bool.false_or List.isEmpty List.isEmpty_nil List.size_toArray List.map List.length_map List.length_cons List.length_nil Option.map Option.bind Option.getD Option.isSome List.replicate Bool.false_eq_true implies_true forall_const Array.toList Array.isEmpty List.append List.nil_append List.cons_append List.drop_zero List.take_length List.take_succ_cons List.take_zero List.take_nil List.getElem?_map List.getElem?_cons_zero List.getElem?_cons_succ List.getElem?_nil List.append_nil
attribute [local go_sem] FxCen.tk2 FxCen.ik2 FxCen.ek2 FxCen.zv2 FxCen.tk3 FxCen.ik3 FxCen.ek3 FxCen.zv3 FxCen.tk4 FxCen.ub4 FxCen.zv4 FxCen.by4 FxCen.so4 FxCen.tk27 FxCen.ik27 FxCen.zv27 FxCen.by27 FxCen.so27 FxCen.tk31 FxCen.zv31 FxCen.tk33 FxCen.ct33 FxCen.ek33 FxCen.zv33 FxCen.tk56 FxCen.ik56 FxCen.zv56 FxCen.tk57 FxCen.zv57 FxCen.tk61 FxCen.ik61 FxCen.ek61 FxCen.zv61 FxCen.tk63 FxCen.ct63 FxCen.ek63 FxCen.zv63 FxCen.by63 FxCen.so63 FxCen.tk72 FxCen.ct72 FxCen.zv72 FxCen.by72 FxCen.so72 FxCen.tk92 FxCen.ik92 FxCen.zv92 FxCen.tk99 FxCen.zv99 FxCen.tk100 FxCen.zv100 FxCen.tk101 FxCen.zv101 FxCen.tk135 FxCen.ik135 FxCen.zv135 FxCen.tk150 FxCen.ct150 FxCen.zv150 FxCen.tk159 FxCen.zv159 FxCen.tk190 FxCen.zv190 FxCen.mk5_1000000 FxCen.dw19_18 FxCen.nc19_18 FxCen.dw19_19 FxCen.nc19_19 FxCen.mk19_0 FxCen.mk19_1000001 FxCen.mk19_1000002 FxCen.mk19_1000003 FxCen.mk19_1000000 FxCen.dw20_19 FxCen.nc20_19 FxCen.mk20_0 FxCen.mk20_1000001 FxCen.mk20_1000002 FxCen.mk20_1000000 FxCen.mk21_1000000 FxCen.dw32_7 FxCen.nc32_7 FxCen.mk32_1 FxCen.mk32_1000001 FxCen.mk32_1000002 FxCen.mk32_1000003 FxCen.mk32_1000000 FxCen.mk35_1000000 FxCen.mk56_1000000 FxCen.dw57_5 FxCen.nc57_5 FxCen.dw57_6 FxCen.nc57_6 FxCen.mk57_0 FxCen.mk57_1000001 FxCen.mk57_1000002 FxCen.mk57_1000003 FxCen.mk57_1000000 FxCen.dw58_4 FxCen.nc58_4 FxCen.dw58_5 FxCen.nc58_5 FxCen.dw58_6 FxCen.nc58_6 FxCen.mk58_1000000 FxCen.mk59_0 FxCen.mk59_1000001 FxCen.mk59_1000002 FxCen.mk59_1000000 FxCen.dw60_5 FxCen.nc60_5 FxCen.dw60_10 FxCen.nc60_10 FxCen.mk60_0 FxCen.mk60_1000001 FxCen.mk60_1000002 FxCen.mk60_1000000 FxCen.dw61_5 FxCen.nc61_5 FxCen.dw61_8 FxCen.nc61_8 FxCen.mk61_1000000 FxCen.mk62_1000000 FxCen.mk63_1000000 FxCen.mk69_1000000 FxCen.mk79_1000001 FxCen.mk79_1000000 FxCen.mk104_1000000 FxCen.dw105_1 FxCen.nc105_1 FxCen.mk105_1000000 FxCen.dw106_3 FxCen.nc106_3 FxCen.mk106_0 FxCen.mk106_1000001 FxCen.mk106_1000002 FxCen.mk106_1000000 FxCen.mk107_1000000 FxCen.mk108_0 FxCen.mk108_1000001 FxCen.mk108_1000002 FxCen.mk108_1000000 FxCen.mk109_1000000 FxCen.dw110_6 FxCen.nc110_6 FxCen.mk110_1000000 FxCen.mk137_1000000
/-! ### plain -/
abbrev Spot := Int × Int × Int
def spD (s : Spot) : D := .agg 72 [.int .i64 s.1, .int .i64 s.2.1, .int .i64 s.2.2]
def cSpot : Cod Spot := cA 72 (cCons (cI .i64) (cCons (cI .i64) (cOne (cI .i64))))
def bad (s : Spot) : Prop := maxI s.1 s.2.1 > 300 ∨ minI s.1 s.2.1 < -300 ∨ s.2.2 < 0
instance (s : Spot) : Decidable (bad s) := by unfold bad; infer_instance
def errS (a : Int) : List Spot → Int
  | [] => 0
  | s :: r => if bad s then 4 else if s.2.2 > 281474976710656 - a then 2 else errS (a + s.2.2) r
def sumS (g : Spot → Int) : List Spot → Int
  | [] => 0
  | s :: r => g s + sumS g r
theorem sumS_append (g : Spot → Int) (a b : List Spot) : sumS g (a ++ b) = sumS g a + sumS g b := by
  induction a with
  | nil => simp [sumS]
  | cons s r ih => simp only [List.cons_append, sumS, ih]; omega
theorem sumS_take {g : Spot → Int} {l : List Spot} {i : Nat} (h : i < l.length) : sumS g (l.take (i + 1)) = sumS g (l.take i) + g l[i] := by
  have : l.take (i + 1) = l.take i ++ [l[i]] := by rw [List.take_add_one]; simp [h]
  rw [this, sumS_append]; simp [sumS]
def gA (s : Spot) : Int := s.2.2
def gX (s : Spot) : Int := s.2.2 * (2 * s.1 + 1)
def gY (s : Spot) : Int := s.2.2 * (2 * s.2.1 + 1)
theorem not_bad {s : Spot} (h : ¬ bad s) : -300 ≤ s.1 ∧ s.1 ≤ 300 ∧ -300 ≤ s.2.1 ∧ s.2.1 ≤ 300 ∧ 0 ≤ s.2.2 := by
  unfold bad maxI minI at h
  split at h <;> split at h <;> omega
theorem wgt {q c : Int} (hq : 0 ≤ q) (h0 : -300 ≤ c) (h1 : c ≤ 300) : -601 * q ≤ q * (2 * c + 1) ∧ q * (2 * c + 1) ≤ 601 * q := by
  have a := Int.mul_le_mul_of_nonneg_left (show 2 * c + 1 ≤ 601 by omega) hq
  have b := Int.mul_le_mul_of_nonneg_left (show -601 ≤ 2 * c + 1 by omega) hq
  constructor
  · rw [Int.mul_comm]; exact b
  · rw [Int.mul_comm 601]; exact a
/-- The bounds of the sums. -/
def Bnd (a x y : Int) : Prop := (0 ≤ a ∧ a ≤ 281474976710656) ∧ (-601 * a ≤ x ∧ x ≤ 601 * a) ∧ -601 * a ≤ y ∧ y ≤ 601 * a
/-- What both functions answer. -/
def cenR (l : List Spot) : (Int × Int) × (Int × Int) × Int :=
  if errS 0 l = 0 then (if sumS gA l = 0 then ((0, 0), (0, 0), 8)
    else if (mul128 (mk (sumS gX l) (sumS gA l))).2 = 0 ∧ (mul128 (mk (sumS gY l) (sumS gA l))).2 = 0 then ((mul128 (mk (sumS gX l) (sumS gA l))).1, (mul128 (mk (sumS gY l) (sumS gA l))).1, 0) else ((0, 0), (0, 0), 2))
  else ((0, 0), (0, 0), errS 0 l)
theorem mul128_2 (x : Int × Int) : (mul128 x).2 = 0 ∨ (mul128 x).2 = 2 := by
  unfold mul128
  split
  · exact .inl rfl
  · exact .inr rfl
/-! ### half -/
noncomputable def G : Specs := [(57, sMake), (58, sMul128), (59, sOr)]
noncomputable def T : Table := tableOf [(19, en19), (56, en56)]
theorem G_ok : ∀ g s, Ev.look G g = some s → SpecOk Try.prog g s := specs_cons make_ok (specs_cons mul128_ok (specs_cons or_ok specs_nil))
theorem T_ok : TableOk Try.prog (G.map (·.1)) T := (table_cons Try.func19 (by kernel_rfl) (by kernel_rfl) (table_cons Try.func56 (by kernel_rfl) (by kernel_rfl) table_nil))
def bF (v : Int × Int) : Blk := ⟨1, 33, [.d (fD v)], true⟩
def bE (e : Int) : Blk := ⟨1, 27, [.d (.int .i64 e)], true⟩
def bI (a : Int) : Blk := ⟨1, 2, [.d (.int .i64 a)], true⟩
def Ans (st : Store) (v : Int × Int) (e : Int) (z : Option (V × Store)) : Prop := ∃ st', z = some (.d (fD v), st') ∧ st' (0, 4) = bE e ∧ ∀ d, d ≠ 4 → st' (0, d) = st (0, d)
theorem eHalf (L lv : Nat) (hl : lv = 78 ∨ lv = 81) (st : Store) (n all e : Int) (h5 : st (0, 5) = bI all) (h4 : st (0, 4) = bE e) (hok : okM (n, all)) :
    Ans st (mul128 (mk n all)).1 (orR [e, 0, (mul128 (mk n all)).2]) (evF Try.prog G T L 1 56 [.d (.int .i64 n), .p (0, 5) 1 0 [], .p (0, 4) 1 0 []] lv st) := by
  have r1 := sMake_run n all hok
  have r2 := sMul128_run (mk n all).1 (mk n all).2 (okF_mk hok)
  have r3 := sOr_run3 e 0 (mul128 (mk n all)).2
  have em : ((mk n all).1, (mk n all).2) = mk n all := rfl
  rw [em] at r2
  generalize mul128 (mk n all) = M at *
  generalize mk n all = m at *
  generalize orR [e, 0, M.2] = E at *
  unfold fD at r1 r2
  rcases hl with rfl | rfl
  all_goals
    rw [evF_s (fn := Try.f56) (msk := en56.ms) (hT := by rfl) (hb := by rfl)]
    simp only [Try.f56, G, go_sem, Nat.reduceAdd, Nat.reduceSub, Nat.reduceMul, Nat.reduceEqDiff, Nat.reduceBEq, Nat.reduceLT, Nat.reduceLeDiff, Nat.reducePow, Int.reduceToNat, Int.reduceLT, Int.reduceLE, Int.reduceGT, Int.reduceGE, Int.reduceEq, Int.reduceNeg, Int.reduceAdd, Int.reduceSub, ↓reduceIte, reduceCtorEq, h5, h4, bI, bE, r1, r2, r3]
    refine ⟨_, rfl, by simp only [go_sem, Nat.reduceAdd, Nat.reduceSub, Nat.reduceMul, Nat.reduceEqDiff, Nat.reduceBEq, Nat.reduceLT, Nat.reduceLeDiff, Nat.reducePow, Int.reduceToNat, Int.reduceLT, Int.reduceLE, Int.reduceGT, Int.reduceGE, Int.reduceEq, Int.reduceNeg, Int.reduceAdd, Int.reduceSub, ↓reduceIte, reduceCtorEq, bE], fun d hd => ?_⟩
    have hd4 : (d == 4) = false := beq_eq_false_iff_ne.2 hd
    simp only [go_sem, Nat.reduceAdd, Nat.reduceSub, Nat.reduceMul, Nat.reduceEqDiff, Nat.reduceBEq, Nat.reduceLT, Nat.reduceLeDiff, Nat.reducePow, Int.reduceToNat, Int.reduceLT, Int.reduceLE, Int.reduceGT, Int.reduceGE, Int.reduceEq, Int.reduceNeg, Int.reduceAdd, Int.reduceSub, ↓reduceIte, reduceCtorEq, hd4]
/-! ### the loop -/
def p (d : Nat) : V := .p (0, d) 1 0 []
def hd (l : List Spot) (i : Nat) : List V := hd19_0 (p 2) (p 3) (p 4) (p 5) (.d (.int .i64 (sumS gX (l.take i)))) (.d (.int .i64 (sumS gY (l.take i)))) (.d (.sl 72 (l.map spD))) (.d (.int .i64 l.length)) (.d (.int .i64 i))
def Ok (st : Store) (a : Int) : Prop := st (0, 2) = bF (0, 0) ∧ st (0, 3) = bF (0, 0) ∧ st (0, 4) = bE 0 ∧ st (0, 5) = bI a
def J (l : List Spot) (x : Nat × Store) : Prop := x.1 ≤ l.length ∧ Ok x.2 (sumS gA (l.take x.1)) ∧ errS 0 l = errS (sumS gA (l.take x.1)) (l.drop x.1) ∧ Bnd (sumS gA (l.take x.1)) (sumS gX (l.take x.1)) (sumS gY (l.take x.1))
def Q (l : List Spot) (x : Nat × Store) (o : Out) : Prop := ∃ st', (o = some (.exit 0, hx19_0 (p 2) (p 3) (p 4) (p 5) (.d (.int .i64 (sumS gX l))) (.d (.int .i64 (sumS gY l))), st') ∧ Ok st' (sumS gA l) ∧ errS 0 l = 0 ∧ Bnd (sumS gA l) (sumS gX l) (sumS gY l)) ∨
  (o = some (.ret, hr19 (p 2) (p 3) (p 4), st') ∧ st' (0, 2) = bF (0, 0) ∧ st' (0, 3) = bF (0, 0) ∧ st' (0, 4) = bE (errS 0 l) ∧ ¬ errS 0 l = 0)
theorem loop (L : Nat) (call : Caller) (l : List Spot) (hl : l.length ≤ 4611686018427387904) :
    ∀ (m : Nat) (x : Nat × Store) (env : List V), J l x → l.length - x.1 < m → mask (maskOf en19.ms 0) env = hd l x.1 →
      Q l x (iter (evC Try.prog G call L en19.ms 0 0 lb19_0) (maskOf en19.ms 0) m env x.2) := by
  refine iter_rel _ _ (J l) (fun x => hd l x.1) (fun x => x.2) (Q l) (fun x => l.length - x.1) ?_
  rintro ⟨i, st⟩ ⟨hi, ⟨q2, q3, q4, q5⟩, qe, qb⟩ k hk
  simp only at hi q2 q3 q4 q5 qe qb
  by_cases hin : i < l.length
  case neg =>
    obtain rfl : i = l.length := by omega
    have hlt : ¬ (l.length : Int) < l.length := by omega
    rw [List.drop_length, List.take_length] at qe
    rw [List.take_length] at qb q5
    refine ⟨st, .inl ⟨?_, ⟨q2, q3, q4, q5⟩, qe, qb⟩⟩
    have e1 : hd l l.length = hd19_0 (p 2) (p 3) (p 4) (p 5) (.d (.int .i64 (sumS gX l))) (.d (.int .i64 (sumS gY l))) (.d (.sl 72 (l.map spD))) (.d (.int .i64 l.length)) (.d (.int .i64 l.length)) := by unfold hd; rw [List.take_length]
    simp only [lb19_0, loopN, loops, e1, p, hd19_0, hx19_0, Try.f19, go_sem, Nat.reduceAdd, Nat.reduceSub, Nat.reduceMul, Nat.reduceEqDiff, Nat.reduceBEq, Nat.reduceLT, Nat.reduceLeDiff, Nat.reducePow, Int.reduceToNat, Int.reduceLT, Int.reduceLE, Int.reduceGT, Int.reduceGE, Int.reduceEq, Int.reduceNeg, Int.reduceAdd, Int.reduceSub, ↓reduceIte, reduceCtorEq, hlt]
  have hlt : (i : Int) < l.length := by omega
  have hx : l[i]? = some l[i] := by simp [hin]
  have g0 : (0 : Int) ≤ (i : Int) := by omega
  have ht : ((i : Int)).toNat = i := by omega
  have hw1 : IntKind.i64.wrap ((i : Int) + 1) = ((i + 1 : Nat) : Int) := by rw [IntWalk.i64_in _ (by omega)]; rfl
  have hdr : l.drop i = l[i] :: l.drop (i + 1) := List.drop_eq_getElem_cons hin
  rw [hdr, errS] at qe
  have tA := sumS_take (g := gA) hin
  have tX := sumS_take (g := gX) hin
  have tY := sumS_take (g := gY) hin
  have hk' := fun st1 env h1 h2 h3 => (hk (i + 1, st1) env h1 h2 h3 : Q l (i + 1, st1) _)
  have hret : ∀ e st1, errS 0 l = e → ¬ e = 0 → st1 (0, 2) = bF (0, 0) → st1 (0, 3) = bF (0, 0) → st1 (0, 4) = bE e → Q l (i, st) (some (.ret, hr19 (p 2) (p 3) (p 4), st1)) := fun e st1 h1 h2 h3 h4 h5 => ⟨st1, .inr ⟨rfl, h3, h4, by rw [h1]; exact h5, by rw [h1]; exact h2⟩⟩
  simp only [hd] at hk'
  rw [tX, tY] at hk'
  unfold J at hk'
  simp only at hk'
  rw [tA, tX, tY] at hk'
  obtain ⟨⟨b0, b1⟩, ⟨b2, b3⟩, b4, b5⟩ := qb
  unfold hd
  generalize sumS gA (l.take i) = a at *
  generalize sumS gX (l.take i) = sx at *
  generalize sumS gY (l.take i) = sy at *
  generalize l[i] = s at *
  obtain ⟨x, y, q⟩ := s
  simp only [p] at hret
  by_cases cb : bad (x, y, q)
  · rw [if_pos cb] at qe
    have hq := fun st1 => hret 4 st1 qe (by decide)
    unfold bad at cb
    simp only at cb
    by_cases c1 : maxI x y > 300
    · simp only [lb19_0, loopN, loops, p, hd19_0, Try.f19, G, go_sem, Nat.reduceAdd, Nat.reduceSub, Nat.reduceMul, Nat.reduceEqDiff, Nat.reduceBEq, Nat.reduceLT, Nat.reduceLeDiff, Nat.reducePow, Int.reduceToNat, Int.reduceLT, Int.reduceLE, Int.reduceGT, Int.reduceGE, Int.reduceEq, Int.reduceNeg, Int.reduceAdd, Int.reduceSub, ↓reduceIte, reduceCtorEq, hlt, hx, spD, g0, ht, c1, q2, q3, q4, q5, bF, bE, bI, fD]
      exact hq _ (by simp only [go_sem, Nat.reduceAdd, Nat.reduceSub, Nat.reduceMul, Nat.reduceEqDiff, Nat.reduceBEq, Nat.reduceLT, Nat.reduceLeDiff, Nat.reducePow, Int.reduceToNat, Int.reduceLT, Int.reduceLE, Int.reduceGT, Int.reduceGE, Int.reduceEq, Int.reduceNeg, Int.reduceAdd, Int.reduceSub, ↓reduceIte, reduceCtorEq, bF, fD]) (by simp only [go_sem, Nat.reduceAdd, Nat.reduceSub, Nat.reduceMul, Nat.reduceEqDiff, Nat.reduceBEq, Nat.reduceLT, Nat.reduceLeDiff, Nat.reducePow, Int.reduceToNat, Int.reduceLT, Int.reduceLE, Int.reduceGT, Int.reduceGE, Int.reduceEq, Int.reduceNeg, Int.reduceAdd, Int.reduceSub, ↓reduceIte, reduceCtorEq, bF, fD]) (by simp only [go_sem, Nat.reduceAdd, Nat.reduceSub, Nat.reduceMul, Nat.reduceEqDiff, Nat.reduceBEq, Nat.reduceLT, Nat.reduceLeDiff, Nat.reducePow, Int.reduceToNat, Int.reduceLT, Int.reduceLE, Int.reduceGT, Int.reduceGE, Int.reduceEq, Int.reduceNeg, Int.reduceAdd, Int.reduceSub, ↓reduceIte, reduceCtorEq, bE])
    by_cases c2 : minI x y < -300
    · simp only [lb19_0, loopN, loops, p, hd19_0, Try.f19, G, go_sem, Nat.reduceAdd, Nat.reduceSub, Nat.reduceMul, Nat.reduceEqDiff, Nat.reduceBEq, Nat.reduceLT, Nat.reduceLeDiff, Nat.reducePow, Int.reduceToNat, Int.reduceLT, Int.reduceLE, Int.reduceGT, Int.reduceGE, Int.reduceEq, Int.reduceNeg, Int.reduceAdd, Int.reduceSub, ↓reduceIte, reduceCtorEq, hlt, hx, spD, g0, ht, c1, c2, q2, q3, q4, q5, bF, bE, bI, fD]
      exact hq _ (by simp only [go_sem, Nat.reduceAdd, Nat.reduceSub, Nat.reduceMul, Nat.reduceEqDiff, Nat.reduceBEq, Nat.reduceLT, Nat.reduceLeDiff, Nat.reducePow, Int.reduceToNat, Int.reduceLT, Int.reduceLE, Int.reduceGT, Int.reduceGE, Int.reduceEq, Int.reduceNeg, Int.reduceAdd, Int.reduceSub, ↓reduceIte, reduceCtorEq, bF, fD]) (by simp only [go_sem, Nat.reduceAdd, Nat.reduceSub, Nat.reduceMul, Nat.reduceEqDiff, Nat.reduceBEq, Nat.reduceLT, Nat.reduceLeDiff, Nat.reducePow, Int.reduceToNat, Int.reduceLT, Int.reduceLE, Int.reduceGT, Int.reduceGE, Int.reduceEq, Int.reduceNeg, Int.reduceAdd, Int.reduceSub, ↓reduceIte, reduceCtorEq, bF, fD]) (by simp only [go_sem, Nat.reduceAdd, Nat.reduceSub, Nat.reduceMul, Nat.reduceEqDiff, Nat.reduceBEq, Nat.reduceLT, Nat.reduceLeDiff, Nat.reducePow, Int.reduceToNat, Int.reduceLT, Int.reduceLE, Int.reduceGT, Int.reduceGE, Int.reduceEq, Int.reduceNeg, Int.reduceAdd, Int.reduceSub, ↓reduceIte, reduceCtorEq, bE])
    have c3 : q < 0 := by
      rcases cb with cb | cb | cb
      · exact absurd cb c1
      · exact absurd cb c2
      · exact cb
    simp only [lb19_0, loopN, loops, p, hd19_0, Try.f19, G, go_sem, Nat.reduceAdd, Nat.reduceSub, Nat.reduceMul, Nat.reduceEqDiff, Nat.reduceBEq, Nat.reduceLT, Nat.reduceLeDiff, Nat.reducePow, Int.reduceToNat, Int.reduceLT, Int.reduceLE, Int.reduceGT, Int.reduceGE, Int.reduceEq, Int.reduceNeg, Int.reduceAdd, Int.reduceSub, ↓reduceIte, reduceCtorEq, hlt, hx, spD, g0, ht, c1, c2, c3, q2, q3, q4, q5, bF, bE, bI, fD]
    exact hq _ (by simp only [go_sem, Nat.reduceAdd, Nat.reduceSub, Nat.reduceMul, Nat.reduceEqDiff, Nat.reduceBEq, Nat.reduceLT, Nat.reduceLeDiff, Nat.reducePow, Int.reduceToNat, Int.reduceLT, Int.reduceLE, Int.reduceGT, Int.reduceGE, Int.reduceEq, Int.reduceNeg, Int.reduceAdd, Int.reduceSub, ↓reduceIte, reduceCtorEq, bF, fD]) (by simp only [go_sem, Nat.reduceAdd, Nat.reduceSub, Nat.reduceMul, Nat.reduceEqDiff, Nat.reduceBEq, Nat.reduceLT, Nat.reduceLeDiff, Nat.reducePow, Int.reduceToNat, Int.reduceLT, Int.reduceLE, Int.reduceGT, Int.reduceGE, Int.reduceEq, Int.reduceNeg, Int.reduceAdd, Int.reduceSub, ↓reduceIte, reduceCtorEq, bF, fD]) (by simp only [go_sem, Nat.reduceAdd, Nat.reduceSub, Nat.reduceMul, Nat.reduceEqDiff, Nat.reduceBEq, Nat.reduceLT, Nat.reduceLeDiff, Nat.reducePow, Int.reduceToNat, Int.reduceLT, Int.reduceLE, Int.reduceGT, Int.reduceGE, Int.reduceEq, Int.reduceNeg, Int.reduceAdd, Int.reduceSub, ↓reduceIte, reduceCtorEq, bE])
  rw [if_neg cb] at qe
  obtain ⟨x0, x1, y0, y1, q0⟩ := not_bad cb
  simp only at x0 x1 y0 y1 q0 qe
  have c1 : ¬ maxI x y > 300 := fun h => cb (.inl h)
  have c2 : ¬ minI x y < -300 := fun h => cb (.inr (.inl h))
  have c3 : ¬ q < 0 := by omega
  have w1 : IntKind.i64.wrap (281474976710656 - a) = 281474976710656 - a := wi_in (by omega) (by omega)
  by_cases c4 : q > 281474976710656 - a
  · rw [if_pos c4] at qe
    have hq := fun st1 => hret 2 st1 qe (by decide)
    simp only [lb19_0, loopN, loops, p, hd19_0, Try.f19, G, go_sem, Nat.reduceAdd, Nat.reduceSub, Nat.reduceMul, Nat.reduceEqDiff, Nat.reduceBEq, Nat.reduceLT, Nat.reduceLeDiff, Nat.reducePow, Int.reduceToNat, Int.reduceLT, Int.reduceLE, Int.reduceGT, Int.reduceGE, Int.reduceEq, Int.reduceNeg, Int.reduceAdd, Int.reduceSub, ↓reduceIte, reduceCtorEq, hlt, hx, spD, g0, ht, c1, c2, c3, w1, c4, q2, q3, q4, q5, bF, bE, bI, fD]
    exact hq _ (by simp only [go_sem, Nat.reduceAdd, Nat.reduceSub, Nat.reduceMul, Nat.reduceEqDiff, Nat.reduceBEq, Nat.reduceLT, Nat.reduceLeDiff, Nat.reducePow, Int.reduceToNat, Int.reduceLT, Int.reduceLE, Int.reduceGT, Int.reduceGE, Int.reduceEq, Int.reduceNeg, Int.reduceAdd, Int.reduceSub, ↓reduceIte, reduceCtorEq, bF, fD]) (by simp only [go_sem, Nat.reduceAdd, Nat.reduceSub, Nat.reduceMul, Nat.reduceEqDiff, Nat.reduceBEq, Nat.reduceLT, Nat.reduceLeDiff, Nat.reducePow, Int.reduceToNat, Int.reduceLT, Int.reduceLE, Int.reduceGT, Int.reduceGE, Int.reduceEq, Int.reduceNeg, Int.reduceAdd, Int.reduceSub, ↓reduceIte, reduceCtorEq, bF, fD]) (by simp only [go_sem, Nat.reduceAdd, Nat.reduceSub, Nat.reduceMul, Nat.reduceEqDiff, Nat.reduceBEq, Nat.reduceLT, Nat.reduceLeDiff, Nat.reducePow, Int.reduceToNat, Int.reduceLT, Int.reduceLE, Int.reduceGT, Int.reduceGE, Int.reduceEq, Int.reduceNeg, Int.reduceAdd, Int.reduceSub, ↓reduceIte, reduceCtorEq, bE])
  rw [if_neg c4] at qe
  obtain ⟨u0, u1⟩ := wgt q0 x0 x1
  obtain ⟨v0, v1⟩ := wgt q0 y0 y1
  have w2 : IntKind.i64.wrap (a + q) = a + q := wi_in (by omega) (by omega)
  have w3 : IntKind.i64.wrap (2 * x) = 2 * x := wi_in (by omega) (by omega)
  have w4 : IntKind.i64.wrap (2 * x + 1) = 2 * x + 1 := wi_in (by omega) (by omega)
  have w5 : IntKind.i64.wrap (q * (2 * x + 1)) = q * (2 * x + 1) := wi_in (by omega) (by omega)
  have w6 : IntKind.i64.wrap (sx + q * (2 * x + 1)) = sx + q * (2 * x + 1) := wi_in (by omega) (by omega)
  have w7 : IntKind.i64.wrap (2 * y) = 2 * y := wi_in (by omega) (by omega)
  have w8 : IntKind.i64.wrap (2 * y + 1) = 2 * y + 1 := wi_in (by omega) (by omega)
  have w9 : IntKind.i64.wrap (q * (2 * y + 1)) = q * (2 * y + 1) := wi_in (by omega) (by omega)
  have w10 : IntKind.i64.wrap (sy + q * (2 * y + 1)) = sy + q * (2 * y + 1) := wi_in (by omega) (by omega)
  simp only [lb19_0, loopN, loops, p, hd19_0, Try.f19, G, go_sem, Nat.reduceAdd, Nat.reduceSub, Nat.reduceMul, Nat.reduceEqDiff, Nat.reduceBEq, Nat.reduceLT, Nat.reduceLeDiff, Nat.reducePow, Int.reduceToNat, Int.reduceLT, Int.reduceLE, Int.reduceGT, Int.reduceGE, Int.reduceEq, Int.reduceNeg, Int.reduceAdd, Int.reduceSub, ↓reduceIte, reduceCtorEq, hlt, hx, spD, g0, ht, c1, c2, c3, w1, c4, q2, q3, q4, q5, bF, bE, bI, fD, w2, w3, w4, w5, w6, w7, w8, w9, w10, hw1]
  have hQ : ∀ st1 o, Q l (i + 1, st1) o → Q l (i, st) o := fun st1 o h => h
  refine hQ _ _ (hk' _ _ ⟨by omega, ⟨by simp only [go_sem, Nat.reduceAdd, Nat.reduceSub, Nat.reduceMul, Nat.reduceEqDiff, Nat.reduceBEq, Nat.reduceLT, Nat.reduceLeDiff, Nat.reducePow, Int.reduceToNat, Int.reduceLT, Int.reduceLE, Int.reduceGT, Int.reduceGE, Int.reduceEq, Int.reduceNeg, Int.reduceAdd, Int.reduceSub, ↓reduceIte, reduceCtorEq, q2, bF, fD], by simp only [go_sem, Nat.reduceAdd, Nat.reduceSub, Nat.reduceMul, Nat.reduceEqDiff, Nat.reduceBEq, Nat.reduceLT, Nat.reduceLeDiff, Nat.reducePow, Int.reduceToNat, Int.reduceLT, Int.reduceLE, Int.reduceGT, Int.reduceGE, Int.reduceEq, Int.reduceNeg, Int.reduceAdd, Int.reduceSub, ↓reduceIte, reduceCtorEq, q3, bF, fD], by simp only [go_sem, Nat.reduceAdd, Nat.reduceSub, Nat.reduceMul, Nat.reduceEqDiff, Nat.reduceBEq, Nat.reduceLT, Nat.reduceLeDiff, Nat.reducePow, Int.reduceToNat, Int.reduceLT, Int.reduceLE, Int.reduceGT, Int.reduceGE, Int.reduceEq, Int.reduceNeg, Int.reduceAdd, Int.reduceSub, ↓reduceIte, reduceCtorEq, q4, bE], by simp only [go_sem, Nat.reduceAdd, Nat.reduceSub, Nat.reduceMul, Nat.reduceEqDiff, Nat.reduceBEq, Nat.reduceLT, Nat.reduceLeDiff, Nat.reducePow, Int.reduceToNat, Int.reduceLT, Int.reduceLE, Int.reduceGT, Int.reduceGE, Int.reduceEq, Int.reduceNeg, Int.reduceAdd, Int.reduceSub, ↓reduceIte, reduceCtorEq, bI, gA]⟩, qe, ?_⟩ (by omega) (by simp only [p, hd19_0, go_sem, Nat.reduceAdd, Nat.reduceSub, Nat.reduceMul, Nat.reduceEqDiff, Nat.reduceBEq, Nat.reduceLT, Nat.reduceLeDiff, Nat.reducePow, Int.reduceToNat, Int.reduceLT, Int.reduceLE, Int.reduceGT, Int.reduceGE, Int.reduceEq, Int.reduceNeg, Int.reduceAdd, Int.reduceSub, ↓reduceIte, reduceCtorEq, hw1, gX, gY, spD]))
  simp only [gA, gX, gY]
  exact ⟨⟨by omega, by omega⟩, ⟨by omega, by omega⟩, by omega, by omega⟩
theorem loop_then {R : Out → Prop} {o : Out} {P : Program} {rs : List ResultVar} {id : Nat} {k : Run} {res : Option (List D)} (hR : R o) (h : ∀ o, R o → topR (outR P rs (seqR (blkR id o) k)) = res) : topR (outR P rs (seqR (blkR id o) k)) = res := h o hR
theorem Bnd_0 : Bnd 0 0 0 := ⟨⟨by decide, by decide⟩, ⟨by decide, by decide⟩, by decide, by decide⟩
theorem eCentre (l : List Spot) (hl : l.length ≤ 4611686018427387904) : evTop Try.prog G T (l.length + 1) 2 19 [.sl 72 (l.map spD)] = some [fD (cenR l).1, fD (cenR l).2.1, .int .i64 (cenR l).2.2] := by
  unfold evTop
  simp only [List.map]
  rw [evF_s (fn := Try.f19) (msk := en19.ms) (hT := by rfl) (hb := by rfl)]
  simp only [Try.f19, G, go_sem, Nat.reduceAdd, Nat.reduceSub, Nat.reduceMul, Nat.reduceEqDiff, Nat.reduceBEq, Nat.reduceLT, Nat.reduceLeDiff, Nat.reducePow, Int.reduceToNat, Int.reduceLT, Int.reduceLE, Int.reduceGT, Int.reduceGE, Int.reduceEq, Int.reduceNeg, Int.reduceAdd, Int.reduceSub, ↓reduceIte, reduceCtorEq]
  refine loop_then (R := Q l (0, _)) (loop _ _ l hl _ (0, _) _ ⟨by simp only; omega, ⟨by simp only [go_sem, Nat.reduceAdd, Nat.reduceSub, Nat.reduceMul, Nat.reduceEqDiff, Nat.reduceBEq, Nat.reduceLT, Nat.reduceLeDiff, Nat.reducePow, Int.reduceToNat, Int.reduceLT, Int.reduceLE, Int.reduceGT, Int.reduceGE, Int.reduceEq, Int.reduceNeg, Int.reduceAdd, Int.reduceSub, ↓reduceIte, reduceCtorEq, bF, fD], by simp only [go_sem, Nat.reduceAdd, Nat.reduceSub, Nat.reduceMul, Nat.reduceEqDiff, Nat.reduceBEq, Nat.reduceLT, Nat.reduceLeDiff, Nat.reducePow, Int.reduceToNat, Int.reduceLT, Int.reduceLE, Int.reduceGT, Int.reduceGE, Int.reduceEq, Int.reduceNeg, Int.reduceAdd, Int.reduceSub, ↓reduceIte, reduceCtorEq, bF, fD], by simp only [go_sem, Nat.reduceAdd, Nat.reduceSub, Nat.reduceMul, Nat.reduceEqDiff, Nat.reduceBEq, Nat.reduceLT, Nat.reduceLeDiff, Nat.reducePow, Int.reduceToNat, Int.reduceLT, Int.reduceLE, Int.reduceGT, Int.reduceGE, Int.reduceEq, Int.reduceNeg, Int.reduceAdd, Int.reduceSub, ↓reduceIte, reduceCtorEq, bE], by simp only [go_sem, Nat.reduceAdd, Nat.reduceSub, Nat.reduceMul, Nat.reduceEqDiff, Nat.reduceBEq, Nat.reduceLT, Nat.reduceLeDiff, Nat.reducePow, Int.reduceToNat, Int.reduceLT, Int.reduceLE, Int.reduceGT, Int.reduceGE, Int.reduceEq, Int.reduceNeg, Int.reduceAdd, Int.reduceSub, ↓reduceIte, reduceCtorEq, bI]; rfl⟩, rfl, (Bnd_0 : Bnd 0 0 0)⟩ (by simp only; omega) (by simp only [hd, p, hd19_0, List.take_zero, sumS, go_sem, Nat.reduceAdd, Nat.reduceSub, Nat.reduceMul, Nat.reduceEqDiff, Nat.reduceBEq, Nat.reduceLT, Nat.reduceLeDiff, Nat.reducePow, Int.reduceToNat, Int.reduceLT, Int.reduceLE, Int.reduceGT, Int.reduceGE, Int.reduceEq, Int.reduceNeg, Int.reduceAdd, Int.reduceSub, ↓reduceIte, reduceCtorEq])) ?_
  unfold cenR
  rintro o ⟨st1, ⟨rfl, ⟨q2, q3, q4, q5⟩, he, hb⟩ | ⟨rfl, q2, q3, q4, hne⟩⟩
  case inr =>
    rw [if_neg hne]
    generalize errS 0 l = E at *
    simp only [hr19, p, go_sem, Nat.reduceAdd, Nat.reduceSub, Nat.reduceMul, Nat.reduceEqDiff, Nat.reduceBEq, Nat.reduceLT, Nat.reduceLeDiff, Nat.reducePow, Int.reduceToNat, Int.reduceLT, Int.reduceLE, Int.reduceGT, Int.reduceGE, Int.reduceEq, Int.reduceNeg, Int.reduceAdd, Int.reduceSub, ↓reduceIte, reduceCtorEq, q2, q3, q4, bF, bE, fD]
  rw [if_pos he]
  generalize sumS gA l = a at *
  generalize sumS gX l = sx at *
  generalize sumS gY l = sy at *
  obtain ⟨⟨b0, b1⟩, ⟨b2, b3⟩, b4, b5⟩ := hb
  by_cases c1 : a = 0
  · rw [if_pos c1]
    simp only [hx19_0, p, Try.f19, G, go_sem, Nat.reduceAdd, Nat.reduceSub, Nat.reduceMul, Nat.reduceEqDiff, Nat.reduceBEq, Nat.reduceLT, Nat.reduceLeDiff, Nat.reducePow, Int.reduceToNat, Int.reduceLT, Int.reduceLE, Int.reduceGT, Int.reduceGE, Int.reduceEq, Int.reduceNeg, Int.reduceAdd, Int.reduceSub, ↓reduceIte, reduceCtorEq, q2, q3, q4, q5, bF, bE, bI, fD, decide_eq_true c1]
  rw [if_neg c1]
  have okx : okM (sx, a) := ⟨by unfold Lim; simp only; omega, by simp only; omega, by simp only; omega⟩
  have oky : okM (sy, a) := ⟨by unfold Lim; simp only; omega, by simp only; omega, by simp only; omega⟩
  have h1 := fun L st h5 h4 => eHalf L 78 (.inl rfl) st sx a 0 h5 h4 okx
  have h2 := fun L st e h5 h4 => eHalf L 81 (.inr rfl) st sy a e h5 h4 oky
  have mx := mul128_2 (mk sx a)
  have my := mul128_2 (mk sy a)
  generalize mul128 (mk sx a) = X at *
  generalize mul128 (mk sy a) = Y at *
  simp only [hx19_0, p, Try.f19, go_sem, Nat.reduceAdd, Nat.reduceSub, Nat.reduceMul, Nat.reduceEqDiff, Nat.reduceBEq, Nat.reduceLT, Nat.reduceLeDiff, Nat.reducePow, Int.reduceToNat, Int.reduceLT, Int.reduceLE, Int.reduceGT, Int.reduceGE, Int.reduceEq, Int.reduceNeg, Int.reduceAdd, Int.reduceSub, ↓reduceIte, reduceCtorEq, q2, q3, q4, q5, bF, bE, bI, fD, decide_eq_false c1]
  have hg : G = [(57, sMake), (58, sMul128), (59, sOr)] := rfl
  obtain ⟨s1, e1, k1, k2⟩ := h1 (l.length + 1) _ q5 q4
  simp only [hg, fD] at e1
  rw [e1]
  simp only [go_sem, Nat.reduceAdd, Nat.reduceSub, Nat.reduceMul, Nat.reduceEqDiff, Nat.reduceBEq, Nat.reduceLT, Nat.reduceLeDiff, Nat.reducePow, Int.reduceToNat, Int.reduceLT, Int.reduceLE, Int.reduceGT, Int.reduceGE, Int.reduceEq, Int.reduceNeg, Int.reduceAdd, Int.reduceSub, ↓reduceIte, reduceCtorEq]
  obtain ⟨s2, e2, j1, j2⟩ := h2 (l.length + 1) s1 _ (by rw [k2 5 (by decide)]; exact q5) k1
  simp only [hg, fD] at e2
  rw [e2]
  have f2 : s2 (0, 2) = bF (0, 0) := by rw [j2 2 (by decide), k2 2 (by decide)]; exact q2
  have f3 : s2 (0, 3) = bF (0, 0) := by rw [j2 3 (by decide), k2 3 (by decide)]; exact q3
  have hE : orR [orR [0, 0, X.2], 0, Y.2] = if X.2 = 0 ∧ Y.2 = 0 then 0 else 2 := by
    rcases mx with h | h <;> rcases my with h' | h' <;> rw [h, h'] <;> decide
  rw [hE] at j1
  by_cases c2 : X.2 = 0 ∧ Y.2 = 0
  · rw [if_pos c2] at j1 ⊢
    simp only [go_sem, Nat.reduceAdd, Nat.reduceSub, Nat.reduceMul, Nat.reduceEqDiff, Nat.reduceBEq, Nat.reduceLT, Nat.reduceLeDiff, Nat.reducePow, Int.reduceToNat, Int.reduceLT, Int.reduceLE, Int.reduceGT, Int.reduceGE, Int.reduceEq, Int.reduceNeg, Int.reduceAdd, Int.reduceSub, ↓reduceIte, reduceCtorEq, f2, f3, j1, bF, bE, fD]
  · rw [if_neg c2] at j1 ⊢
    simp only [go_sem, Nat.reduceAdd, Nat.reduceSub, Nat.reduceMul, Nat.reduceEqDiff, Nat.reduceBEq, Nat.reduceLT, Nat.reduceLeDiff, Nat.reducePow, Int.reduceToNat, Int.reduceLT, Int.reduceLE, Int.reduceGT, Int.reduceGE, Int.reduceEq, Int.reduceNeg, Int.reduceAdd, Int.reduceSub, ↓reduceIte, reduceCtorEq, f2, f3, j1, bF, bE, fD]
def cSpots : CodL (List Spot) := cOne (cL 72 cSpot)
noncomputable def sCen : Ev.Spec := specC cSpots (fun l => l.length ≤ 4611686018427387904) fun l => [fD (cenR l).1, fD (cenR l).2.1, .int .i64 (cenR l).2.2]
theorem centre_ok : SpecOk Try.prog 19 sCen := specC_ok mixed G_ok T_ok fun l h => ⟨_, 2, eCentre l h⟩
#print axioms centre_ok
end Go.Proofs.YtmhjmjodchbhlaaR.Cen1Cen
end
section
set_option linter.unusedVariables false
set_option linter.unusedSimpArgs false
set_option maxRecDepth 100000
namespace Go.Proofs.YtmhjmjodchbhlaaR.Cen2Cen
open Go.Ev Go.Ari Go.Proofs.YtmhjmjodchbhlaaR.FxCen Go.Proofs.YtmhjmjodchbhlaaR.Frac1Cen Go.Proofs.YtmhjmjodchbhlaaR.Frac2Cen Go.Proofs.YtmhjmjodchbhlaaR.Frac3Cen Go.Proofs.YtmhjmjodchbhlaaR.MeanCen
open Go.Proofs.YtmhjmjodchbhlaaR.Cen1Cen (Spot spD cSpot cSpots bad errS sumS sumS_append sumS_take gA gX gY not_bad wgt cenR mul128_2 bF bI sCen loop_then)
attribute [local go_sem] Ev.putR_s Ev.putR_0 Ev.thenO_s Ev.thenO_0 Ev.seqR_n Ev.seqR_e Ev.seqR_r Ev.seqR_0 Ev.blkR_e Ev.blkR_n Ev.blkR_r Ev.blkR_0 Ev.normR_s Ev.normR_0 Ev.outR_r Ev.outR_n Ev.outR_0 Ev.retS_s Ev.retS_0 Ev.pureO_s Ev.pureO_0 Ev.topR_0 Ev.topR_t Ev.topR_t0 Ev.oneL_0 Ev.oneL_s Ev.topR_d Ev.topR_nils Ev.topR_agg Ev.topR_rs Ev.evOp_move Ev.evOp_assign Ev.evOp_pick Ev.evOp_alloc Ev.evOp_box Ev.evOp_build Ev.evOp_buildSlice Ev.evOp_load Ev.evOp_store Ev.evOp_makeMap Ev.evOp_lookup Ev.evOp_mapUpdate Ev.evOp_insert Ev.evOp_nilCheck Ev.evOp_binOp Ev.evOp_unOp Ev.evOp_convert Ev.evOp_makeFunc Ev.evOp_makeSlice Ev.evOp_slice Ev.evOp_fieldAddr Ev.evOp_field Ev.evOp_indexAddr Ev.evOp_index Ev.evOp_extract Ev.evOp_call Ev.evOp_append Ev.evOp_len Ev.evOp_min Ev.evOp_max Ev.condR_b Ev.condR_t Ev.evOps_nil Ev.evOps_plain Ev.evOps_guard Ev.runG_eq Ev.skipG_eq Ev.condL_tt Ev.condL_ff Ev.condL_tf Ev.condL_ft Ev.condL_u Ev.condC_t Ev.condC_f Ev.evC_skip Ev.evC_ret Ev.evC_exit Ev.evC_label Ev.evC_region Ev.evC_draw Ev.evC_seq Ev.evC_cond Ev.evC_block Ev.evC_loop Ev.fin_d Ev.fin_nils Ev.fin_agg_ Ev.fin_rs Ev.finS_s Ev.mapO_fin Ev.upd_upd Ev.argv_d Ev.argv_nils Ev.argv_agg Ev.argv_rs Ev.argv_p Ev.appendTo_nils Ev.appendTo_rs Ev.consV_d Ev.consV_agg Ev.consV_p Ev.consV_rs Ev.consV_nils Ev.consV_fn Ev.consV_und Ev.consV_jk Ev.consV_grown Ev.topR_grown Ev.len_grown Ev.consV_mp Ev.sameK_i Ev.sameK_s Ev.mget_0 Ev.mget_hit Ev.mget_miss Ev.mput_0 Ev.mput_hit Ev.mput_miss Ev.apartAll Ev.apartL Ev.apartV Ev.freeAll Ev.sel Ev.keyOfV Ev.evLookup Ev.evPut Ev.hintOk Ev.keyOk Ev.consP Ev.lookV Ev.guardV Ev.dstAt Ev.evPure Ev.evStore Ev.evPureB Ev.evBin Ev.evBinO Ev.evNil Ev.isNilC Ev.evUn Ev.evConv Ev.evSlice Ev.optI Ev.lenV Ev.elemT Ev.foldI Ev.capsOk Ev.noTup Ev.nth Ev.setN Ev.pad Ev.V.get Ev.V.put Ev.putD Ev.hasT Ev.newBlk Ev.upd Ev.keq Ev.empty Ev.evCall Ev.V.args Ev.argP Ev.callOf Ev.evNilP Ev.isNilP Ev.look Ev.V.view.views Ev.V.view Ev.V.toD Ev.V.toD.V.toDs Ev.V.pure.pures Ev.V.pure Ev.D.flat.flats Ev.D.flat Ev.mkAgg Ev.allD Ev.aggParts Ev.setParts Ev.setElems Ev.getPath Ev.setPath Ev.subL Ev.eqD Ev.eqD.eqDs Ev.and2 Ev.strCut Ev.evalT Ev.constT Ev.evArgs Ev.mask Ev.maskOf Ev.tableOf Ev.compT Ev.resV Ev.retV Ev.mapO Ev.elemsOf Int.cast_ofNat_Int IntWalk.i64_in IntWalk.u64_in IntWalk.u8_in beq_self_eq_true Bool.true_beq Bool.false_beq Bool.and_true Bool.true_and Bool.false_and Bool.and_false Bool.and_self Bool.not_true Bool.not_false Bool.not_eq_true cond_true cond_false if_true if_false and_true true_and and_self decide_true decide_false Bool.or_true Bool.true_or Bool.or_false Bool.false_or List.isEmpty List.isEmpty_nil List.size_toArray List.map List.length_map List.length_cons List.length_nil Option.map Option.bind Option.getD Option.isSome List.replicate Bool.false_eq_true implies_true forall_const Array.toList Array.isEmpty List.append List.nil_append List.cons_append List.drop_zero List.take_length List.take_succ_cons List.take_zero List.take_nil List.getElem?_map List.getElem?_cons_zero List.getElem?_cons_succ List.getElem?_nil List.append_nil
attribute [local go_sem] FxCen.tk2 FxCen.ik2 FxCen.ek2 FxCen.zv2 FxCen.tk3 FxCen.ik3 FxCen.ek3 FxCen.zv3 FxCen.tk4 FxCen.ub4 FxCen.zv4 FxCen.by4 FxCen.so4 FxCen.tk27 FxCen.ik27 FxCen.zv27 FxCen.by27 FxCen.so27 FxCen.tk31 FxCen.zv31 FxCen.tk33 FxCen.ct33 FxCen.ek33 FxCen.zv33 FxCen.tk56 FxCen.ik56 FxCen.zv56 FxCen.tk57 FxCen.zv57 FxCen.tk61 FxCen.ik61 FxCen.ek61 FxCen.zv61 FxCen.tk63 FxCen.ct63 FxCen.ek63 FxCen.zv63 FxCen.by63 FxCen.so63 FxCen.tk72 FxCen.ct72 FxCen.zv72 FxCen.by72 FxCen.so72 FxCen.tk92 FxCen.ik92 FxCen.zv92 FxCen.tk99 FxCen.zv99 FxCen.tk100 FxCen.zv100 FxCen.tk101 FxCen.zv101 FxCen.tk135 FxCen.ik135 FxCen.zv135 FxCen.tk150 FxCen.ct150 FxCen.zv150 FxCen.tk159 FxCen.zv159 FxCen.tk190 FxCen.zv190 FxCen.mk5_1000000 FxCen.dw19_18 FxCen.nc19_18 FxCen.dw19_19 FxCen.nc19_19 FxCen.mk19_0 FxCen.mk19_1000001 FxCen.mk19_1000002 FxCen.mk19_1000003 FxCen.mk19_1000000 FxCen.dw20_19 FxCen.nc20_19 FxCen.mk20_0 FxCen.mk20_1000001 FxCen.mk20_1000002 FxCen.mk20_1000000 FxCen.mk21_1000000 FxCen.dw32_7 FxCen.nc32_7 FxCen.mk32_1 FxCen.mk32_1000001 FxCen.mk32_1000002 FxCen.mk32_1000003 FxCen.mk32_1000000 FxCen.mk35_1000000 FxCen.mk56_1000000 FxCen.dw57_5 FxCen.nc57_5 FxCen.dw57_6 FxCen.nc57_6 FxCen.mk57_0 FxCen.mk57_1000001 FxCen.mk57_1000002 FxCen.mk57_1000003 FxCen.mk57_1000000 FxCen.dw58_4 FxCen.nc58_4 FxCen.dw58_5 FxCen.nc58_5 FxCen.dw58_6 FxCen.nc58_6 FxCen.mk58_1000000 FxCen.mk59_0 FxCen.mk59_1000001 FxCen.mk59_1000002 FxCen.mk59_1000000 FxCen.dw60_5 FxCen.nc60_5 FxCen.dw60_10 FxCen.nc60_10 FxCen.mk60_0 FxCen.mk60_1000001 FxCen.mk60_1000002 FxCen.mk60_1000000 FxCen.dw61_5 FxCen.nc61_5 FxCen.dw61_8 FxCen.nc61_8 FxCen.mk61_1000000 FxCen.mk62_1000000 FxCen.mk63_1000000 FxCen.mk69_1000000 FxCen.mk79_1000001 FxCen.mk79_1000000 FxCen.mk104_1000000 FxCen.dw105_1 FxCen.nc105_1 FxCen.mk105_1000000 FxCen.dw106_3 FxCen.nc106_3 FxCen.mk106_0 FxCen.mk106_1000001 FxCen.mk106_1000002 FxCen.mk106_1000000 FxCen.mk107_1000000 FxCen.mk108_0 FxCen.mk108_1000001 FxCen.mk108_1000002 FxCen.mk108_1000000 FxCen.mk109_1000000 FxCen.dw110_6 FxCen.nc110_6 FxCen.mk110_1000000 FxCen.mk137_1000000
/-! ### plain -/
theorem errS_zero {a : Int} {l : List Spot} (h : errS a l = 0) : ∀ s ∈ l, ¬ bad s := by
  induction l generalizing a with
  | nil => intro s hs; cases hs
  | cons x r ih =>
    simp only [errS] at h
    split at h
    · cases h
    · rename_i hb
      split at h
      · cases h
      · intro s hs
        rcases List.mem_cons.1 hs with rfl | hs
        · exact hb
        · exact ih h s hs
def gAt (at_ : Spot → Int) (s : Spot) : Int := s.2.2 * (2 * at_ s + 1)
def AtOk (at_ : Spot → Int) : Prop := ∀ s, ¬ bad s → -300 ≤ at_ s ∧ at_ s ≤ 300
theorem sum_bd {at_ : Spot → Int} (ha : AtOk at_) : ∀ {l : List Spot}, (∀ s ∈ l, ¬ bad s) → 0 ≤ sumS gA l ∧ -601 * sumS gA l ≤ sumS (gAt at_) l ∧ sumS (gAt at_) l ≤ 601 * sumS gA l
  | [], _ => ⟨Int.le_refl 0, by simp [sumS], by simp [sumS]⟩
  | s :: r, h => by
    obtain ⟨h1, h2, h3⟩ := sum_bd ha (l := r) fun x hx => h x (by simp [hx])
    have hb := h s (by simp)
    have q0 := (not_bad hb).2.2.2.2
    obtain ⟨a0, a1⟩ := ha s hb
    obtain ⟨u0, u1⟩ := wgt q0 a0 a1
    simp only [sumS, gA, gAt]
    exact ⟨by omega, by omega, by omega⟩
theorem small_w {w r a s : Int} (ha : 1 ≤ a) (h : w * a + r = s) (hr : -a < r ∧ r < a) (hs : -(603 * a) ≤ s ∧ s ≤ 603 * a) : -604 ≤ w ∧ w ≤ 604 := by
  constructor
  · apply Classical.byContradiction
    intro hn
    have := Int.mul_le_mul_of_nonneg_right (show w ≤ -605 by omega) (show 0 ≤ a by omega)
    omega
  · apply Classical.byContradiction
    intro hn
    have := Int.mul_le_mul_of_nonneg_right (show 605 ≤ w by omega) (show 0 ≤ a by omega)
    omega
/-! ### the components -/
noncomputable def sAt (at_ : Spot → Int) : Ev.Spec := specC (cOne cSpot) (fun _ => True) fun s => [.int .i64 (at_ s)]
def atX (s : Spot) : Int := s.1
def atY (s : Spot) : Int := s.2.1
theorem sAt_run (at_ : Spot → Int) (s : Spot) : (sAt at_).run [spD s] = some [.int .i64 (at_ s)] := specC_run (cOne cSpot) _ _ s trivial
noncomputable def T0 : Table := tableOf [(62, en62), (63, en63)]
theorem T0_ok : TableOk Try.prog (([] : Specs).map (·.1)) T0 := (table_cons Try.func62 (by kernel_rfl) (by kernel_rfl) (table_cons Try.func63 (by kernel_rfl) (by kernel_rfl) table_nil))
theorem eX (s : Spot) : evTop Try.prog [] T0 0 1 62 [spD s] = some [.int .i64 (atX s)] := by
  simp only [spD]
  unfold evTop
  simp only [List.map]
  rw [evF_s (fn := Try.f62) (msk := en62.ms) (hT := by rfl) (hb := by rfl)]
  simp only [Try.f62, go_sem, Nat.reduceAdd, Nat.reduceSub, Nat.reduceMul, Nat.reduceEqDiff, Nat.reduceBEq, Nat.reduceLT, Nat.reduceLeDiff, Nat.reducePow, Int.reduceToNat, Int.reduceLT, Int.reduceLE, Int.reduceGT, Int.reduceGE, Int.reduceEq, Int.reduceNeg, Int.reduceAdd, Int.reduceSub, ↓reduceIte, reduceCtorEq, atX]
theorem eY (s : Spot) : evTop Try.prog [] T0 0 1 63 [spD s] = some [.int .i64 (atY s)] := by
  simp only [spD]
  unfold evTop
  simp only [List.map]
  rw [evF_s (fn := Try.f63) (msk := en63.ms) (hT := by rfl) (hb := by rfl)]
  simp only [Try.f63, go_sem, Nat.reduceAdd, Nat.reduceSub, Nat.reduceMul, Nat.reduceEqDiff, Nat.reduceBEq, Nat.reduceLT, Nat.reduceLeDiff, Nat.reducePow, Int.reduceToNat, Int.reduceLT, Int.reduceLE, Int.reduceGT, Int.reduceGE, Int.reduceEq, Int.reduceNeg, Int.reduceAdd, Int.reduceSub, ↓reduceIte, reduceCtorEq, atY]
theorem x_ok : SpecOk Try.prog 62 (sAt atX) := specC_ok mixed specs_nil T0_ok fun s _ => ⟨0, 1, eX s⟩
theorem y_ok : SpecOk Try.prog 63 (sAt atY) := specC_ok mixed specs_nil T0_ok fun s _ => ⟨0, 1, eY s⟩
noncomputable def G : Specs := [(57, sMake), (58, sMul128), (61, sAddF), (62, sAt atX), (63, sAt atY)]
noncomputable def T : Table := tableOf [(20, en20), (60, en60)]
theorem G_ok : ∀ g s, Ev.look G g = some s → SpecOk Try.prog g s := specs_cons make_ok (specs_cons mul128_ok (specs_cons addF_ok (specs_cons x_ok (specs_cons y_ok specs_nil))))
theorem T_ok : TableOk Try.prog (G.map (·.1)) T := (table_cons Try.func20 (by kernel_rfl) (by kernel_rfl) (table_cons Try.func60 (by kernel_rfl) (by kernel_rfl) table_nil))
/-! ### mean -/
def Which (lv f : Nat) (at_ : Spot → Int) : Prop := (lv = 65 ∧ f = 62 ∧ at_ = atX) ∨ (lv = 70 ∧ f = 63 ∧ at_ = atY)
theorem Which.ok {lv f : Nat} {at_ : Spot → Int} (h : Which lv f at_) : AtOk at_ := by
  intro s hs
  have := not_bad hs
  rcases h with ⟨_, _, rfl⟩ | ⟨_, _, rfl⟩
  · exact ⟨this.1, this.2.1⟩
  · exact ⟨this.2.2.1, this.2.2.2.1⟩
abbrev X := Nat × Int × Int × Store
def hdM (lv f v4 : Nat) (l : List Spot) (x : X) : List V := hd60_0 (.fn f []) (.p (0, 8) 1 0 []) (.p (lv, 4) v4 0 []) (.d (.int .i64 x.2.1)) (.d (.int .i64 x.2.2.1)) (.d (.sl 72 (l.map spD))) (.d (.int .i64 l.length)) (.d (.int .i64 x.1))
def b4 (v4 : Nat) : Blk := ⟨v4, 33, [.d (fD (0, 0))], true⟩
def Fr (st0 : Store) (lv v4 : Nat) (st : Store) : Prop := (∀ d, st (0, d) = st0 (0, d)) ∧ st (lv, 4) = b4 v4
def JM (lv v4 : Nat) (at_ : Spot → Int) (st0 : Store) (l : List Spot) (x : X) : Prop := x.1 ≤ l.length ∧ Fr st0 lv v4 x.2.2.2 ∧ x.2.1 * sumS gA l + x.2.2.1 = sumS (gAt at_) (l.take x.1) ∧ -sumS gA l < x.2.2.1 ∧ x.2.2.1 < sumS gA l
def QM (lv v4 : Nat) (at_ : Spot → Int) (st0 : Store) (l : List Spot) (x : X) (o : Out) : Prop := ∃ st' w r, o = some (.exit 0, hx60_0 (.p (0, 8) 1 0 []) (.p (lv, 4) v4 0 []) (.d (.int .i64 w)) (.d (.int .i64 r)), st') ∧ Fr st0 lv v4 st' ∧ w * sumS gA l + r = sumS (gAt at_) l ∧ -sumS gA l < r ∧ r < sumS gA l
theorem loopM (L : Nat) (l : List Spot) (lv f v4 : Nat) (at_ : Spot → Int) (hW : Which lv f at_) (st0 : Store) (h8 : st0 (0, 8) = bI (sumS gA l)) (hl : l.length ≤ 4611686018427387904) (hb : ∀ s ∈ l, ¬ bad s) (ha : 1 ≤ sumS gA l ∧ sumS gA l ≤ 281474976710656) :
    ∀ (m : Nat) (x : X) (env : List V), JM lv v4 at_ st0 l x → l.length - x.1 < m → mask (maskOf en60.ms 0) env = hdM lv f v4 l x →
      QM lv v4 at_ st0 l x (iter (evC Try.prog G (evF Try.prog G T L 0) L en60.ms lv 0 lb60_0) (maskOf en60.ms 0) m env x.2.2.2) := by
  refine iter_rel _ _ (JM lv v4 at_ st0 l) (hdM lv f v4 l) (fun x => x.2.2.2) (QM lv v4 at_ st0 l) (fun x => l.length - x.1) ?_
  rintro ⟨i, w, r, st⟩ ⟨hi, ⟨hf, h4⟩, hs, r0, r1⟩ k hk
  simp only at hi hf h4 hs r0 r1
  by_cases hin : i < l.length
  case neg =>
    obtain rfl : i = l.length := by omega
    have hlt : ¬ (l.length : Int) < l.length := by omega
    rw [List.take_length] at hs
    refine ⟨st, w, r, ?_, ⟨hf, h4⟩, hs, r0, r1⟩
    simp only [lb60_0, loopN, loops, hdM, hd60_0, hx60_0, Try.f60, go_sem, Nat.reduceAdd, Nat.reduceSub, Nat.reduceMul, Nat.reduceEqDiff, Nat.reduceBEq, Nat.reduceLT, Nat.reduceLeDiff, Nat.reducePow, Int.reduceToNat, Int.reduceLT, Int.reduceLE, Int.reduceGT, Int.reduceGE, Int.reduceEq, Int.reduceNeg, Int.reduceAdd, Int.reduceSub, ↓reduceIte, reduceCtorEq, hlt]
  have hlt : (i : Int) < l.length := by omega
  have hx : l[i]? = some l[i] := by simp [hin]
  have g0 : (0 : Int) ≤ (i : Int) := by omega
  have ht : ((i : Int)).toNat = i := by omega
  have hw1 : IntKind.i64.wrap ((i : Int) + 1) = ((i + 1 : Nat) : Int) := by rw [IntWalk.i64_in _ (by omega)]; rfl
  have hAt := hW.ok
  have tS := sumS_take (g := gAt at_) hin
  have tA := sumS_take (g := gA) hin
  have hbt := sum_bd hAt (l := l.take i) fun s hs => hb s (List.mem_of_mem_take hs)
  have hbd := sum_bd hAt (l := l.drop (i + 1)) fun s hs => hb s (List.mem_of_mem_drop hs)
  have hall : sumS gA l = sumS gA (l.take (i + 1)) + sumS gA (l.drop (i + 1)) := by rw [← sumS_append, List.take_append_drop]
  have hbs := hb l[i] (List.getElem_mem _)
  have h8' : st (0, 8) = bI (sumS gA l) := by rw [hf]; exact h8
  have hk' := fun w' r' st1 env h1 h2 h3 => (hk (i + 1, w', r', st1) env h1 h2 h3 : QM lv v4 at_ st0 l (i + 1, w', r', st1) _)
  have hrun := sAt_run at_ l[i]
  unfold JM at hk'
  simp only at hk'
  rw [tS] at hk'
  generalize l[i] = s at *
  have q0 := (not_bad hbs).2.2.2.2
  obtain ⟨a0, a1⟩ := hAt s hbs
  obtain ⟨u0, u1⟩ := wgt q0 a0 a1
  have eA : gA s = s.2.2 := rfl
  have eS : gAt at_ s = s.2.2 * (2 * at_ s + 1) := rfl
  rw [eA] at tA
  rw [eS] at hk'
  generalize sumS gA l = a at *
  generalize sumS (gAt at_) (l.take i) = S at *
  generalize sumS gA (l.take i) = A at *
  generalize at_ s = c at *
  obtain ⟨x, y, q⟩ := s
  simp only at q0 u0 u1 tA hk'
  obtain ⟨ha0, ha1⟩ := ha
  have w1 : IntKind.i64.wrap (2 * c) = 2 * c := wi_in (by omega) (by omega)
  have w2 : IntKind.i64.wrap (2 * c + 1) = 2 * c + 1 := wi_in (by omega) (by omega)
  have w3 : IntKind.i64.wrap (q * (2 * c + 1)) = q * (2 * c + 1) := wi_in (by omega) (by omega)
  have w4 : IntKind.i64.wrap (r + q * (2 * c + 1)) = r + q * (2 * c + 1) := wi_in (by omega) (by omega)
  have hz : ¬ a = 0 := by omega
  have ed := Int.tdiv_mul_add_tmod (r + q * (2 * c + 1)) a
  have l0 := Int.lt_tmod_of_pos (r + q * (2 * c + 1)) (show 0 < a by omega)
  have l1 := Int.tmod_lt_of_pos (r + q * (2 * c + 1)) (show 0 < a by omega)
  obtain ⟨k0, k1⟩ := small_w ha0 ed ⟨l0, l1⟩ ⟨by omega, by omega⟩
  obtain ⟨m0, m1⟩ := small_w ha0 hs ⟨r0, r1⟩ ⟨by omega, by omega⟩
  have w5 : IntKind.i64.wrap ((r + q * (2 * c + 1)).tdiv a) = (r + q * (2 * c + 1)).tdiv a := wi_in (by omega) (by omega)
  have w6 : IntKind.i64.wrap (w + (r + q * (2 * c + 1)).tdiv a) = w + (r + q * (2 * c + 1)).tdiv a := wi_in (by omega) (by omega)
  have hsum : (w + (r + q * (2 * c + 1)).tdiv a) * a + (r + q * (2 * c + 1)).tmod a = S + q * (2 * c + 1) := by
    rw [Int.add_mul]; omega
  generalize hK : (r + q * (2 * c + 1)).tdiv a = K at *
  generalize hR : (r + q * (2 * c + 1)).tmod a = R at *
  have hQ : ∀ w' r' st1 o, QM lv v4 at_ st0 l (i + 1, w', r', st1) o → QM lv v4 at_ st0 l (i, w, r, st) o := fun _ _ _ o h => h
  simp only [spD] at hrun
  rcases hW with ⟨rfl, rfl, rfl⟩ | ⟨rfl, rfl, rfl⟩
  all_goals
    simp only [lb60_0, loopN, loops, hdM, hd60_0, Try.f60, G, go_sem, Nat.reduceAdd, Nat.reduceSub, Nat.reduceMul, Nat.reduceEqDiff, Nat.reduceBEq, Nat.reduceLT, Nat.reduceLeDiff, Nat.reducePow, Int.reduceToNat, Int.reduceLT, Int.reduceLE, Int.reduceGT, Int.reduceGE, Int.reduceEq, Int.reduceNeg, Int.reduceAdd, Int.reduceSub, ↓reduceIte, reduceCtorEq, hlt, hx, spD, g0, ht, hrun, h8', bI, hz, w1, w2, w3, w4, hK, hR, w5, w6, hw1]
    refine hQ _ _ _ _ (hk' _ _ _ _ ⟨by omega, ⟨fun d => by simp only [go_sem, Nat.reduceAdd, Nat.reduceSub, Nat.reduceMul, Nat.reduceEqDiff, Nat.reduceBEq, Nat.reduceLT, Nat.reduceLeDiff, Nat.reducePow, Int.reduceToNat, Int.reduceLT, Int.reduceLE, Int.reduceGT, Int.reduceGE, Int.reduceEq, Int.reduceNeg, Int.reduceAdd, Int.reduceSub, ↓reduceIte, reduceCtorEq, hf], by simp only [go_sem, Nat.reduceAdd, Nat.reduceSub, Nat.reduceMul, Nat.reduceEqDiff, Nat.reduceBEq, Nat.reduceLT, Nat.reduceLeDiff, Nat.reducePow, Int.reduceToNat, Int.reduceLT, Int.reduceLE, Int.reduceGT, Int.reduceGE, Int.reduceEq, Int.reduceNeg, Int.reduceAdd, Int.reduceSub, ↓reduceIte, reduceCtorEq, h4]⟩, hsum, l0, l1⟩ (by omega) (by simp only [hdM, hd60_0, spD, go_sem, Nat.reduceAdd, Nat.reduceSub, Nat.reduceMul, Nat.reduceEqDiff, Nat.reduceBEq, Nat.reduceLT, Nat.reduceLeDiff, Nat.reducePow, Int.reduceToNat, Int.reduceLT, Int.reduceLE, Int.reduceGT, Int.reduceGE, Int.reduceEq, Int.reduceNeg, Int.reduceAdd, Int.reduceSub, ↓reduceIte, reduceCtorEq, hw1]))
def Ans (st0 : Store) (v : (Int × Int) × Int) (z : Option (V × Store)) : Prop := ∃ st', z = some (.tup [.d (fD v.1), .d (.int .i64 v.2)], st') ∧ ∀ d, st' (0, d) = st0 (0, d)
theorem ex_then {R : Out → Prop} {o : Out} {P : Program} {rs : List ResultVar} {id : Nat} {k : Run} {C : Option (V × Store) → Prop} (hR : R o) (h : ∀ o, R o → C (outR P rs (seqR (blkR id o) k))) : C (outR P rs (seqR (blkR id o) k)) := h o hR
theorem div_of {w r a n : Int} (ha : 1 ≤ a) (h : w * a + r = n) (h0 : 0 ≤ r) (h1 : r < a) : n / a = w ∧ n % a = r := by
  subst h
  have e1 : (w * a + r) / a = w := by rw [Int.add_comm, Int.add_mul_ediv_right _ _ (by omega), Int.ediv_eq_zero_of_lt h0 h1, Int.zero_add]
  have e2 : (w * a + r) % a = r := by rw [Int.add_comm, Int.add_mul_emod_self_right, Int.emod_eq_of_lt h0 h1]
  exact ⟨e1, e2⟩
theorem facts {w r a n : Int} (ha : 1 ≤ a) (ha2 : a ≤ 281474976710656) (h : w * a + r = n) (h0 : 0 ≤ r) (h1 : r < a) : ∃ p z : Int × Int, mk r a = p ∧ okF p ∧ mul128 p = (z, 0) ∧ okF z ∧ addR z (128 * w) = mul128 (mk n a) := by
  obtain ⟨e1, e2⟩ := div_of ha h h0 h1
  have hm := mean_eq (n := n) ha ha2
  unfold meanR at hm
  obtain ⟨s1, s2⟩ := mul_small (n := n) ha ha2
  rw [e1, e2] at hm
  rw [e2] at s1 s2
  have ho := okF_mk (n := r) (d := a) ⟨by unfold Lim; simp only; omega, ha, by simp only; omega⟩
  refine ⟨mk r a, (mul128 (mk r a)).1, rfl, ho, Prod.ext rfl s1, ?_, hm⟩
  have e3 : (mul128 (mk r a)).1 = ((mk r a).1 * (128 / gI 128 (mk r a).2), (mk r a).2 / gI 128 (mk r a).2) := by
    unfold mul128
    rw [if_pos s2]
  rw [e3]
  exact okF_128 ho s2
theorem eMean (l : List Spot) (lv f : Nat) (at_ : Spot → Int) (hW : Which lv f at_) (st : Store) (h1b : st (0, 1) = ⟨1, 31, [.d (.sl 72 (l.map spD))], true⟩) (h8 : st (0, 8) = bI (sumS gA l)) (hl : l.length ≤ 4611686018427387904) (hb : ∀ s ∈ l, ¬ bad s) (ha : 1 ≤ sumS gA l ∧ sumS gA l ≤ 281474976710656) :
    Ans st (mul128 (mk (sumS (gAt at_) l) (sumS gA l))) (evF Try.prog G T (l.length + 1) 1 60 [.fn f [], .p (0, 1) 1 0 [], .p (0, 8) 1 0 []] lv st) := by
  have hwi := hW
  rcases hW with ⟨rfl, rfl, rfl⟩ | ⟨rfl, rfl, rfl⟩
  all_goals
    rw [evF_s (fn := Try.f60) (msk := en60.ms) (hT := by rfl) (hb := by rfl)]
    simp only [Try.f60, G, go_sem, Nat.reduceAdd, Nat.reduceSub, Nat.reduceMul, Nat.reduceEqDiff, Nat.reduceBEq, Nat.reduceLT, Nat.reduceLeDiff, Nat.reducePow, Int.reduceToNat, Int.reduceLT, Int.reduceLE, Int.reduceGT, Int.reduceGE, Int.reduceEq, Int.reduceNeg, Int.reduceAdd, Int.reduceSub, ↓reduceIte, reduceCtorEq, h1b, h8, bI]
    first
      | refine ex_then (C := Ans st (mul128 (mk (sumS (gAt atX) l) (sumS gA l)))) (R := QM 65 ((st (65, 4)).ver + 1) atX st l (0, 0, 0, _)) (loopM _ l 65 62 ((st (65, 4)).ver + 1) atX hwi st h8 hl hb ha _ (0, 0, 0, _) _ ⟨by simp only; omega, ⟨fun d => by simp only [go_sem, Nat.reduceAdd, Nat.reduceSub, Nat.reduceMul, Nat.reduceEqDiff, Nat.reduceBEq, Nat.reduceLT, Nat.reduceLeDiff, Nat.reducePow, Int.reduceToNat, Int.reduceLT, Int.reduceLE, Int.reduceGT, Int.reduceGE, Int.reduceEq, Int.reduceNeg, Int.reduceAdd, Int.reduceSub, ↓reduceIte, reduceCtorEq], by simp only [go_sem, Nat.reduceAdd, Nat.reduceSub, Nat.reduceMul, Nat.reduceEqDiff, Nat.reduceBEq, Nat.reduceLT, Nat.reduceLeDiff, Nat.reducePow, Int.reduceToNat, Int.reduceLT, Int.reduceLE, Int.reduceGT, Int.reduceGE, Int.reduceEq, Int.reduceNeg, Int.reduceAdd, Int.reduceSub, ↓reduceIte, reduceCtorEq, b4, fD]⟩, by simp [sumS], by simp only; omega, by simp only; omega⟩ (by simp only; omega) (by simp only [hdM, hd60_0, go_sem, Nat.reduceAdd, Nat.reduceSub, Nat.reduceMul, Nat.reduceEqDiff, Nat.reduceBEq, Nat.reduceLT, Nat.reduceLeDiff, Nat.reducePow, Int.reduceToNat, Int.reduceLT, Int.reduceLE, Int.reduceGT, Int.reduceGE, Int.reduceEq, Int.reduceNeg, Int.reduceAdd, Int.reduceSub, ↓reduceIte, reduceCtorEq])) ?_
      | refine ex_then (C := Ans st (mul128 (mk (sumS (gAt atY) l) (sumS gA l)))) (R := QM 70 ((st (70, 4)).ver + 1) atY st l (0, 0, 0, _)) (loopM _ l 70 63 ((st (70, 4)).ver + 1) atY hwi st h8 hl hb ha _ (0, 0, 0, _) _ ⟨by simp only; omega, ⟨fun d => by simp only [go_sem, Nat.reduceAdd, Nat.reduceSub, Nat.reduceMul, Nat.reduceEqDiff, Nat.reduceBEq, Nat.reduceLT, Nat.reduceLeDiff, Nat.reducePow, Int.reduceToNat, Int.reduceLT, Int.reduceLE, Int.reduceGT, Int.reduceGE, Int.reduceEq, Int.reduceNeg, Int.reduceAdd, Int.reduceSub, ↓reduceIte, reduceCtorEq], by simp only [go_sem, Nat.reduceAdd, Nat.reduceSub, Nat.reduceMul, Nat.reduceEqDiff, Nat.reduceBEq, Nat.reduceLT, Nat.reduceLeDiff, Nat.reducePow, Int.reduceToNat, Int.reduceLT, Int.reduceLE, Int.reduceGT, Int.reduceGE, Int.reduceEq, Int.reduceNeg, Int.reduceAdd, Int.reduceSub, ↓reduceIte, reduceCtorEq, b4, fD]⟩, by simp [sumS], by simp only; omega, by simp only; omega⟩ (by simp only; omega) (by simp only [hdM, hd60_0, go_sem, Nat.reduceAdd, Nat.reduceSub, Nat.reduceMul, Nat.reduceEqDiff, Nat.reduceBEq, Nat.reduceLT, Nat.reduceLeDiff, Nat.reducePow, Int.reduceToNat, Int.reduceLT, Int.reduceLE, Int.reduceGT, Int.reduceGE, Int.reduceEq, Int.reduceNeg, Int.reduceAdd, Int.reduceSub, ↓reduceIte, reduceCtorEq])) ?_
    rintro o ⟨st1, w, r, rfl, ⟨hf, h4⟩, hs, r0, r1⟩
    have h8' : st1 (0, 8) = bI (sumS gA l) := (hf 8).trans h8
    have hbd := sum_bd hwi.ok hb
    obtain ⟨m0, m1⟩ := small_w ha.1 hs ⟨r0, r1⟩ ⟨by omega, by omega⟩
    generalize sumS gA l = a at *
    generalize sumS (gAt _) l = n at *
    obtain ⟨ha0, ha1⟩ := ha
    unfold b4 fD at h4
    by_cases hneg : r < 0
    · obtain ⟨p, z, f1, f2, f3, f4, f5⟩ := facts (n := n) (w := w - 1) (r := r + a) ha0 ha1 (by rw [Int.sub_mul]; omega) (by omega) (by omega)
      have w1 : IntKind.i64.wrap (w - 1) = w - 1 := wi_in (by omega) (by omega)
      have w2 : IntKind.i64.wrap (r + a) = r + a := wi_in (by omega) (by omega)
      have w3 : IntKind.i64.wrap (128 * (w - 1)) = 128 * (w - 1) := wi_in (by omega) (by omega)
      have q1 := sMake_run (r + a) a ⟨by unfold Lim; simp only; omega, ha0, by simp only; omega⟩
      have q2 := sMul128_run p.1 p.2 f2
      have q3 := sAddF_run z.1 z.2 (128 * (w - 1)) f4 (by unfold Lim; omega)
      have ep : (p.1, p.2) = p := rfl
      have ez : (z.1, z.2) = z := rfl
      rw [f1] at q1
      rw [ep, f3] at q2
      rw [ez, f5] at q3
      generalize mul128 (mk n a) = M at *
      unfold fD at q1 q2 q3
      simp only [hx60_0, Try.f60, G, go_sem, Nat.reduceAdd, Nat.reduceSub, Nat.reduceMul, Nat.reduceEqDiff, Nat.reduceBEq, Nat.reduceLT, Nat.reduceLeDiff, Nat.reducePow, Int.reduceToNat, Int.reduceLT, Int.reduceLE, Int.reduceGT, Int.reduceGE, Int.reduceEq, Int.reduceNeg, Int.reduceAdd, Int.reduceSub, ↓reduceIte, reduceCtorEq, hneg, h8', h4, bI, w1, w2, w3, q1, q2, q3]
      refine ⟨_, rfl, fun d => ?_⟩
      simp only [go_sem, Nat.reduceAdd, Nat.reduceSub, Nat.reduceMul, Nat.reduceEqDiff, Nat.reduceBEq, Nat.reduceLT, Nat.reduceLeDiff, Nat.reducePow, Int.reduceToNat, Int.reduceLT, Int.reduceLE, Int.reduceGT, Int.reduceGE, Int.reduceEq, Int.reduceNeg, Int.reduceAdd, Int.reduceSub, ↓reduceIte, reduceCtorEq, hf]
    · obtain ⟨p, z, f1, f2, f3, f4, f5⟩ := facts (n := n) (w := w) (r := r) ha0 ha1 hs (by omega) (by omega)
      have w3 : IntKind.i64.wrap (128 * w) = 128 * w := wi_in (by omega) (by omega)
      have q1 := sMake_run r a ⟨by unfold Lim; simp only; omega, ha0, by simp only; omega⟩
      have q2 := sMul128_run p.1 p.2 f2
      have q3 := sAddF_run z.1 z.2 (128 * w) f4 (by unfold Lim; omega)
      have ep : (p.1, p.2) = p := rfl
      have ez : (z.1, z.2) = z := rfl
      rw [f1] at q1
      rw [ep, f3] at q2
      rw [ez, f5] at q3
      generalize mul128 (mk n a) = M at *
      unfold fD at q1 q2 q3
      simp only [hx60_0, Try.f60, G, go_sem, Nat.reduceAdd, Nat.reduceSub, Nat.reduceMul, Nat.reduceEqDiff, Nat.reduceBEq, Nat.reduceLT, Nat.reduceLeDiff, Nat.reducePow, Int.reduceToNat, Int.reduceLT, Int.reduceLE, Int.reduceGT, Int.reduceGE, Int.reduceEq, Int.reduceNeg, Int.reduceAdd, Int.reduceSub, ↓reduceIte, reduceCtorEq, hneg, h8', h4, bI, w3, q1, q2, q3]
      refine ⟨_, rfl, fun d => ?_⟩
      simp only [go_sem, Nat.reduceAdd, Nat.reduceSub, Nat.reduceMul, Nat.reduceEqDiff, Nat.reduceBEq, Nat.reduceLT, Nat.reduceLeDiff, Nat.reducePow, Int.reduceToNat, Int.reduceLT, Int.reduceLE, Int.reduceGT, Int.reduceGE, Int.reduceEq, Int.reduceNeg, Int.reduceAdd, Int.reduceSub, ↓reduceIte, reduceCtorEq, hf]
end Go.Proofs.YtmhjmjodchbhlaaR.Cen2Cen
end
