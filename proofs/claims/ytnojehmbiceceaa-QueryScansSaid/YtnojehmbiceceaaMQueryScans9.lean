/- Parts of one proof, joined: Num1Num, Num2Num, Num3Num, Num4Num. -/
import Derived.Test.YtnojehmbiceceaaMQueryScans8
import Derived.Laws.Externs
section
set_option linter.unusedVariables false
set_option linter.unusedSimpArgs false
set_option maxRecDepth 100000
namespace Go.Proofs.Ytnojehmbiceceaa.Num1Num
open Go.Ev Go.Ari Go.Proofs.Ytnojehmbiceceaa.FxNum
attribute [local go_sem] Ev.putR_s Ev.putR_0 Ev.thenO_s Ev.thenO_0 Ev.seqR_n Ev.seqR_e Ev.seqR_r Ev.seqR_0 Ev.blkR_e Ev.blkR_n Ev.blkR_r Ev.blkR_0 Ev.normR_s Ev.normR_0 Ev.outR_r Ev.outR_n Ev.outR_0 Ev.retS_s Ev.retS_0 Ev.pureO_s Ev.pureO_0 Ev.topR_0 Ev.topR_t Ev.topR_t0 Ev.oneL_0 Ev.oneL_s Ev.topR_d Ev.topR_nils Ev.topR_agg Ev.topR_rs Ev.evOp_move Ev.evOp_assign Ev.evOp_pick Ev.evOp_alloc Ev.evOp_box Ev.evOp_build Ev.evOp_buildSlice Ev.evOp_load Ev.evOp_store Ev.evOp_makeMap Ev.evOp_lookup Ev.evOp_mapUpdate Ev.evOp_insert Ev.evOp_nilCheck Ev.evOp_binOp Ev.evOp_unOp Ev.evOp_convert Ev.evOp_makeFunc Ev.evOp_makeSlice Ev.evOp_slice Ev.evOp_fieldAddr Ev.evOp_field Ev.evOp_indexAddr Ev.evOp_index Ev.evOp_extract Ev.evOp_call Ev.evOp_append Ev.evOp_clear Ev.evOp_len Ev.evOp_min Ev.evOp_max Ev.condR_b Ev.condR_t Ev.evOps_nil Ev.evOps_plain Ev.evOps_guard Ev.runG_eq Ev.skipG_eq Ev.condL_tt Ev.condL_ff Ev.condL_tf Ev.condL_ft Ev.condL_u Ev.condC_t Ev.condC_f Ev.evC_skip Ev.evC_ret Ev.evC_exit Ev.evC_label Ev.evC_region Ev.evC_draw Ev.evC_seq Ev.evC_cond Ev.evC_block Ev.evC_loop Ev.fin_d Ev.fin_nils Ev.fin_agg_ Ev.fin_rs Ev.finS_s Ev.mapO_fin Ev.upd_upd Ev.argv_d Ev.argv_nils Ev.argv_agg Ev.argv_rs Ev.argv_p Ev.fk_low Ev.appendTo_nils Ev.appendTo_rs Ev.consV_d Ev.consV_agg Ev.consV_p Ev.consV_rs Ev.consV_nils Ev.consV_fn Ev.consV_und Ev.consV_jk Ev.consV_grown Ev.topR_grown Ev.len_grown Ev.consV_mp Ev.sameK_i Ev.sameK_s Ev.mget_0 Ev.mget_hit Ev.mget_miss Ev.mput_0 Ev.mput_hit Ev.mput_miss Ev.apartAll Ev.apartL Ev.apartV Ev.freeAll Ev.sel Ev.keyOfV Ev.evLookup Ev.evPut Ev.hintOk Ev.keyOk Ev.consP Ev.lookV Ev.guardV Ev.dstAt Ev.evPure Ev.evStore Ev.evPureB Ev.evBin Ev.evBinO Ev.evNil Ev.isNilC Ev.evUn Ev.evConv Ev.evSlice Ev.optI Ev.lenV Ev.elemT Ev.foldI Ev.capsOk Ev.noTup Ev.nth Ev.setN Ev.killAt Ev.pad Ev.V.get Ev.V.put Ev.putD Ev.hasT Ev.newBlk Ev.upd Ev.keq Ev.empty Ev.evCall Ev.V.args Ev.argP Ev.callOf Ev.evNilP Ev.isNilP Ev.look Ev.V.view.views Ev.V.view Ev.V.toD Ev.V.toD.V.toDs Ev.V.pure.pures Ev.V.pure Ev.D.flat.flats Ev.D.flat Ev.mkAgg Ev.allD Ev.aggParts Ev.setParts Ev.setElems Ev.getPath Ev.setPath Ev.subL Ev.eqD Ev.eqD.eqDs Ev.and2 Ev.strCut Ev.evalT Ev.constT Ev.evArgs Ev.mask Ev.maskOf Ev.tableOf Ev.compT Ev.resV Ev.retV Ev.mapO Ev.elemsOf Int.cast_ofNat_Int IntWalk.i64_in IntWalk.u64_in IntWalk.u8_in beq_self_eq_true Bool.true_beq Bool.false_beq Bool.and_true Bool.true_and Bool.false_and Bool.and_false Bool.and_self Bool.not_true Bool.not_false Bool.not_eq_true cond_true cond_false if_true if_false and_true true_and and_self decide_true decide_false Bool.or_true Bool.true_or Bool.or_false Bool.false_or List.isEmpty List.isEmpty_nil List.size_toArray List.map List.length_map List.length_cons List.length_nil Option.map Option.bind Option.getD Option.isSome List.replicate Bool.false_eq_true implies_true false_implies forall_const Array.toList Array.isEmpty List.append List.nil_append List.cons_append List.drop_zero List.take_length List.take_succ_cons List.take_zero List.take_nil List.getElem?_map List.getElem?_cons_zero List.getElem?_cons_succ List.getElem?_nil List.append_nil
attribute [local go_sem] FxNum.tk2 FxNum.ik2 FxNum.zv2 FxNum.tk3 FxNum.ik3 FxNum.zv3 FxNum.tk4 FxNum.ub4 FxNum.zv4 FxNum.tk5 FxNum.ik5 FxNum.zv5 FxNum.tk9 FxNum.ek9 FxNum.tk27 FxNum.ik27 FxNum.zv27 FxNum.tk133 FxNum.ik133 FxNum.zv133 FxNum.tk147 FxNum.ik147 FxNum.zv147 FxNum.tk176 FxNum.ct176 FxNum.zv176 FxNum.tk295 FxNum.mk66_1000000 FxNum.mk86_1000000 FxNum.mk87_1000000 FxNum.mk109_0 FxNum.mk109_1000001 FxNum.mk109_1000002 FxNum.mk109_1000000 FxNum.fi109_0 FxNum.mk110_1000000 FxNum.mk118_0 FxNum.mk118_1000001 FxNum.mk118_1000002 FxNum.mk118_1000000 FxNum.fi118_0 FxNum.mk150_1000001 FxNum.mk150_1000000 FxNum.mk171_0 FxNum.mk171_1000001 FxNum.mk171_1000002 FxNum.mk171_1000000 FxNum.fi171_0 FxNum.mk172_1000000 FxNum.mk182_1000000 FxNum.mk183_1000000 FxNum.dw203_6 FxNum.kl203_6 FxNum.nc203_6 FxNum.mk203_0 FxNum.mk203_2 FxNum.mk203_1000001 FxNum.mk203_1000002 FxNum.mk203_1000003 FxNum.mk203_1000004 FxNum.mk203_1000000 FxNum.fi203_0 FxNum.fi203_2 FxNum.mk225_1000000 FxNum.mk244_1000000
def c3 (k : IntKind) : CodL (Int × Int × Int) := cCons (cI k) (cCons (cI k) (cOne (cI k)))
def c2 (k : IntKind) : CodL (Int × Int) := cCons (cI k) (cOne (cI k))
def c1 (k : IntKind) : CodL Int := cOne (cI k)
def U (x : Int) : Prop := 0 ≤ x ∧ x < 18446744073709551616
def I (x : Int) : Prop := -9223372036854775808 ≤ x ∧ x < 9223372036854775808
/-! ### Add64 -/
noncomputable def sAdd : Ev.Spec := specC (c3 .u64) (fun x => U x.1 ∧ U x.2.1 ∧ 0 ≤ x.2.2 ∧ x.2.2 ≤ 1) fun x => [.int .u64 ((x.1 + x.2.1 + x.2.2) % 18446744073709551616), .int .u64 ((x.1 + x.2.1 + x.2.2) / 18446744073709551616)]
theorem sAdd_run (x y c : Int) (hx : U x) (hy : U y) (h0 : 0 ≤ c) (h1 : c ≤ 1) : sAdd.run [.int .u64 x, .int .u64 y, .int .u64 c] = some [.int .u64 ((x + y + c) % 18446744073709551616), .int .u64 ((x + y + c) / 18446744073709551616)] := specC_run (c3 .u64) _ _ (x, y, c) ⟨hx, hy, h0, h1⟩
theorem sAdd_ok : SpecOk Try.prog 228 sAdd := by
  intro xs rs S w vals hrun hS hargs
  unfold sAdd specC at hrun
  obtain ⟨⟨x, y, c⟩, rfl, ⟨hx, hy, h0, h1⟩, rfl⟩ := mkSpec_inv hrun
  have hr := hargs (fun _ => none) empty
  obtain ⟨v1, r1, rfl, a1, hr⟩ := hr
  obtain ⟨v2, r2, rfl, a2, hr⟩ := hr
  obtain ⟨v3, r3, rfl, a3, hr⟩ := hr
  cases hr
  have e1 := relV_int (RelN.to_v a1)
  have e2 := relV_int (RelN.to_v a2)
  have e3 := relV_int (RelN.to_v a3)
  subst e1 e2 e3
  refine .inr ⟨.tuple #[.int .u64 ((x + y + c) % 18446744073709551616), .int .u64 ((x + y + c) / 18446744073709551616)], w, ?_, RowKit.Below.refl _ _, ?_⟩
  · rw [run_callFunc_extern Try.func228 (by kernel_rfl) (by kernel_rfl) (by kernel_rfl) (e := add64Entry) (by kernel_rfl)]
    simp only [run_add64 x y c hx.1 hy.1 h0 h1, Result.andThen_ok]
  · intro σ st
    exact ⟨[_, _], rfl, ⟨_, _, rfl, .inr (.inr ⟨rfl, rfl⟩), ⟨_, _, rfl, .inr (.inr ⟨rfl, rfl⟩), rfl⟩⟩⟩
/-! ### Mul64 -/
noncomputable def T1 : Table := tableOf [(172, en172), (225, en225), (244, en244)]
theorem T1_ok : TableOk Try.prog (([] : Specs).map (·.1)) T1 := (table_cons Try.func172 (by kernel_rfl) (by kernel_rfl) (table_cons Try.func225 (by kernel_rfl) (by kernel_rfl) (table_cons Try.func244 (by kernel_rfl) (by kernel_rfl) table_nil)))
noncomputable def sMul : Ev.Spec := specC (c2 .u64) (fun x => U x.1 ∧ U x.2) fun x => [.int .u64 (x.1 * x.2 / 18446744073709551616), .int .u64 (x.1 * x.2 % 18446744073709551616)]
theorem sMul_run (x y : Int) (hx : U x) (hy : U y) : sMul.run [.int .u64 x, .int .u64 y] = some [.int .u64 (x * y / 18446744073709551616), .int .u64 (x * y % 18446744073709551616)] := specC_run (c2 .u64) _ _ (x, y) ⟨hx, hy⟩
theorem eMul (x y : Int) (hx : U x) (hy : U y) : evTop Try.prog [] T1 0 1 172 [.int .u64 x, .int .u64 y] = some [.int .u64 (x * y / 18446744073709551616), .int .u64 (x * y % 18446744073709551616)] := by
  unfold evTop
  simp only [List.map]
  rw [evF_s (fn := Try.f172) (msk := en172.ms) (hT := by rfl) (hb := by rfl)]
  simp only [Try.f172, go_sem, Nat.reduceAdd, Nat.reduceSub, Nat.reduceMul, Nat.reduceEqDiff, Nat.reduceBEq, Nat.reduceLT, Nat.reduceLeDiff, Nat.reducePow, Int.reduceToNat, Int.reduceLT, Int.reduceLE, Int.reduceGT, Int.reduceGE, Int.reduceEq, Int.reduceNeg, Int.reduceAdd, Int.reduceSub, ↓reduceIte, reduceCtorEq]
  have m := mul_hi hx.1 hx.2 hy.1 hy.2
  rw [m, wu (x * y)]
theorem sMul_ok : SpecOk Try.prog 172 sMul := specC_ok mixed specs_nil T1_ok fun x hp => ⟨0, 1, eMul x.1 x.2 hp.1 hp.2⟩
/-! ### Len64 -/
theorem tab_at {n : Int} (h0 : 0 ≤ n) (h : n < 256) : strAt ⟨#[0, 1, 2, 2, 3, 3, 3, 3, 4, 4, 4, 4, 4, 4, 4, 4, 5, 5, 5, 5, 5, 5, 5, 5, 5, 5, 5, 5, 5, 5, 5, 5, 6, 6, 6, 6, 6, 6, 6, 6, 6, 6, 6, 6, 6, 6, 6, 6, 6, 6, 6, 6, 6, 6, 6, 6, 6, 6, 6, 6, 6, 6, 6, 6, 7, 7, 7, 7, 7, 7, 7, 7, 7, 7, 7, 7, 7, 7, 7, 7, 7, 7, 7, 7, 7, 7, 7, 7, 7, 7, 7, 7, 7, 7, 7, 7, 7, 7, 7, 7, 7, 7, 7, 7, 7, 7, 7, 7, 7, 7, 7, 7, 7, 7, 7, 7, 7, 7, 7, 7, 7, 7, 7, 7, 7, 7, 7, 7, 8, 8, 8, 8, 8, 8, 8, 8, 8, 8, 8, 8, 8, 8, 8, 8, 8, 8, 8, 8, 8, 8, 8, 8, 8, 8, 8, 8, 8, 8, 8, 8, 8, 8, 8, 8, 8, 8, 8, 8, 8, 8, 8, 8, 8, 8, 8, 8, 8, 8, 8, 8, 8, 8, 8, 8, 8, 8, 8, 8, 8, 8, 8, 8, 8, 8, 8, 8, 8, 8, 8, 8, 8, 8, 8, 8, 8, 8, 8, 8, 8, 8, 8, 8, 8, 8, 8, 8, 8, 8, 8, 8, 8, 8, 8, 8, 8, 8, 8, 8, 8, 8, 8, 8, 8, 8, 8, 8, 8, 8, 8, 8, 8, 8, 8, 8, 8, 8, 8, 8, 8, 8, 8, 8, 8, 8, 8, 8]⟩ n = some (.d (.int .u8 (bitLen n.toNat))) := by
  have hs : n.toNat < (⟨#[0, 1, 2, 2, 3, 3, 3, 3, 4, 4, 4, 4, 4, 4, 4, 4, 5, 5, 5, 5, 5, 5, 5, 5, 5, 5, 5, 5, 5, 5, 5, 5, 6, 6, 6, 6, 6, 6, 6, 6, 6, 6, 6, 6, 6, 6, 6, 6, 6, 6, 6, 6, 6, 6, 6, 6, 6, 6, 6, 6, 6, 6, 6, 6, 7, 7, 7, 7, 7, 7, 7, 7, 7, 7, 7, 7, 7, 7, 7, 7, 7, 7, 7, 7, 7, 7, 7, 7, 7, 7, 7, 7, 7, 7, 7, 7, 7, 7, 7, 7, 7, 7, 7, 7, 7, 7, 7, 7, 7, 7, 7, 7, 7, 7, 7, 7, 7, 7, 7, 7, 7, 7, 7, 7, 7, 7, 7, 7, 8, 8, 8, 8, 8, 8, 8, 8, 8, 8, 8, 8, 8, 8, 8, 8, 8, 8, 8, 8, 8, 8, 8, 8, 8, 8, 8, 8, 8, 8, 8, 8, 8, 8, 8, 8, 8, 8, 8, 8, 8, 8, 8, 8, 8, 8, 8, 8, 8, 8, 8, 8, 8, 8, 8, 8, 8, 8, 8, 8, 8, 8, 8, 8, 8, 8, 8, 8, 8, 8, 8, 8, 8, 8, 8, 8, 8, 8, 8, 8, 8, 8, 8, 8, 8, 8, 8, 8, 8, 8, 8, 8, 8, 8, 8, 8, 8, 8, 8, 8, 8, 8, 8, 8, 8, 8, 8, 8, 8, 8, 8, 8, 8, 8, 8, 8, 8, 8, 8, 8, 8, 8, 8, 8, 8, 8, 8, 8]⟩ : ByteArray).size := by
    show n.toNat < 256; omega
  have ht := len8tab_get n.toNat hs
  unfold strAt
  rw [if_pos h0, ByteArray.getElem?_lt' _ _ hs]
  simp only [ht]
theorem bl_shift {x : Int} (b : Nat) (p : Int) (hp : p = ((2 ^ b : Nat) : Int)) (h0 : 0 ≤ x) (h : p ≤ x) : (bitLen x.toNat : Int) = b + bitLen (x / p).toNat := by
  subst hp
  obtain ⟨n, rfl⟩ := Int.eq_ofNat_of_zero_le h0
  have hp : 0 < 2 ^ b := Nat.two_pow_pos b
  have hle : 2 ^ b ≤ n := by exact_mod_cast h
  have hd : n / 2 ^ b ≠ 0 := by
    have := Nat.div_pos hle hp
    omega
  have e : ((n : Int) / ((2 ^ b : Nat) : Int)).toNat = n / 2 ^ b := by rw [← Int.natCast_ediv, Int.toNat_natCast]
  rw [e, Int.toNat_natCast, bitLen_shift n b hd]
  simp
def lenR (x : Int) : V := .d (.int .i64 (bitLen x.toNat))
theorem eLen (x : Int) (hx : U x) (st : Store) (lv L : Nat) (c : Nat) : evF Try.prog [] T1 L (c + 1) 225 [.d (.int .u64 x)] lv st = some (lenR x, st) := by
  rw [evF_s (fn := Try.f225) (msk := en225.ms) (hT := by rfl) (hb := by rfl)]
  obtain ⟨h0, h1⟩ := hx
  have d0 : 0 ≤ x ∧ x < 18446744073709551616 := ⟨h0, h1⟩
  by_cases a1 : x ≥ 4294967296
  · have b1 := bl_shift 32 4294967296 (by decide) d0.1 a1
    have d1 : 0 ≤ x / 4294967296 ∧ x / 4294967296 < 4294967296 := by omega
    generalize hy : x / 4294967296 = y at *
    by_cases a2 : y ≥ 65536
    · have b2 := bl_shift 16 65536 (by decide) d1.1 a2
      have d2 : 0 ≤ y / 65536 ∧ y / 65536 < 65536 := by omega
      generalize hz : y / 65536 = z at *
      by_cases a3 : z ≥ 256
      · have b3 := bl_shift 8 256 (by decide) d2.1 a3
        have d3 : 0 ≤ z / 256 ∧ z / 256 < 256 := by omega
        generalize ht : z / 256 = t at *
        have s2 : shrI .u64 y 16 = y / 65536 := shr_lit .u64 y 16 (by decide)
        have s3 : shrI .u64 z 8 = z / 256 := shr_lit .u64 z 8 (by decide)
        have w8 : IntKind.u8.wrap t = t := by rw [IntKind.wrap_u8]; omega
        have hb := bitLen_le8 t.toNat (by omega)
        have wl : IntKind.i64.wrap (bitLen t.toNat : Int) = bitLen t.toNat := by rw [wi]; omega
        have wt : IntKind.i64.wrap (56 + (bitLen t.toNat : Int)) = bitLen x.toNat := by rw [wi]; omega
        simp only [Try.f225, go_sem, Nat.reduceAdd, Nat.reduceSub, Nat.reduceMul, Nat.reduceEqDiff, Nat.reduceBEq, Nat.reduceLT, Nat.reduceLeDiff, Nat.reducePow, Int.reduceToNat, Int.reduceLT, Int.reduceLE, Int.reduceGT, Int.reduceGE, Int.reduceEq, Int.reduceNeg, Int.reduceAdd, Int.reduceSub, ↓reduceIte, reduceCtorEq, a1, shr32, hy, a2, s2, hz, a3, s3, ht, w8, tab_at d3.1 d3.2, wl, wt, lenR]
      · have d3 : 0 ≤ z ∧ z < 256 := by omega
        have e3 : z = z := rfl
        have s2 : shrI .u64 y 16 = y / 65536 := shr_lit .u64 y 16 (by decide)
        have s3 : shrI .u64 z 8 = z / 256 := shr_lit .u64 z 8 (by decide)
        have w8 : IntKind.u8.wrap z = z := by rw [IntKind.wrap_u8]; omega
        have hb := bitLen_le8 z.toNat (by omega)
        have wl : IntKind.i64.wrap (bitLen z.toNat : Int) = bitLen z.toNat := by rw [wi]; omega
        have wt : IntKind.i64.wrap (48 + (bitLen z.toNat : Int)) = bitLen x.toNat := by rw [wi]; omega
        simp only [Try.f225, go_sem, Nat.reduceAdd, Nat.reduceSub, Nat.reduceMul, Nat.reduceEqDiff, Nat.reduceBEq, Nat.reduceLT, Nat.reduceLeDiff, Nat.reducePow, Int.reduceToNat, Int.reduceLT, Int.reduceLE, Int.reduceGT, Int.reduceGE, Int.reduceEq, Int.reduceNeg, Int.reduceAdd, Int.reduceSub, ↓reduceIte, reduceCtorEq, a1, shr32, hy, a2, s2, hz, a3, s3,  w8, tab_at d3.1 d3.2, wl, wt, lenR]
    · have d2 : 0 ≤ y ∧ y < 65536 := by omega
      have e2 : y = y := rfl
      by_cases a3 : y ≥ 256
      · have b3 := bl_shift 8 256 (by decide) d2.1 a3
        have d3 : 0 ≤ y / 256 ∧ y / 256 < 256 := by omega
        generalize ht : y / 256 = t at *
        have s2 : shrI .u64 y 16 = y / 65536 := shr_lit .u64 y 16 (by decide)
        have s3 : shrI .u64 y 8 = y / 256 := shr_lit .u64 y 8 (by decide)
        have w8 : IntKind.u8.wrap t = t := by rw [IntKind.wrap_u8]; omega
        have hb := bitLen_le8 t.toNat (by omega)
        have wl : IntKind.i64.wrap (bitLen t.toNat : Int) = bitLen t.toNat := by rw [wi]; omega
        have wt : IntKind.i64.wrap (40 + (bitLen t.toNat : Int)) = bitLen x.toNat := by rw [wi]; omega
        simp only [Try.f225, go_sem, Nat.reduceAdd, Nat.reduceSub, Nat.reduceMul, Nat.reduceEqDiff, Nat.reduceBEq, Nat.reduceLT, Nat.reduceLeDiff, Nat.reducePow, Int.reduceToNat, Int.reduceLT, Int.reduceLE, Int.reduceGT, Int.reduceGE, Int.reduceEq, Int.reduceNeg, Int.reduceAdd, Int.reduceSub, ↓reduceIte, reduceCtorEq, a1, shr32, hy, a2, s2,  a3, s3, ht, w8, tab_at d3.1 d3.2, wl, wt, lenR]
      · have d3 : 0 ≤ y ∧ y < 256 := by omega
        have e3 : y = y := rfl
        have s2 : shrI .u64 y 16 = y / 65536 := shr_lit .u64 y 16 (by decide)
        have s3 : shrI .u64 y 8 = y / 256 := shr_lit .u64 y 8 (by decide)
        have w8 : IntKind.u8.wrap y = y := by rw [IntKind.wrap_u8]; omega
        have hb := bitLen_le8 y.toNat (by omega)
        have wl : IntKind.i64.wrap (bitLen y.toNat : Int) = bitLen y.toNat := by rw [wi]; omega
        have wt : IntKind.i64.wrap (32 + (bitLen y.toNat : Int)) = bitLen x.toNat := by rw [wi]; omega
        simp only [Try.f225, go_sem, Nat.reduceAdd, Nat.reduceSub, Nat.reduceMul, Nat.reduceEqDiff, Nat.reduceBEq, Nat.reduceLT, Nat.reduceLeDiff, Nat.reducePow, Int.reduceToNat, Int.reduceLT, Int.reduceLE, Int.reduceGT, Int.reduceGE, Int.reduceEq, Int.reduceNeg, Int.reduceAdd, Int.reduceSub, ↓reduceIte, reduceCtorEq, a1, shr32, hy, a2, s2,  a3, s3,  w8, tab_at d3.1 d3.2, wl, wt, lenR]
  · have d1 : 0 ≤ x ∧ x < 4294967296 := by omega
    have e1 : x = x := rfl
    by_cases a2 : x ≥ 65536
    · have b2 := bl_shift 16 65536 (by decide) d1.1 a2
      have d2 : 0 ≤ x / 65536 ∧ x / 65536 < 65536 := by omega
      generalize hz : x / 65536 = z at *
      by_cases a3 : z ≥ 256
      · have b3 := bl_shift 8 256 (by decide) d2.1 a3
        have d3 : 0 ≤ z / 256 ∧ z / 256 < 256 := by omega
        generalize ht : z / 256 = t at *
        have s2 : shrI .u64 x 16 = x / 65536 := shr_lit .u64 x 16 (by decide)
        have s3 : shrI .u64 z 8 = z / 256 := shr_lit .u64 z 8 (by decide)
        have w8 : IntKind.u8.wrap t = t := by rw [IntKind.wrap_u8]; omega
        have hb := bitLen_le8 t.toNat (by omega)
        have wl : IntKind.i64.wrap (bitLen t.toNat : Int) = bitLen t.toNat := by rw [wi]; omega
        have wt : IntKind.i64.wrap (24 + (bitLen t.toNat : Int)) = bitLen x.toNat := by rw [wi]; omega
        simp only [Try.f225, go_sem, Nat.reduceAdd, Nat.reduceSub, Nat.reduceMul, Nat.reduceEqDiff, Nat.reduceBEq, Nat.reduceLT, Nat.reduceLeDiff, Nat.reducePow, Int.reduceToNat, Int.reduceLT, Int.reduceLE, Int.reduceGT, Int.reduceGE, Int.reduceEq, Int.reduceNeg, Int.reduceAdd, Int.reduceSub, ↓reduceIte, reduceCtorEq, a1, shr32,  a2, s2, hz, a3, s3, ht, w8, tab_at d3.1 d3.2, wl, wt, lenR]
      · have d3 : 0 ≤ z ∧ z < 256 := by omega
        have e3 : z = z := rfl
        have s2 : shrI .u64 x 16 = x / 65536 := shr_lit .u64 x 16 (by decide)
        have s3 : shrI .u64 z 8 = z / 256 := shr_lit .u64 z 8 (by decide)
        have w8 : IntKind.u8.wrap z = z := by rw [IntKind.wrap_u8]; omega
        have hb := bitLen_le8 z.toNat (by omega)
        have wl : IntKind.i64.wrap (bitLen z.toNat : Int) = bitLen z.toNat := by rw [wi]; omega
        have wt : IntKind.i64.wrap (16 + (bitLen z.toNat : Int)) = bitLen x.toNat := by rw [wi]; omega
        simp only [Try.f225, go_sem, Nat.reduceAdd, Nat.reduceSub, Nat.reduceMul, Nat.reduceEqDiff, Nat.reduceBEq, Nat.reduceLT, Nat.reduceLeDiff, Nat.reducePow, Int.reduceToNat, Int.reduceLT, Int.reduceLE, Int.reduceGT, Int.reduceGE, Int.reduceEq, Int.reduceNeg, Int.reduceAdd, Int.reduceSub, ↓reduceIte, reduceCtorEq, a1, shr32,  a2, s2, hz, a3, s3,  w8, tab_at d3.1 d3.2, wl, wt, lenR]
    · have d2 : 0 ≤ x ∧ x < 65536 := by omega
      have e2 : x = x := rfl
      by_cases a3 : x ≥ 256
      · have b3 := bl_shift 8 256 (by decide) d2.1 a3
        have d3 : 0 ≤ x / 256 ∧ x / 256 < 256 := by omega
        generalize ht : x / 256 = t at *
        have s2 : shrI .u64 x 16 = x / 65536 := shr_lit .u64 x 16 (by decide)
        have s3 : shrI .u64 x 8 = x / 256 := shr_lit .u64 x 8 (by decide)
        have w8 : IntKind.u8.wrap t = t := by rw [IntKind.wrap_u8]; omega
        have hb := bitLen_le8 t.toNat (by omega)
        have wl : IntKind.i64.wrap (bitLen t.toNat : Int) = bitLen t.toNat := by rw [wi]; omega
        have wt : IntKind.i64.wrap (8 + (bitLen t.toNat : Int)) = bitLen x.toNat := by rw [wi]; omega
        simp only [Try.f225, go_sem, Nat.reduceAdd, Nat.reduceSub, Nat.reduceMul, Nat.reduceEqDiff, Nat.reduceBEq, Nat.reduceLT, Nat.reduceLeDiff, Nat.reducePow, Int.reduceToNat, Int.reduceLT, Int.reduceLE, Int.reduceGT, Int.reduceGE, Int.reduceEq, Int.reduceNeg, Int.reduceAdd, Int.reduceSub, ↓reduceIte, reduceCtorEq, a1, shr32,  a2, s2,  a3, s3, ht, w8, tab_at d3.1 d3.2, wl, wt, lenR]
      · have d3 : 0 ≤ x ∧ x < 256 := by omega
        have e3 : x = x := rfl
        have s2 : shrI .u64 x 16 = x / 65536 := shr_lit .u64 x 16 (by decide)
        have s3 : shrI .u64 x 8 = x / 256 := shr_lit .u64 x 8 (by decide)
        have w8 : IntKind.u8.wrap x = x := by rw [IntKind.wrap_u8]; omega
        have hb := bitLen_le8 x.toNat (by omega)
        have wl : IntKind.i64.wrap (bitLen x.toNat : Int) = bitLen x.toNat := by rw [wi]; omega
        have wt : IntKind.i64.wrap (0 + (bitLen x.toNat : Int)) = bitLen x.toNat := by rw [wi]; omega
        have wz : IntKind.i64.wrap (0 + (bitLen x.toNat : Int)) = bitLen x.toNat := wt
        simp only [Try.f225, go_sem, Nat.reduceAdd, Nat.reduceSub, Nat.reduceMul, Nat.reduceEqDiff, Nat.reduceBEq, Nat.reduceLT, Nat.reduceLeDiff, Nat.reducePow, Int.reduceToNat, Int.reduceLT, Int.reduceLE, Int.reduceGT, Int.reduceGE, Int.reduceEq, Int.reduceNeg, Int.reduceAdd, Int.reduceSub, ↓reduceIte, reduceCtorEq, a1, shr32,  a2, s2,  a3, s3,  w8, tab_at d3.1 d3.2, wl, wt, lenR]
/-! ### LeadingZeros64 -/
noncomputable def sLz : Ev.Spec := specC (c1 .u64) U fun x => [.int .i64 (64 - bitLen x.toNat)]
theorem sLz_run (x : Int) (hx : U x) : sLz.run [.int .u64 x] = some [.int .i64 (64 - bitLen x.toNat)] := specC_run (c1 .u64) _ _ x hx
theorem bl_le {x : Int} (hx : U x) : bitLen x.toNat ≤ 64 := by
  obtain ⟨h0, h1⟩ := hx
  by_cases h : x.toNat = 0
  · rw [h]; decide
  · obtain ⟨a, b⟩ := bitLen_spec x.toNat
    refine Nat.le_of_not_lt fun hc => ?_
    have := b h
    have : 2 ^ 64 ≤ 2 ^ (bitLen x.toNat - 1) := Nat.pow_le_pow_right (by decide) (by omega)
    have : (2 : Nat) ^ 64 = 18446744073709551616 := by decide
    omega
theorem eLz (x : Int) (hx : U x) : evTop Try.prog [] T1 0 2 244 [.int .u64 x] = some [.int .i64 (64 - bitLen x.toNat)] := by
  unfold evTop
  simp only [List.map]
  rw [evF_s (fn := Try.f244) (msk := en244.ms) (hT := by rfl) (hb := by rfl)]
  have hb := bl_le hx
  have w : IntKind.i64.wrap (64 - (bitLen x.toNat : Int)) = 64 - bitLen x.toNat := by rw [wi]; omega
  simp only [Try.f244, go_sem, Nat.reduceAdd, Nat.reduceSub, Nat.reduceMul, Nat.reduceEqDiff, Nat.reduceBEq, Nat.reduceLT, Nat.reduceLeDiff, Nat.reducePow, Int.reduceToNat, Int.reduceLT, Int.reduceLE, Int.reduceGT, Int.reduceGE, Int.reduceEq, Int.reduceNeg, Int.reduceAdd, Int.reduceSub, ↓reduceIte, reduceCtorEq, eLen x hx, lenR, w]
theorem sLz_ok : SpecOk Try.prog 244 sLz := specC_ok mixed specs_nil T1_ok fun x hp => ⟨0, 2, eLz x hp⟩
#print axioms sLz_ok
#print axioms sAdd_ok
#print axioms sMul_ok
end Go.Proofs.Ytnojehmbiceceaa.Num1Num
end
section
set_option linter.unusedVariables false
set_option linter.unusedSimpArgs false
set_option maxRecDepth 100000
namespace Go.Proofs.Ytnojehmbiceceaa.Num2Num
open Go.Ev Go.Ari Go.Proofs.Ytnojehmbiceceaa.FxNum Go.Proofs.Ytnojehmbiceceaa.Num1Num
attribute [local go_sem] Ev.putR_s Ev.putR_0 Ev.thenO_s Ev.thenO_0 Ev.seqR_n Ev.seqR_e Ev.seqR_r Ev.seqR_0 Ev.blkR_e Ev.blkR_n Ev.blkR_r Ev.blkR_0 Ev.normR_s Ev.normR_0 Ev.outR_r Ev.outR_n Ev.outR_0 Ev.retS_s Ev.retS_0 Ev.pureO_s Ev.pureO_0 Ev.topR_0 Ev.topR_t Ev.topR_t0 Ev.oneL_0 Ev.oneL_s Ev.topR_d Ev.topR_nils Ev.topR_agg Ev.topR_rs Ev.evOp_move Ev.evOp_assign Ev.evOp_pick Ev.evOp_alloc Ev.evOp_box Ev.evOp_build Ev.evOp_buildSlice Ev.evOp_load Ev.evOp_store Ev.evOp_makeMap Ev.evOp_lookup Ev.evOp_mapUpdate Ev.evOp_insert Ev.evOp_nilCheck Ev.evOp_binOp Ev.evOp_unOp Ev.evOp_convert Ev.evOp_makeFunc Ev.evOp_makeSlice Ev.evOp_slice Ev.evOp_fieldAddr Ev.evOp_field Ev.evOp_indexAddr Ev.evOp_index Ev.evOp_extract Ev.evOp_call Ev.evOp_append Ev.evOp_clear Ev.evOp_len Ev.evOp_min Ev.evOp_max Ev.condR_b Ev.condR_t Ev.evOps_nil Ev.evOps_plain Ev.evOps_guard Ev.runG_eq Ev.skipG_eq Ev.condL_tt Ev.condL_ff Ev.condL_tf Ev.condL_ft Ev.condL_u Ev.condC_t Ev.condC_f Ev.evC_skip Ev.evC_ret Ev.evC_exit Ev.evC_label Ev.evC_region Ev.evC_draw Ev.evC_seq Ev.evC_cond Ev.evC_block Ev.evC_loop Ev.fin_d Ev.fin_nils Ev.fin_agg_ Ev.fin_rs Ev.finS_s Ev.mapO_fin Ev.upd_upd Ev.argv_d Ev.argv_nils Ev.argv_agg Ev.argv_rs Ev.argv_p Ev.fk_low Ev.appendTo_nils Ev.appendTo_rs Ev.consV_d Ev.consV_agg Ev.consV_p Ev.consV_rs Ev.consV_nils Ev.consV_fn Ev.consV_und Ev.consV_jk Ev.consV_grown Ev.topR_grown Ev.len_grown Ev.consV_mp Ev.sameK_i Ev.sameK_s Ev.mget_0 Ev.mget_hit Ev.mget_miss Ev.mput_0 Ev.mput_hit Ev.mput_miss Ev.apartAll Ev.apartL Ev.apartV Ev.freeAll Ev.sel Ev.keyOfV Ev.evLookup Ev.evPut Ev.hintOk Ev.keyOk Ev.consP Ev.lookV Ev.guardV Ev.dstAt Ev.evPure Ev.evStore Ev.evPureB Ev.evBin Ev.evBinO Ev.evNil Ev.isNilC Ev.evUn Ev.evConv Ev.evSlice Ev.optI Ev.lenV Ev.elemT Ev.foldI Ev.capsOk Ev.noTup Ev.nth Ev.setN Ev.killAt Ev.pad Ev.V.get Ev.V.put Ev.putD Ev.hasT Ev.newBlk Ev.upd Ev.keq Ev.empty Ev.evCall Ev.V.args Ev.argP Ev.callOf Ev.evNilP Ev.isNilP Ev.look Ev.V.view.views Ev.V.view Ev.V.toD Ev.V.toD.V.toDs Ev.V.pure.pures Ev.V.pure Ev.D.flat.flats Ev.D.flat Ev.mkAgg Ev.allD Ev.aggParts Ev.setParts Ev.setElems Ev.getPath Ev.setPath Ev.subL Ev.eqD Ev.eqD.eqDs Ev.and2 Ev.strCut Ev.evalT Ev.constT Ev.evArgs Ev.mask Ev.maskOf Ev.tableOf Ev.compT Ev.resV Ev.retV Ev.mapO Ev.elemsOf Int.cast_ofNat_Int IntWalk.i64_in IntWalk.u64_in IntWalk.u8_in beq_self_eq_true Bool.true_beq Bool.false_beq Bool.and_true Bool.true_and Bool.false_and Bool.and_false Bool.and_self Bool.not_true Bool.not_false Bool.not_eq_true cond_true cond_false if_true if_false and_true true_and and_self decide_true decide_false Bool.or_true Bool.true_or Bool.or_false Bool.false_or List.isEmpty List.isEmpty_nil List.size_toArray List.map List.length_map List.length_cons List.length_nil Option.map Option.bind Option.getD Option.isSome List.replicate Bool.false_eq_true implies_true false_implies forall_const Array.toList Array.isEmpty List.append List.nil_append List.cons_append List.drop_zero List.take_length List.take_succ_cons List.take_zero List.take_nil List.getElem?_map List.getElem?_cons_zero List.getElem?_cons_succ List.getElem?_nil List.append_nil
attribute [local go_sem] FxNum.tk2 FxNum.ik2 FxNum.zv2 FxNum.tk3 FxNum.ik3 FxNum.zv3 FxNum.tk4 FxNum.ub4 FxNum.zv4 FxNum.tk5 FxNum.ik5 FxNum.zv5 FxNum.tk9 FxNum.ek9 FxNum.tk27 FxNum.ik27 FxNum.zv27 FxNum.tk133 FxNum.ik133 FxNum.zv133 FxNum.tk147 FxNum.ik147 FxNum.zv147 FxNum.tk176 FxNum.ct176 FxNum.zv176 FxNum.tk295 FxNum.mk66_1000000 FxNum.mk86_1000000 FxNum.mk87_1000000 FxNum.mk109_0 FxNum.mk109_1000001 FxNum.mk109_1000002 FxNum.mk109_1000000 FxNum.fi109_0 FxNum.mk110_1000000 FxNum.mk118_0 FxNum.mk118_1000001 FxNum.mk118_1000002 FxNum.mk118_1000000 FxNum.fi118_0 FxNum.mk150_1000001 FxNum.mk150_1000000 FxNum.mk171_0 FxNum.mk171_1000001 FxNum.mk171_1000002 FxNum.mk171_1000000 FxNum.fi171_0 FxNum.mk172_1000000 FxNum.mk182_1000000 FxNum.mk183_1000000 FxNum.dw203_6 FxNum.kl203_6 FxNum.nc203_6 FxNum.mk203_0 FxNum.mk203_2 FxNum.mk203_1000001 FxNum.mk203_1000002 FxNum.mk203_1000003 FxNum.mk203_1000004 FxNum.mk203_1000000 FxNum.fi203_0 FxNum.fi203_2 FxNum.mk225_1000000 FxNum.mk244_1000000
noncomputable def G2 : Specs := [(244, sLz)]
noncomputable def T2 : Table := tableOf [(203, en203)]
theorem G2_ok : ∀ g s, Ev.look G2 g = some s → SpecOk Try.prog g s := specs_cons sLz_ok specs_nil
theorem T2_ok : TableOk Try.prog (G2.map (·.1)) T2 := (table_cons Try.func203 (by kernel_rfl) (by kernel_rfl) table_nil)
abbrev u (x : Int) : V := .d (.int .u64 x)

def hd0 (y s y1 y0 U u1 u0 : Int) (x : Int × Int) : List V := hd203_0 (u y) (u s) (u y1) (u y0) (u U) (u u1) (u u0) (u x.1) (u x.2)
theorem loop0 (L : Nat) (call : Caller) (st : Store) (y s y1 y0 U u1 u0 : Int) (hU0 : 0 ≤ U) (hU : U < y1 * 4294967296 + y0) (hy1 : 2147483648 ≤ y1) (hy2 : y1 < 4294967296) (hy0 : 0 ≤ y0) (hy3 : y0 < 4294967296) (hu0 : 0 ≤ u1) (hu : u1 < 4294967296) :
    ∀ (m : Nat) (x : Int × Int) (env : List V), (0 ≤ x.1 ∧ x.1 ≤ 4294967297 ∧ (U * 4294967296 + u1) / (y1 * 4294967296 + y0) ≤ x.1 ∧ x.2 = U - x.1 * y1 ∧ 0 ≤ x.2 ∧ x.2 < 4294967296) → (if x.2 < 2147483648 then 1 else 0) < m → mask (maskOf en203.ms 0) env = hd0 y s y1 y0 U u1 u0 x →
      iter (evC Try.prog G2 call L en203.ms 0 0 lb203_0) (maskOf en203.ms 0) m env st = some (.exit 0, hx203_0 (u y) (u s) (u y1) (u y0) (u U) (u u1) (u u0) (u ((U * 4294967296 + u1) / (y1 * 4294967296 + y0))), st) := by
  refine iter_wf _ _ _ (hd0 y s y1 y0 U u1 u0) (fun _ => st) (fun _ => some (.exit 0, hx203_0 (u y) (u s) (u y1) (u y0) (u U) (u u1) (u u0) (u ((U * 4294967296 + u1) / (y1 * 4294967296 + y0))), st)) (fun x => if x.2 < 2147483648 then 1 else 0) ?_
  rintro ⟨q, r⟩ ⟨i1, i2, i3, i4, i5, i6⟩ k hk
  simp only at i1 i2 i3 i4 i5 i6
  have hp : 0 < y1 * 4294967296 + y0 := by omega
  have hd := (below_top hU hu hU0 hu0 hp).1
  have b1 : q * y0 ≤ 4294967297 * 4294967295 := Int.mul_le_mul i2 (by omega) hy0 (by omega)
  have b0 : 0 ≤ q * y0 := Int.mul_nonneg i1 hy0
  have w1 : IntKind.u64.wrap (q * y0) = q * y0 := wu_in b0 (by omega)
  have w2 : IntKind.u64.wrap (4294967296 * r) = 4294967296 * r := wu_in (by omega) (by omega)
  have w3 : IntKind.u64.wrap (4294967296 * r + u1) = 4294967296 * r + u1 := wu_in (by omega) (by omega)
  have w5 : IntKind.u64.wrap (r + y1) = r + y1 := wu_in (by omega) (by omega)
  by_cases hc : 4294967296 ≤ q ∨ 4294967296 * r + u1 < q * y0
  · have dn := digit_down i4 hU hu hU0 hu0 hp hc
    have w4 : IntKind.u64.wrap (q - 1) = q - 1 := wu_in (by omega) (by omega)
    have i4' : r + y1 = U - (q - 1) * y1 := by rw [Int.sub_mul, Int.one_mul]; omega
    by_cases hb : r + y1 ≥ 4294967296
    · have de := digit_break i4' hp dn hb (by omega) (by omega) hy3 hy0 hu0
      rw [← de]
      by_cases c1 : q ≥ 4294967296
      · simp only [lb203_0, loopN, loops, hd0, hd203_0, hx203_0, Try.f203, go_sem, Nat.reduceAdd, Nat.reduceSub, Nat.reduceMul, Nat.reduceEqDiff, Nat.reduceBEq, Nat.reduceLT, Nat.reduceLeDiff, Nat.reducePow, Int.reduceToNat, Int.reduceLT, Int.reduceLE, Int.reduceGT, Int.reduceGE, Int.reduceEq, Int.reduceNeg, Int.reduceAdd, Int.reduceSub, ↓reduceIte, reduceCtorEq, c1, w1, w2, w3, w4, w5, hb]
      · have c2 : q * y0 > 4294967296 * r + u1 := by omega
        simp only [lb203_0, loopN, loops, hd0, hd203_0, hx203_0, Try.f203, go_sem, Nat.reduceAdd, Nat.reduceSub, Nat.reduceMul, Nat.reduceEqDiff, Nat.reduceBEq, Nat.reduceLT, Nat.reduceLeDiff, Nat.reducePow, Int.reduceToNat, Int.reduceLT, Int.reduceLE, Int.reduceGT, Int.reduceGE, Int.reduceEq, Int.reduceNeg, Int.reduceAdd, Int.reduceSub, ↓reduceIte, reduceCtorEq, c1, c2, w1, w2, w3, w4, w5, hb]
    · have hn := hk (q - 1, r + y1)
      have hI : (0 ≤ q - 1 ∧ q - 1 ≤ 4294967297 ∧ (U * 4294967296 + u1) / (y1 * 4294967296 + y0) ≤ q - 1 ∧ r + y1 = U - (q - 1) * y1 ∧ 0 ≤ r + y1 ∧ r + y1 < 4294967296) := ⟨by omega, by omega, dn, i4', by omega, by omega⟩
      have hm : (if r + y1 < 2147483648 then 1 else 0) < (if r < 2147483648 then 1 else 0) := by
        have e1 : ¬ r + y1 < 2147483648 := by omega
        have e2 : r < 2147483648 := by omega
        rw [if_neg e1, if_pos e2]; omega
      by_cases c1 : q ≥ 4294967296
      · simp only [lb203_0, loopN, loops, hd0, hd203_0, hx203_0, Try.f203, go_sem, Nat.reduceAdd, Nat.reduceSub, Nat.reduceMul, Nat.reduceEqDiff, Nat.reduceBEq, Nat.reduceLT, Nat.reduceLeDiff, Nat.reducePow, Int.reduceToNat, Int.reduceLT, Int.reduceLE, Int.reduceGT, Int.reduceGE, Int.reduceEq, Int.reduceNeg, Int.reduceAdd, Int.reduceSub, ↓reduceIte, reduceCtorEq, c1, w1, w2, w3, w4, w5, hb]
        exact hn _ hI hm (by simp only [hd0, hd203_0, go_sem, Nat.reduceAdd, Nat.reduceSub, Nat.reduceMul, Nat.reduceEqDiff, Nat.reduceBEq, Nat.reduceLT, Nat.reduceLeDiff, Nat.reducePow, Int.reduceToNat, Int.reduceLT, Int.reduceLE, Int.reduceGT, Int.reduceGE, Int.reduceEq, Int.reduceNeg, Int.reduceAdd, Int.reduceSub, ↓reduceIte, reduceCtorEq])
      · have c2 : q * y0 > 4294967296 * r + u1 := by omega
        simp only [lb203_0, loopN, loops, hd0, hd203_0, hx203_0, Try.f203, go_sem, Nat.reduceAdd, Nat.reduceSub, Nat.reduceMul, Nat.reduceEqDiff, Nat.reduceBEq, Nat.reduceLT, Nat.reduceLeDiff, Nat.reducePow, Int.reduceToNat, Int.reduceLT, Int.reduceLE, Int.reduceGT, Int.reduceGE, Int.reduceEq, Int.reduceNeg, Int.reduceAdd, Int.reduceSub, ↓reduceIte, reduceCtorEq, c1, c2, w1, w2, w3, w4, w5, hb]
        exact hn _ hI hm (by simp only [hd0, hd203_0, go_sem, Nat.reduceAdd, Nat.reduceSub, Nat.reduceMul, Nat.reduceEqDiff, Nat.reduceBEq, Nat.reduceLT, Nat.reduceLeDiff, Nat.reducePow, Int.reduceToNat, Int.reduceLT, Int.reduceLE, Int.reduceGT, Int.reduceGE, Int.reduceEq, Int.reduceNeg, Int.reduceAdd, Int.reduceSub, ↓reduceIte, reduceCtorEq])
  · have de := digit_done i4 hp i3 (by omega)
    have c1 : ¬ q ≥ 4294967296 := by omega
    have c2 : ¬ q * y0 > 4294967296 * r + u1 := by omega
    rw [← de]
    simp only [lb203_0, loopN, loops, hd0, hd203_0, hx203_0, Try.f203, go_sem, Nat.reduceAdd, Nat.reduceSub, Nat.reduceMul, Nat.reduceEqDiff, Nat.reduceBEq, Nat.reduceLT, Nat.reduceLeDiff, Nat.reducePow, Int.reduceToNat, Int.reduceLT, Int.reduceLE, Int.reduceGT, Int.reduceGE, Int.reduceEq, Int.reduceNeg, Int.reduceAdd, Int.reduceSub, ↓reduceIte, reduceCtorEq, c1, c2, w1, w2, w3, w5]

def hd2 (y s y1 y0 u0 p U : Int) (x : Int × Int) : List V := hd203_2 (u y) (u s) (u y1) (u y0) (u u0) (u p) (u x.2) (u U) (u x.1)
theorem loop2 (L : Nat) (call : Caller) (st : Store) (y s y1 y0 u0 p U : Int) (hU0 : 0 ≤ U) (hU : U < y1 * 4294967296 + y0) (hy1 : 2147483648 ≤ y1) (hy2 : y1 < 4294967296) (hy0 : 0 ≤ y0) (hy3 : y0 < 4294967296) (hu0 : 0 ≤ u0) (hu : u0 < 4294967296) :
    ∀ (m : Nat) (x : Int × Int) (env : List V), (0 ≤ x.1 ∧ x.1 ≤ 4294967297 ∧ (U * 4294967296 + u0) / (y1 * 4294967296 + y0) ≤ x.1 ∧ x.2 = U - x.1 * y1 ∧ 0 ≤ x.2 ∧ x.2 < 4294967296) → (if x.2 < 2147483648 then 1 else 0) < m → mask (maskOf en203.ms 2) env = hd2 y s y1 y0 u0 p U x →
      iter (evC Try.prog G2 call L en203.ms 0 2 lb203_2) (maskOf en203.ms 2) m env st = some (.exit 2, hx203_2 (u y) (u s) (u u0) (u p) (u U) (u ((U * 4294967296 + u0) / (y1 * 4294967296 + y0))), st) := by
  refine iter_wf _ _ _ (hd2 y s y1 y0 u0 p U) (fun _ => st) (fun _ => some (.exit 2, hx203_2 (u y) (u s) (u u0) (u p) (u U) (u ((U * 4294967296 + u0) / (y1 * 4294967296 + y0))), st)) (fun x => if x.2 < 2147483648 then 1 else 0) ?_
  rintro ⟨q, r⟩ ⟨i1, i2, i3, i4, i5, i6⟩ k hk
  simp only at i1 i2 i3 i4 i5 i6
  have hp : 0 < y1 * 4294967296 + y0 := by omega
  have hd := (below_top hU hu hU0 hu0 hp).1
  have b1 : q * y0 ≤ 4294967297 * 4294967295 := Int.mul_le_mul i2 (by omega) hy0 (by omega)
  have b0 : 0 ≤ q * y0 := Int.mul_nonneg i1 hy0
  have w1 : IntKind.u64.wrap (q * y0) = q * y0 := wu_in b0 (by omega)
  have w2 : IntKind.u64.wrap (4294967296 * r) = 4294967296 * r := wu_in (by omega) (by omega)
  have w3 : IntKind.u64.wrap (4294967296 * r + u0) = 4294967296 * r + u0 := wu_in (by omega) (by omega)
  have w5 : IntKind.u64.wrap (r + y1) = r + y1 := wu_in (by omega) (by omega)
  by_cases hc : 4294967296 ≤ q ∨ 4294967296 * r + u0 < q * y0
  · have dn := digit_down i4 hU hu hU0 hu0 hp hc
    have w4 : IntKind.u64.wrap (q - 1) = q - 1 := wu_in (by omega) (by omega)
    have i4' : r + y1 = U - (q - 1) * y1 := by rw [Int.sub_mul, Int.one_mul]; omega
    by_cases hb : r + y1 ≥ 4294967296
    · have de := digit_break i4' hp dn hb (by omega) (by omega) hy3 hy0 hu0
      rw [← de]
      by_cases c1 : q ≥ 4294967296
      · simp only [lb203_2, loopN, loops, hd2, hd203_2, hx203_2, Try.f203, go_sem, Nat.reduceAdd, Nat.reduceSub, Nat.reduceMul, Nat.reduceEqDiff, Nat.reduceBEq, Nat.reduceLT, Nat.reduceLeDiff, Nat.reducePow, Int.reduceToNat, Int.reduceLT, Int.reduceLE, Int.reduceGT, Int.reduceGE, Int.reduceEq, Int.reduceNeg, Int.reduceAdd, Int.reduceSub, ↓reduceIte, reduceCtorEq, c1, w1, w2, w3, w4, w5, hb]
      · have c2 : q * y0 > 4294967296 * r + u0 := by omega
        simp only [lb203_2, loopN, loops, hd2, hd203_2, hx203_2, Try.f203, go_sem, Nat.reduceAdd, Nat.reduceSub, Nat.reduceMul, Nat.reduceEqDiff, Nat.reduceBEq, Nat.reduceLT, Nat.reduceLeDiff, Nat.reducePow, Int.reduceToNat, Int.reduceLT, Int.reduceLE, Int.reduceGT, Int.reduceGE, Int.reduceEq, Int.reduceNeg, Int.reduceAdd, Int.reduceSub, ↓reduceIte, reduceCtorEq, c1, c2, w1, w2, w3, w4, w5, hb]
    · have hn := hk (q - 1, r + y1)
      have hI : (0 ≤ q - 1 ∧ q - 1 ≤ 4294967297 ∧ (U * 4294967296 + u0) / (y1 * 4294967296 + y0) ≤ q - 1 ∧ r + y1 = U - (q - 1) * y1 ∧ 0 ≤ r + y1 ∧ r + y1 < 4294967296) := ⟨by omega, by omega, dn, i4', by omega, by omega⟩
      have hm : (if r + y1 < 2147483648 then 1 else 0) < (if r < 2147483648 then 1 else 0) := by
        have e1 : ¬ r + y1 < 2147483648 := by omega
        have e2 : r < 2147483648 := by omega
        rw [if_neg e1, if_pos e2]; omega
      by_cases c1 : q ≥ 4294967296
      · simp only [lb203_2, loopN, loops, hd2, hd203_2, hx203_2, Try.f203, go_sem, Nat.reduceAdd, Nat.reduceSub, Nat.reduceMul, Nat.reduceEqDiff, Nat.reduceBEq, Nat.reduceLT, Nat.reduceLeDiff, Nat.reducePow, Int.reduceToNat, Int.reduceLT, Int.reduceLE, Int.reduceGT, Int.reduceGE, Int.reduceEq, Int.reduceNeg, Int.reduceAdd, Int.reduceSub, ↓reduceIte, reduceCtorEq, c1, w1, w2, w3, w4, w5, hb]
        exact hn _ hI hm (by simp only [hd2, hd203_2, go_sem, Nat.reduceAdd, Nat.reduceSub, Nat.reduceMul, Nat.reduceEqDiff, Nat.reduceBEq, Nat.reduceLT, Nat.reduceLeDiff, Nat.reducePow, Int.reduceToNat, Int.reduceLT, Int.reduceLE, Int.reduceGT, Int.reduceGE, Int.reduceEq, Int.reduceNeg, Int.reduceAdd, Int.reduceSub, ↓reduceIte, reduceCtorEq])
      · have c2 : q * y0 > 4294967296 * r + u0 := by omega
        simp only [lb203_2, loopN, loops, hd2, hd203_2, hx203_2, Try.f203, go_sem, Nat.reduceAdd, Nat.reduceSub, Nat.reduceMul, Nat.reduceEqDiff, Nat.reduceBEq, Nat.reduceLT, Nat.reduceLeDiff, Nat.reducePow, Int.reduceToNat, Int.reduceLT, Int.reduceLE, Int.reduceGT, Int.reduceGE, Int.reduceEq, Int.reduceNeg, Int.reduceAdd, Int.reduceSub, ↓reduceIte, reduceCtorEq, c1, c2, w1, w2, w3, w4, w5, hb]
        exact hn _ hI hm (by simp only [hd2, hd203_2, go_sem, Nat.reduceAdd, Nat.reduceSub, Nat.reduceMul, Nat.reduceEqDiff, Nat.reduceBEq, Nat.reduceLT, Nat.reduceLeDiff, Nat.reducePow, Int.reduceToNat, Int.reduceLT, Int.reduceLE, Int.reduceGT, Int.reduceGE, Int.reduceEq, Int.reduceNeg, Int.reduceAdd, Int.reduceSub, ↓reduceIte, reduceCtorEq])
  · have de := digit_done i4 hp i3 (by omega)
    have c1 : ¬ q ≥ 4294967296 := by omega
    have c2 : ¬ q * y0 > 4294967296 * r + u0 := by omega
    rw [← de]
    simp only [lb203_2, loopN, loops, hd2, hd203_2, hx203_2, Try.f203, go_sem, Nat.reduceAdd, Nat.reduceSub, Nat.reduceMul, Nat.reduceEqDiff, Nat.reduceBEq, Nat.reduceLT, Nat.reduceLeDiff, Nat.reducePow, Int.reduceToNat, Int.reduceLT, Int.reduceLE, Int.reduceGT, Int.reduceGE, Int.reduceEq, Int.reduceNeg, Int.reduceAdd, Int.reduceSub, ↓reduceIte, reduceCtorEq, c1, c2, w1, w2, w3, w5]

noncomputable def sDiv : Ev.Spec := specC (c3 .u64) (fun x => U x.1 ∧ U x.2.1 ∧ U x.2.2 ∧ x.1 < x.2.2) fun x => [.int .u64 ((x.1 * 18446744073709551616 + x.2.1) / x.2.2), .int .u64 ((x.1 * 18446744073709551616 + x.2.1) % x.2.2)]
theorem sDiv_run (a b c : Int) (ha : U a) (hb : U b) (hc : U c) (h : a < c) : sDiv.run [.int .u64 a, .int .u64 b, .int .u64 c] = some [.int .u64 ((a * 18446744073709551616 + b) / c), .int .u64 ((a * 18446744073709551616 + b) % c)] := specC_run (c3 .u64) _ _ (a, b, c) ⟨ha, hb, hc, h⟩
/-- The divisor moved up to the top of the word. -/
theorem norm_ex {hi lo y : Int} (h0 : 0 < hi) (hlo : U lo) (hy : U y) (h : hi < y) : ∃ (k : Nat) (p r : Int), 64 - (bitLen y.toNat : Int) = k ∧ k ≤ 63 ∧ p = ((2 ^ k : Nat) : Int) ∧ r = ((2 ^ (64 - k) : Nat) : Int) ∧ p * r = 18446744073709551616 ∧ 1 ≤ p ∧ 1 ≤ r ∧
    9223372036854775808 ≤ y * p ∧ y * p < 18446744073709551616 ∧ 0 ≤ hi * p ∧ hi * p < y * p := by
  obtain ⟨y0, y1⟩ := hy
  have hbl := bl_le ⟨y0, y1⟩
  obtain ⟨a, b⟩ := bitLen_spec y.toNat
  have hne : y.toNat ≠ 0 := by omega
  have b := b hne
  have hb1 : 1 ≤ bitLen y.toNat := by
    refine Nat.le_of_not_lt fun hc => ?_
    have : bitLen y.toNat = 0 := by omega
    rw [this] at a
    omega
  refine ⟨64 - bitLen y.toNat, _, _, by omega, by omega, rfl, rfl, ?_, ?_, ?_, ?_, ?_, ?_, ?_⟩
  · rw [← Int.natCast_mul, ← Nat.pow_add, show 64 - bitLen y.toNat + (64 - (64 - bitLen y.toNat)) = 64 by omega]; rfl
  · have := Nat.two_pow_pos (64 - bitLen y.toNat); omega
  · have := Nat.two_pow_pos (64 - (64 - bitLen y.toNat)); omega
  · have e : (2 ^ (bitLen y.toNat - 1) * 2 ^ (64 - bitLen y.toNat) : Nat) = 9223372036854775808 := by
      rw [← Nat.pow_add, show bitLen y.toNat - 1 + (64 - bitLen y.toNat) = 63 by omega]
    have := Nat.mul_le_mul_right (2 ^ (64 - bitLen y.toNat)) b
    rw [e] at this
    have hc : ((y.toNat * 2 ^ (64 - bitLen y.toNat) : Nat) : Int) = y * ((2 ^ (64 - bitLen y.toNat) : Nat) : Int) := by rw [Int.natCast_mul, Int.toNat_of_nonneg y0]
    omega
  · have e : (2 ^ bitLen y.toNat * 2 ^ (64 - bitLen y.toNat) : Nat) = 18446744073709551616 := by
      rw [← Nat.pow_add, show bitLen y.toNat + (64 - bitLen y.toNat) = 64 by omega]
    have := (Nat.mul_lt_mul_right (Nat.two_pow_pos (64 - bitLen y.toNat))).2 a
    rw [e] at this
    have hc : ((y.toNat * 2 ^ (64 - bitLen y.toNat) : Nat) : Int) = y * ((2 ^ (64 - bitLen y.toNat) : Nat) : Int) := by rw [Int.natCast_mul, Int.toNat_of_nonneg y0]
    omega
  · exact Int.mul_nonneg (by omega) (Int.natCast_nonneg _)
  · exact Int.mul_lt_mul_of_pos_right h (by exact_mod_cast Nat.two_pow_pos (64 - bitLen y.toNat))
theorem eDiv (hi lo y : Int) (hhi : U hi) (hlo : U lo) (hy : U y) (h : hi < y) : evTop Try.prog G2 T2 3 1 203 [.int .u64 hi, .int .u64 lo, .int .u64 y] = some [.int .u64 ((hi * 18446744073709551616 + lo) / y), .int .u64 ((hi * 18446744073709551616 + lo) % y)] := by
  unfold evTop
  simp only [List.map]
  rw [evF_s (fn := Try.f203) (msk := en203.ms) (hT := by rfl) (hb := by rfl)]
  have hny : ¬ y = 0 := by have := hhi.1; omega
  have hnl : ¬ y ≤ hi := by omega
  by_cases hz : hi = 0
  · have e1 : lo.tdiv y = lo / y := Int.tdiv_eq_ediv_of_nonneg hlo.1
    have e2 : lo.tmod y = lo % y := Int.tmod_eq_emod_of_nonneg hlo.1
    have e3 : IntKind.u64.wrap (lo / y) = lo / y := by
      refine wu_in (Int.ediv_nonneg hlo.1 hy.1) ?_
      have := Int.ediv_le_self y hlo.1
      have := hlo.2; omega
    subst hz
    have hnl2 : ¬ y ≤ 0 := hnl
    simp only [Try.f203, go_sem, Nat.reduceAdd, Nat.reduceSub, Nat.reduceMul, Nat.reduceEqDiff, Nat.reduceBEq, Nat.reduceLT, Nat.reduceLeDiff, Nat.reducePow, Int.reduceToNat, Int.reduceLT, Int.reduceLE, Int.reduceGT, Int.reduceGE, Int.reduceEq, Int.reduceNeg, Int.reduceAdd, Int.reduceSub, ↓reduceIte, reduceCtorEq, hny, hnl2, e1, e2, e3, Int.zero_mul, Int.zero_add]
  have hpos : 0 < hi := by have := hhi.1; omega
  obtain ⟨k, p, r, hk, hk63, hp, hr, hpr, hp1, hr1, hy63, hy64, hh0, hhy⟩ := norm_ex hpos hlo hy h
  have l0 := hlo.1
  have l1 := hlo.2
  -- the words of the numerator
  have q0 : 0 ≤ lo / r := Int.ediv_nonneg l0 (by omega)
  have q1 : lo / r < p := Int.ediv_lt_of_lt_mul (by omega) (by omega)
  have q2 : lo * p / 18446744073709551616 = lo / r := by rw [← hpr, Int.mul_comm p r, Int.mul_ediv_mul_of_pos_left _ _ (by omega)]
  have q3 := Int.mul_ediv_add_emod (lo * p) 18446744073709551616
  rw [q2] at q3
  have q4 := Int.emod_nonneg (lo * p) (show (18446744073709551616 : Int) ≠ 0 by decide)
  have q5 := Int.emod_lt_of_pos (lo * p) (show (0 : Int) < 18446744073709551616 by decide)
  have hN : (hi * 18446744073709551616 + lo) * p = hi * p * 18446744073709551616 + lo * p := by rw [Int.add_mul, Int.mul_right_comm]
  have hlt : (hi * 18446744073709551616 + lo) * p < y * p * 18446744073709551616 := by
    have : hi * 18446744073709551616 + lo < y * 18446744073709551616 := by omega
    have := Int.mul_lt_mul_of_pos_right this (show 0 < p by omega)
    rw [Int.mul_right_comm] at this; exact this
  -- what the code computes
  have wk : IntKind.u64.wrap (64 - (bitLen y.toNat : Int)) = (k : Nat) := by rw [hk]; exact wu_in (by omega) (by omega)
  have wk2 : IntKind.u64.wrap (64 - (k : Int)) = ((64 - k : Nat) : Int) := by rw [show (64 : Int) - k = ((64 - k : Nat) : Int) by omega]; exact wu_in (by omega) (by omega)
  have s1 : shlI .u64 y (k : Nat) = y * p := by rw [shl_lit .u64 y k (by show k ≤ 64; omega), ← hp]; exact wu_in (by omega) (by omega)
  have s2 : shlI .u64 hi (k : Nat) = hi * p := by rw [shl_lit .u64 hi k (by show k ≤ 64; omega), ← hp]; exact wu_in (by omega) (by omega)
  have s3 : shrI .u64 lo ((64 - k : Nat) : Int) = lo / r := by rw [shr_lit .u64 lo (64 - k) (by show 64 - k ≤ 64; omega), ← hr]
  have s4 : shlI .u64 lo (k : Nat) = lo * p % 18446744073709551616 := by rw [shl_lit .u64 lo k (by show k ≤ 64; omega), ← hp, wu]
  have s5 : bitsI .or .u64 (hi * p) (lo / r) = hi * p + lo / r := or_add k hp hh0 (by omega) (Int.mul_emod_left _ _) q0 q1 (by omega)
  have k0 : ¬ ((k : Nat) : Int) < 0 := by omega
  have k1 : ¬ ((64 - k : Nat) : Int) < 0 := by omega
  -- names
  generalize hyp : y * p = Y at *
  generalize hUU : hi * p + lo / r = UU at *
  generalize hv : lo * p % 18446744073709551616 = v at *
  have hY32 : Y / 4294967296 * 4294967296 + Y % 4294967296 = Y := by omega
  have hV32 : v / 4294967296 * 4294967296 + v % 4294967296 = v := by omega
  have hU0 : 0 ≤ UU := by omega
  have hUY : UU < Y := by omega
  have hF := digit_first (U := UU) (y1 := Y / 4294967296) (y0 := Y % 4294967296) (u1 := v / 4294967296) (by omega) hU0 (by omega) (by omega) (by omega) (by omega) (by omega)
  obtain ⟨f1, f2, f3, f4, f5⟩ := hF
  have hT := two_digits (U := UU) (u1 := v / 4294967296) (u0 := v % 4294967296) (y := Y) (by omega) (by omega) (by omega)
  simp only at hT
  obtain ⟨t1, t2, t3, t4⟩ := hT
  rw [hY32] at f1
  have hbt := below_top (U := UU) (y := Y) (u1 := v / 4294967296) hUY (by omega) hU0 (by omega) (by omega)
  generalize hq1 : (UU * 4294967296 + v / 4294967296) / Y = Q1 at *
  generalize hR1 : UU * 4294967296 + v / 4294967296 - Q1 * Y = R1 at *
  have hF2 := digit_first (U := R1) (y1 := Y / 4294967296) (y0 := Y % 4294967296) (u1 := v % 4294967296) (by omega) t3 (by omega) (by omega) (by omega) (by omega) (by omega)
  obtain ⟨g1, g2, g3, g4, g5⟩ := hF2
  rw [hY32] at g1
  have hbt2 := below_top (U := R1) (y := Y) (u1 := v % 4294967296) t4 (by omega) t3 (by omega) (by omega)
  have tU : UU.tdiv (Y / 4294967296) = UU / (Y / 4294967296) := Int.tdiv_eq_ediv_of_nonneg hU0
  have tR : R1.tdiv (Y / 4294967296) = R1 / (Y / 4294967296) := Int.tdiv_eq_ediv_of_nonneg t3
  have n1 : ¬ Y / 4294967296 = 0 := by omega
  have w1 : IntKind.u64.wrap (UU / (Y / 4294967296)) = UU / (Y / 4294967296) := wu_in f3 (by omega)
  have m1 : UU / (Y / 4294967296) * (Y / 4294967296) ≤ UU := by omega
  have m0 : 0 ≤ UU / (Y / 4294967296) * (Y / 4294967296) := Int.mul_nonneg f3 (by omega)
  have w2 : IntKind.u64.wrap (UU / (Y / 4294967296) * (Y / 4294967296)) = UU / (Y / 4294967296) * (Y / 4294967296) := wu_in m0 (by omega)
  have w3 : IntKind.u64.wrap (UU - UU / (Y / 4294967296) * (Y / 4294967296)) = UU - UU / (Y / 4294967296) * (Y / 4294967296) := wu_in f4 (by omega)
  have w4 : IntKind.u64.wrap (IntKind.u64.wrap (IntKind.u64.wrap (UU * 4294967296) + v / 4294967296) - IntKind.u64.wrap (Q1 * Y)) = R1 := by
    simp only [wu]; omega
  have w5 : IntKind.u64.wrap (R1 / (Y / 4294967296)) = R1 / (Y / 4294967296) := wu_in g3 (by omega)
  have m2 : 0 ≤ R1 / (Y / 4294967296) * (Y / 4294967296) := Int.mul_nonneg g3 (by omega)
  have w6 : IntKind.u64.wrap (R1 / (Y / 4294967296) * (Y / 4294967296)) = R1 / (Y / 4294967296) * (Y / 4294967296) := wu_in m2 (by omega)
  have w7 : IntKind.u64.wrap (R1 - R1 / (Y / 4294967296) * (Y / 4294967296)) = R1 - R1 / (Y / 4294967296) * (Y / 4294967296) := wu_in g4 (by omega)
  have a1 : bitsI .and .u64 Y 4294967295 = Y % 4294967296 := and32 Y (by omega) (by omega)
  have a2 : bitsI .and .u64 v 4294967295 = v % 4294967296 := and32 v (by omega) (by omega)
  simp only [Try.f203, G2, go_sem, Nat.reduceAdd, Nat.reduceSub, Nat.reduceMul, Nat.reduceEqDiff, Nat.reduceBEq, Nat.reduceLT, Nat.reduceLeDiff, Nat.reducePow, Int.reduceToNat, Int.reduceLT, Int.reduceLE, Int.reduceGT, Int.reduceGE, Int.reduceEq, Int.reduceNeg, Int.reduceAdd, Int.reduceSub, ↓reduceIte, reduceCtorEq, hny, hnl, hz, sLz_run y hy, wk, wk2, s1, s2, s3, s4, s5, k0, k1, shr32, a1, a2, tU, n1, w1, w2, w3]
  conv in iter _ _ _ _ _ => change iter (evC _ G2 _ _ en203.ms _ _ lb203_0) (maskOf en203.ms 0) _ _ _
  have d1 : (UU * 4294967296 + v / 4294967296) / (Y / 4294967296 * 4294967296 + Y % 4294967296) = Q1 := by rw [hY32]; exact hq1
  have d2 : (R1 * 4294967296 + v % 4294967296) / (Y / 4294967296 * 4294967296 + Y % 4294967296) = (R1 * 4294967296 + v % 4294967296) / Y := by rw [hY32]
  rw [loop0 _ _ empty Y k (Y / 4294967296) (Y % 4294967296) UU (v / 4294967296) (v % 4294967296) hU0 (by omega) (by omega) (by omega) (by omega) (by omega) (by omega) (by omega) _ (UU / (Y / 4294967296), UU - UU / (Y / 4294967296) * (Y / 4294967296)) _
    ⟨f3, f2, by rw [d1]; exact f1, rfl, f4, by show UU - UU / (Y / 4294967296) * (Y / 4294967296) < 4294967296; omega⟩ (by split <;> omega) (by simp only [hd0, hd203_0, go_sem, Nat.reduceAdd, Nat.reduceSub, Nat.reduceMul, Nat.reduceEqDiff, Nat.reduceBEq, Nat.reduceLT, Nat.reduceLeDiff, Nat.reducePow, Int.reduceToNat, Int.reduceLT, Int.reduceLE, Int.reduceGT, Int.reduceGE, Int.reduceEq, Int.reduceNeg, Int.reduceAdd, Int.reduceSub, ↓reduceIte, reduceCtorEq]), d1]
  simp only [hx203_0, go_sem, Nat.reduceAdd, Nat.reduceSub, Nat.reduceMul, Nat.reduceEqDiff, Nat.reduceBEq, Nat.reduceLT, Nat.reduceLeDiff, Nat.reducePow, Int.reduceToNat, Int.reduceLT, Int.reduceLE, Int.reduceGT, Int.reduceGE, Int.reduceEq, Int.reduceNeg, Int.reduceAdd, Int.reduceSub, ↓reduceIte, reduceCtorEq, w4, tR, n1, w5, w6, w7]
  conv in iter _ _ _ _ _ => change iter (evC _ G2 _ _ en203.ms _ _ lb203_2) (maskOf en203.ms 2) _ _ _
  rw [loop2 _ _ empty Y k (Y / 4294967296) (Y % 4294967296) (v % 4294967296) Q1 R1 t3 (by omega) (by omega) (by omega) (by omega) (by omega) (by omega) (by omega) _ (R1 / (Y / 4294967296), R1 - R1 / (Y / 4294967296) * (Y / 4294967296)) _
    ⟨g3, g2, by rw [d2]; exact g1, rfl, g4, by show R1 - R1 / (Y / 4294967296) * (Y / 4294967296) < 4294967296; omega⟩ (by split <;> omega) (by simp only [hd2, hd203_2, go_sem, Nat.reduceAdd, Nat.reduceSub, Nat.reduceMul, Nat.reduceEqDiff, Nat.reduceBEq, Nat.reduceLT, Nat.reduceLeDiff, Nat.reducePow, Int.reduceToNat, Int.reduceLT, Int.reduceLE, Int.reduceGT, Int.reduceGE, Int.reduceEq, Int.reduceNeg, Int.reduceAdd, Int.reduceSub, ↓reduceIte, reduceCtorEq]), d2]
  generalize hQ0 : (R1 * 4294967296 + v % 4294967296) / Y = Q0 at *
  have hNv : UU * 18446744073709551616 + v / 4294967296 * 4294967296 + v % 4294967296 = (hi * 18446744073709551616 + lo) * p := by omega
  rw [hNv, ← hyp] at t1 t2
  obtain ⟨z1, z2⟩ := scale_div (hi * 18446744073709551616 + lo) y p (by omega)
  rw [z1] at t1
  rw [z2] at t2
  have z3 := Int.emod_nonneg (hi * 18446744073709551616 + lo) (show y ≠ 0 by omega)
  have z4 := Int.emod_lt_of_pos (hi * 18446744073709551616 + lo) (show 0 < y by omega)
  have x1 : IntKind.u64.wrap (IntKind.u64.wrap (Q1 * 4294967296) + Q0) = (hi * 18446744073709551616 + lo) / y := by
    simp only [wu]; omega
  have x2 : IntKind.u64.wrap (IntKind.u64.wrap (IntKind.u64.wrap (R1 * 4294967296) + v % 4294967296) - IntKind.u64.wrap (Q0 * Y)) = (hi * 18446744073709551616 + lo) % y * p := by
    rw [← hyp]
    have y1 : (hi * 18446744073709551616 + lo) % y * p < y * p := Int.mul_lt_mul_of_pos_right z4 (by omega)
    have y2 : 0 ≤ (hi * 18446744073709551616 + lo) % y * p := Int.mul_nonneg z3 (by omega)
    simp only [wu]; omega
  have x3 : shrI .u64 ((hi * 18446744073709551616 + lo) % y * p) (k : Nat) = (hi * 18446744073709551616 + lo) % y := by
    rw [shr_lit .u64 _ k (by show k ≤ 64; omega), ← hp, Int.mul_ediv_cancel _ (by omega)]
  simp only [hx203_2, go_sem, Nat.reduceAdd, Nat.reduceSub, Nat.reduceMul, Nat.reduceEqDiff, Nat.reduceBEq, Nat.reduceLT, Nat.reduceLeDiff, Nat.reducePow, Int.reduceToNat, Int.reduceLT, Int.reduceLE, Int.reduceGT, Int.reduceGE, Int.reduceEq, Int.reduceNeg, Int.reduceAdd, Int.reduceSub, ↓reduceIte, reduceCtorEq, x1, x2, k0, x3]
theorem sDiv_ok : SpecOk Try.prog 203 sDiv := specC_ok mixed G2_ok T2_ok fun x hp => ⟨3, 1, eDiv x.1 x.2.1 x.2.2 hp.1 hp.2.1 hp.2.2.1 hp.2.2.2⟩
#print axioms sDiv_ok
end Go.Proofs.Ytnojehmbiceceaa.Num2Num
end
section
set_option linter.unusedVariables false
set_option linter.unusedSimpArgs false
set_option maxRecDepth 100000
namespace Go.Proofs.Ytnojehmbiceceaa.Num3Num
open Go.Ev Go.Ari Go.Proofs.Ytnojehmbiceceaa.FxNum Go.Proofs.Ytnojehmbiceceaa.Num1Num Go.Proofs.Ytnojehmbiceceaa.Num2Num
attribute [local go_sem] Ev.putR_s Ev.putR_0 Ev.thenO_s Ev.thenO_0 Ev.seqR_n Ev.seqR_e Ev.seqR_r Ev.seqR_0 Ev.blkR_e Ev.blkR_n Ev.blkR_r Ev.blkR_0 Ev.normR_s Ev.normR_0 Ev.outR_r Ev.outR_n Ev.outR_0 Ev.retS_s Ev.retS_0 Ev.pureO_s Ev.pureO_0 Ev.topR_0 Ev.topR_t Ev.topR_t0 Ev.oneL_0 Ev.oneL_s Ev.topR_d Ev.topR_nils Ev.topR_agg Ev.topR_rs Ev.evOp_move Ev.evOp_assign Ev.evOp_pick Ev.evOp_alloc Ev.evOp_box Ev.evOp_build Ev.evOp_buildSlice Ev.evOp_load Ev.evOp_store Ev.evOp_makeMap Ev.evOp_lookup Ev.evOp_mapUpdate Ev.evOp_insert Ev.evOp_nilCheck Ev.evOp_binOp Ev.evOp_unOp Ev.evOp_convert Ev.evOp_makeFunc Ev.evOp_makeSlice Ev.evOp_slice Ev.evOp_fieldAddr Ev.evOp_field Ev.evOp_indexAddr Ev.evOp_index Ev.evOp_extract Ev.evOp_call Ev.evOp_append Ev.evOp_clear Ev.evOp_len Ev.evOp_min Ev.evOp_max Ev.condR_b Ev.condR_t Ev.evOps_nil Ev.evOps_plain Ev.evOps_guard Ev.runG_eq Ev.skipG_eq Ev.condL_tt Ev.condL_ff Ev.condL_tf Ev.condL_ft Ev.condL_u Ev.condC_t Ev.condC_f Ev.evC_skip Ev.evC_ret Ev.evC_exit Ev.evC_label Ev.evC_region Ev.evC_draw Ev.evC_seq Ev.evC_cond Ev.evC_block Ev.evC_loop Ev.fin_d Ev.fin_nils Ev.fin_agg_ Ev.fin_rs Ev.finS_s Ev.mapO_fin Ev.upd_upd Ev.argv_d Ev.argv_nils Ev.argv_agg Ev.argv_rs Ev.argv_p Ev.fk_low Ev.appendTo_nils Ev.appendTo_rs Ev.consV_d Ev.consV_agg Ev.consV_p Ev.consV_rs Ev.consV_nils Ev.consV_fn Ev.consV_und Ev.consV_jk Ev.consV_grown Ev.topR_grown Ev.len_grown Ev.consV_mp Ev.sameK_i Ev.sameK_s Ev.mget_0 Ev.mget_hit Ev.mget_miss Ev.mput_0 Ev.mput_hit Ev.mput_miss Ev.apartAll Ev.apartL Ev.apartV Ev.freeAll Ev.sel Ev.keyOfV Ev.evLookup Ev.evPut Ev.hintOk Ev.keyOk Ev.consP Ev.lookV Ev.guardV Ev.dstAt Ev.evPure Ev.evStore Ev.evPureB Ev.evBin Ev.evBinO Ev.evNil Ev.isNilC Ev.evUn Ev.evConv Ev.evSlice Ev.optI Ev.lenV Ev.elemT Ev.foldI Ev.capsOk Ev.noTup Ev.nth Ev.setN Ev.killAt Ev.pad Ev.V.get Ev.V.put Ev.putD Ev.hasT Ev.newBlk Ev.upd Ev.keq Ev.empty Ev.evCall Ev.V.args Ev.argP Ev.callOf Ev.evNilP Ev.isNilP Ev.look Ev.V.view.views Ev.V.view Ev.V.toD Ev.V.toD.V.toDs Ev.V.pure.pures Ev.V.pure Ev.D.flat.flats Ev.D.flat Ev.mkAgg Ev.allD Ev.aggParts Ev.setParts Ev.setElems Ev.getPath Ev.setPath Ev.subL Ev.eqD Ev.eqD.eqDs Ev.and2 Ev.strCut Ev.evalT Ev.constT Ev.evArgs Ev.mask Ev.maskOf Ev.tableOf Ev.compT Ev.resV Ev.retV Ev.mapO Ev.elemsOf Int.cast_ofNat_Int IntWalk.i64_in IntWalk.u64_in IntWalk.u8_in beq_self_eq_true Bool.true_beq Bool.false_beq Bool.and_true Bool.true_and Bool.false_and Bool.and_false Bool.and_self Bool.not_true Bool.not_false Bool.not_eq_true cond_true cond_false if_true if_false and_true true_and and_self decide_true decide_false Bool.or_true Bool.true_or Bool.or_false Bool.false_or List.isEmpty List.isEmpty_nil List.size_toArray List.map List.length_map List.length_cons List.length_nil Option.map Option.bind Option.getD Option.isSome List.replicate Bool.false_eq_true implies_true false_implies forall_const Array.toList Array.isEmpty List.append List.nil_append List.cons_append List.drop_zero List.take_length List.take_succ_cons List.take_zero List.take_nil List.getElem?_map List.getElem?_cons_zero List.getElem?_cons_succ List.getElem?_nil List.append_nil
attribute [local go_sem] FxNum.tk2 FxNum.ik2 FxNum.zv2 FxNum.tk3 FxNum.ik3 FxNum.zv3 FxNum.tk4 FxNum.ub4 FxNum.zv4 FxNum.tk5 FxNum.ik5 FxNum.zv5 FxNum.tk9 FxNum.ek9 FxNum.tk27 FxNum.ik27 FxNum.zv27 FxNum.tk133 FxNum.ik133 FxNum.zv133 FxNum.tk147 FxNum.ik147 FxNum.zv147 FxNum.tk176 FxNum.ct176 FxNum.zv176 FxNum.tk295 FxNum.mk66_1000000 FxNum.mk86_1000000 FxNum.mk87_1000000 FxNum.mk109_0 FxNum.mk109_1000001 FxNum.mk109_1000002 FxNum.mk109_1000000 FxNum.fi109_0 FxNum.mk110_1000000 FxNum.mk118_0 FxNum.mk118_1000001 FxNum.mk118_1000002 FxNum.mk118_1000000 FxNum.fi118_0 FxNum.mk150_1000001 FxNum.mk150_1000000 FxNum.mk171_0 FxNum.mk171_1000001 FxNum.mk171_1000002 FxNum.mk171_1000000 FxNum.fi171_0 FxNum.mk172_1000000 FxNum.mk182_1000000 FxNum.mk183_1000000 FxNum.dw203_6 FxNum.kl203_6 FxNum.nc203_6 FxNum.mk203_0 FxNum.mk203_2 FxNum.mk203_1000001 FxNum.mk203_1000002 FxNum.mk203_1000003 FxNum.mk203_1000004 FxNum.mk203_1000000 FxNum.fi203_0 FxNum.fi203_2 FxNum.mk225_1000000 FxNum.mk244_1000000
def ab (a : Int) : Int := if a < 0 then -a else a
def cW : Cod (Int × Int) := cA 176 (cCons (cI .i64) (cOne (cI .u64)))
noncomputable def G3 : Specs := [(228, sAdd), (172, sMul), (203, sDiv)]
noncomputable def T3 : Table := tableOf [(182, en182), (183, en183)]
theorem G3_ok : ∀ g s, Ev.look G3 g = some s → SpecOk Try.prog g s := specs_cons sAdd_ok (specs_cons sMul_ok (specs_cons sDiv_ok specs_nil))
theorem T3_ok : TableOk Try.prog (G3.map (·.1)) T3 := (table_cons Try.func182 (by kernel_rfl) (by kernel_rfl) (table_cons Try.func183 (by kernel_rfl) (by kernel_rfl) table_nil))
theorem conv_neg {a : Int} (h : I a) (hn : a < 0) : IntKind.u64.wrap (0 - IntKind.u64.wrap a) = -a := by
  obtain ⟨h0, h1⟩ := h
  simp only [wu]; omega
theorem conv_pos {a : Int} (h : I a) (hn : ¬ a < 0) : IntKind.u64.wrap a = a := by
  obtain ⟨h0, h1⟩ := h
  exact wu_in (by omega) (by omega)
noncomputable def sSize : Ev.Spec := specC (c1 .i64) I fun x => [.int .u64 (ab x)]
theorem sSize_run (a : Int) (h : I a) : sSize.run [.int .i64 a] = some [.int .u64 (ab a)] := specC_run (c1 .i64) _ _ a h
theorem eSize (a : Int) (h : I a) : evTop Try.prog G3 T3 0 1 182 [.int .i64 a] = some [.int .u64 (ab a)] := by
  unfold evTop
  simp only [List.map]
  rw [evF_s (fn := Try.f182) (msk := en182.ms) (hT := by rfl) (hb := by rfl)]
  by_cases hn : a < 0
  · simp only [Try.f182, go_sem, Nat.reduceAdd, Nat.reduceSub, Nat.reduceMul, Nat.reduceEqDiff, Nat.reduceBEq, Nat.reduceLT, Nat.reduceLeDiff, Nat.reducePow, Int.reduceToNat, Int.reduceLT, Int.reduceLE, Int.reduceGT, Int.reduceGE, Int.reduceEq, Int.reduceNeg, Int.reduceAdd, Int.reduceSub, ↓reduceIte, reduceCtorEq, hn, conv_neg h hn, ab]
  · simp only [Try.f182, go_sem, Nat.reduceAdd, Nat.reduceSub, Nat.reduceMul, Nat.reduceEqDiff, Nat.reduceBEq, Nat.reduceLT, Nat.reduceLeDiff, Nat.reducePow, Int.reduceToNat, Int.reduceLT, Int.reduceLE, Int.reduceGT, Int.reduceGE, Int.reduceEq, Int.reduceNeg, Int.reduceAdd, Int.reduceSub, ↓reduceIte, reduceCtorEq, hn, conv_pos h hn, ab]
theorem sSize_ok : SpecOk Try.prog 182 sSize := specC_ok mixed G3_ok T3_ok fun x hp => ⟨0, 1, eSize x hp⟩
theorem not_u {x : Int} (h : U x) : bitsI .xor .u64 (if IntKind.u64.signed = true then -1 else IntKind.u64.max) x = 18446744073709551615 - x := not_u64 h.1 h.2
/-- The two words of a number. -/
def wide (n : Int) : List D := [.agg 176 [.int .i64 (IntKind.i64.wrap (n / 18446744073709551616)), .int .u64 (n % 18446744073709551616)]]
noncomputable def sNeg : Ev.Spec := specC (cOne cW) (fun x => I x.1 ∧ U x.2) fun x => wide (-(x.1 * 18446744073709551616 + x.2))
theorem sNeg_run (a b : Int) (ha : I a) (hb : U b) : sNeg.run [.agg 176 [.int .i64 a, .int .u64 b]] = some (wide (-(a * 18446744073709551616 + b))) := specC_run (cOne cW) _ _ (a, b) ⟨ha, hb⟩
theorem eNeg (a b : Int) (ha : I a) (hb : U b) : evTop Try.prog G3 T3 0 1 183 [.agg 176 [.int .i64 a, .int .u64 b]] = some (wide (-(a * 18446744073709551616 + b))) := by
  unfold evTop
  simp only [List.map]
  rw [evF_s (fn := Try.f183) (msk := en183.ms) (hT := by rfl) (hb := by rfl)]
  have hu : U (IntKind.u64.wrap a) := by unfold U; rw [wu]; omega
  have h1 : U (18446744073709551615 - b) := by unfold U at *; omega
  have h2 : U (18446744073709551615 - IntKind.u64.wrap a) := by unfold U at *; omega
  obtain ⟨b0, b1⟩ := hb
  obtain ⟨a0, a1⟩ := ha
  have r1 := sAdd_run (18446744073709551615 - b) 1 0 h1 ⟨by decide, by decide⟩ (by decide) (by decide)
  have r2 := sAdd_run (18446744073709551615 - IntKind.u64.wrap a) 0 ((18446744073709551615 - b + 1 + 0) / 18446744073709551616) h2 ⟨by decide, by decide⟩ (by omega) (by omega)
  have x1 : IntKind.i64.wrap ((18446744073709551615 - IntKind.u64.wrap a + 0 + (18446744073709551615 - b + 1 + 0) / 18446744073709551616) % 18446744073709551616) = IntKind.i64.wrap (-(a * 18446744073709551616 + b) / 18446744073709551616) := by
    simp only [wi, wu]; omega
  have x2 : (18446744073709551615 - b + 1 + 0) % 18446744073709551616 = -(a * 18446744073709551616 + b) % 18446744073709551616 := by omega
  simp only [Try.f183, G3, go_sem, Nat.reduceAdd, Nat.reduceSub, Nat.reduceMul, Nat.reduceEqDiff, Nat.reduceBEq, Nat.reduceLT, Nat.reduceLeDiff, Nat.reducePow, Int.reduceToNat, Int.reduceLT, Int.reduceLE, Int.reduceGT, Int.reduceGE, Int.reduceEq, Int.reduceNeg, Int.reduceAdd, Int.reduceSub, ↓reduceIte, reduceCtorEq, not_u ⟨b0, b1⟩, not_u hu, r1, r2, x1, x2, wide]
theorem sNeg_ok : SpecOk Try.prog 183 sNeg := specC_ok mixed G3_ok T3_ok fun x hp => ⟨0, 1, eNeg x.1 x.2 hp.1 hp.2⟩
/-! ### Product -/
noncomputable def G3b : Specs := [(172, sMul), (182, sSize), (183, sNeg), (203, sDiv)]
noncomputable def T3b : Table := tableOf [(110, en110), (150, en150)]
theorem G3b_ok : ∀ g s, Ev.look G3b g = some s → SpecOk Try.prog g s := specs_cons sMul_ok (specs_cons sSize_ok (specs_cons sNeg_ok (specs_cons sDiv_ok specs_nil)))
theorem T3b_ok : TableOk Try.prog (G3b.map (·.1)) T3b := (table_cons Try.func110 (by kernel_rfl) (by kernel_rfl) (table_cons Try.func150 (by kernel_rfl) (by kernel_rfl) table_nil))
theorem ab_U {a : Int} (h : I a) : U (ab a) ∧ ab a ≤ 9223372036854775808 := by
  unfold U I ab at *
  split <;> omega
theorem ab_mul (a b : Int) : ab a * ab b = if (a < 0) ≠ (b < 0) then -(a * b) else a * b := by
  unfold ab
  by_cases ha : a < 0 <;> by_cases hb : b < 0 <;> simp [ha, hb, Int.neg_mul, Int.mul_neg]
theorem prod_bounds {a b : Int} (ha : I a) (hb : I b) : 0 ≤ ab a * ab b ∧ ab a * ab b ≤ 85070591730234615865843651857942052864 := by
  obtain ⟨⟨p1, p2⟩, p3⟩ := ab_U ha
  obtain ⟨⟨q1, q2⟩, q3⟩ := ab_U hb
  exact ⟨Int.mul_nonneg p1 q1, Int.mul_le_mul p3 q3 q1 (by decide)⟩
noncomputable def sProd : Ev.Spec := specC (c2 .i64) (fun x => I x.1 ∧ I x.2) fun x => wide (x.1 * x.2)
theorem sProd_run (a b : Int) (ha : I a) (hb : I b) : sProd.run [.int .i64 a, .int .i64 b] = some (wide (a * b)) := specC_run (c2 .i64) _ _ (a, b) ⟨ha, hb⟩
theorem neq_bool (p q : Prop) [Decidable p] [Decidable q] : (!(decide p == decide q)) = decide (p ≠ q) := by
  by_cases hp : p <;> by_cases hq : q <;> simp [hp, hq]
theorem eProd (a b : Int) (ha : I a) (hb : I b) : evTop Try.prog G3b T3b 0 1 110 [.int .i64 a, .int .i64 b] = some (wide (a * b)) := by
  unfold evTop
  simp only [List.map]
  rw [evF_s (fn := Try.f110) (msk := en110.ms) (hT := by rfl) (hb := by rfl)]
  have pb := prod_bounds ha hb
  have pm := ab_mul a b
  have r1 := sMul_run (ab a) (ab b) (ab_U ha).1 (ab_U hb).1
  have rs1 := sSize_run a ha
  have rs2 := sSize_run b hb
  have w1 : IntKind.i64.wrap (ab a * ab b / 18446744073709551616) = ab a * ab b / 18446744073709551616 := wi_in (by omega) (by omega)
  have rn := sNeg_run (ab a * ab b / 18446744073709551616) (ab a * ab b % 18446744073709551616) ⟨by omega, by omega⟩ ⟨by omega, by omega⟩
  have hs : -(ab a * ab b / 18446744073709551616 * 18446744073709551616 + ab a * ab b % 18446744073709551616) = -(ab a * ab b) := by omega
  rw [hs] at rn
  by_cases h1 : a < 0 <;> by_cases h2 : b < 0
  · have e : ab a * ab b = a * b := by rw [pm]; simp [h1, h2]
    rw [e] at r1 w1
    simp only [Try.f110, G3b, go_sem, Nat.reduceAdd, Nat.reduceSub, Nat.reduceMul, Nat.reduceEqDiff, Nat.reduceBEq, Nat.reduceLT, Nat.reduceLeDiff, Nat.reducePow, Int.reduceToNat, Int.reduceLT, Int.reduceLE, Int.reduceGT, Int.reduceGE, Int.reduceEq, Int.reduceNeg, Int.reduceAdd, Int.reduceSub, ↓reduceIte, reduceCtorEq, rs1, rs2, r1, w1, h1, h2, wide]
  · have e : ab a * ab b = -(a * b) := by rw [pm]; simp [h1, h2]
    have e2 : -(ab a * ab b) = a * b := by rw [e]; omega
    rw [e2] at rn
    unfold wide at rn
    simp only [Try.f110, G3b, go_sem, Nat.reduceAdd, Nat.reduceSub, Nat.reduceMul, Nat.reduceEqDiff, Nat.reduceBEq, Nat.reduceLT, Nat.reduceLeDiff, Nat.reducePow, Int.reduceToNat, Int.reduceLT, Int.reduceLE, Int.reduceGT, Int.reduceGE, Int.reduceEq, Int.reduceNeg, Int.reduceAdd, Int.reduceSub, ↓reduceIte, reduceCtorEq, rs1, rs2, r1, w1, h1, h2, rn, wide]
  · have e : ab a * ab b = -(a * b) := by rw [pm]; simp [h1, h2]
    have e2 : -(ab a * ab b) = a * b := by rw [e]; omega
    rw [e2] at rn
    unfold wide at rn
    simp only [Try.f110, G3b, go_sem, Nat.reduceAdd, Nat.reduceSub, Nat.reduceMul, Nat.reduceEqDiff, Nat.reduceBEq, Nat.reduceLT, Nat.reduceLeDiff, Nat.reducePow, Int.reduceToNat, Int.reduceLT, Int.reduceLE, Int.reduceGT, Int.reduceGE, Int.reduceEq, Int.reduceNeg, Int.reduceAdd, Int.reduceSub, ↓reduceIte, reduceCtorEq, rs1, rs2, r1, w1, h1, h2, rn, wide]
  · have e : ab a * ab b = a * b := by rw [pm]; simp [h1, h2]
    rw [e] at r1 w1
    simp only [Try.f110, G3b, go_sem, Nat.reduceAdd, Nat.reduceSub, Nat.reduceMul, Nat.reduceEqDiff, Nat.reduceBEq, Nat.reduceLT, Nat.reduceLeDiff, Nat.reducePow, Int.reduceToNat, Int.reduceLT, Int.reduceLE, Int.reduceGT, Int.reduceGE, Int.reduceEq, Int.reduceNeg, Int.reduceAdd, Int.reduceSub, ↓reduceIte, reduceCtorEq, rs1, rs2, r1, w1, h1, h2, wide]
theorem sProd_ok : SpecOk Try.prog 110 sProd := specC_ok mixed G3b_ok T3b_ok fun x hp => ⟨0, 1, eProd x.1 x.2 hp.1 hp.2⟩
/-! ### Div -/
/-- What a quotient answers: the number and the error. -/
def quoR (n d : Int) : Int × Int := if d < 1 then (0, 1) else if -9223372036854775808 ≤ n / d ∧ n / d < 9223372036854775808 then (n / d, 0) else (0, 2)
def two (p : Int × Int) : List D := [.int .i64 p.1, .int .i64 p.2]
noncomputable def sWdiv : Ev.Spec := specC (cCons cW (cOne (cI .i64))) (fun x => I x.1.1 ∧ U x.1.2 ∧ I x.2) fun x => two (quoR (x.1.1 * 18446744073709551616 + x.1.2) x.2)
theorem sWdiv_run (a b d : Int) (ha : I a) (hb : U b) (hd : I d) : sWdiv.run [.agg 176 [.int .i64 a, .int .u64 b], .int .i64 d] = some (two (quoR (a * 18446744073709551616 + b) d)) := specC_run (cCons cW (cOne (cI .i64))) _ _ ((a, b), d) ⟨ha, hb, hd⟩
theorem neg_ediv {n d : Int} (hd : 0 < d) : n / d = if (-n) % d = 0 then -((-n) / d) else -((-n) / d) - 1 := by
  have h1 := Int.mul_ediv_add_emod (-n) d
  have h2 := Int.emod_nonneg (-n) (show d ≠ 0 by omega)
  have h3 := Int.emod_lt_of_pos (-n) hd
  split
  · rename_i h
    rw [h] at h1
    have e : n = d * (-((-n) / d)) := by rw [Int.mul_neg]; omega
    conv => lhs; rw [e]
    exact Int.mul_ediv_cancel_left _ (by omega)
  · rename_i h
    have e : n = (d - (-n) % d) + d * (-((-n) / d) - 1) := by rw [Int.mul_sub, Int.mul_neg, Int.mul_one]; omega
    conv => lhs; rw [e]
    rw [Int.add_mul_ediv_left _ _ (by omega), Int.ediv_eq_zero_of_lt (by omega) (by omega)]
    omega
theorem big_quo {n d : Int} (hd : 0 < d) (h : d ≤ n / 18446744073709551616) : 18446744073709551616 ≤ n / d := by
  refine (Int.le_ediv_iff_mul_le hd).2 ?_
  omega
theorem small_quo {n d : Int} (h0 : 0 ≤ n) (hd : 0 < d) (h : n / 18446744073709551616 < d) : 0 ≤ n / d ∧ n / d < 18446744073709551616 := by
  refine ⟨Int.ediv_nonneg h0 (by omega), Int.ediv_lt_of_lt_mul hd ?_⟩
  have e : 18446744073709551616 * d = d * 18446744073709551616 := Int.mul_comm _ _
  omega
theorem eWdiv (a b d : Int) (ha : I a) (hb : U b) (hd : I d) : evTop Try.prog G3b T3b 0 1 150 [.agg 176 [.int .i64 a, .int .u64 b], .int .i64 d] = some (two (quoR (a * 18446744073709551616 + b) d)) := by
  unfold evTop
  simp only [List.map]
  rw [evF_s (fn := Try.f150) (msk := en150.ms) (hT := by rfl) (hb := by rfl)]
  by_cases h1 : d < 1
  · rw [quoR, if_pos h1]
    simp only [Try.f150, G3b, go_sem, Nat.reduceAdd, Nat.reduceSub, Nat.reduceMul, Nat.reduceEqDiff, Nat.reduceBEq, Nat.reduceLT, Nat.reduceLeDiff, Nat.reducePow, Int.reduceToNat, Int.reduceLT, Int.reduceLE, Int.reduceGT, Int.reduceGE, Int.reduceEq, Int.reduceNeg, Int.reduceAdd, Int.reduceSub, ↓reduceIte, reduceCtorEq, h1, two]
  rw [quoR, if_neg h1]
  have hdp : 0 < d := by omega
  have ud : U d := ⟨by omega, by unfold I at hd; omega⟩
  have cd : IntKind.u64.wrap d = d := wu_in ud.1 ud.2
  obtain ⟨a0, a1⟩ := ha
  obtain ⟨b0, b1⟩ := hb
  by_cases h2 : a < 0
  · have rn := sNeg_run a b ⟨a0, a1⟩ ⟨b0, b1⟩
    unfold wide at rn
    generalize hn : a * 18446744073709551616 + b = n at *
    have hm : 0 < -n ∧ -n ≤ 170141183460469231731687303715884105728 := by omega
    have c1 : IntKind.u64.wrap (IntKind.i64.wrap (-n / 18446744073709551616)) = -n / 18446744073709551616 := by simp only [wu, wi]; omega
    have um : U (-n / 18446744073709551616) := ⟨by omega, by omega⟩
    have ul : U (-n % 18446744073709551616) := ⟨by omega, by omega⟩
    by_cases h3 : -n / 18446744073709551616 ≥ d
    · have g := big_quo hdp h3
      have e := neg_ediv (n := n) hdp
      rw [if_neg (by rw [e]; split <;> omega)]
      simp only [Try.f150, G3b, go_sem, Nat.reduceAdd, Nat.reduceSub, Nat.reduceMul, Nat.reduceEqDiff, Nat.reduceBEq, Nat.reduceLT, Nat.reduceLeDiff, Nat.reducePow, Int.reduceToNat, Int.reduceLT, Int.reduceLE, Int.reduceGT, Int.reduceGE, Int.reduceEq, Int.reduceNeg, Int.reduceAdd, Int.reduceSub, ↓reduceIte, reduceCtorEq, h1, h2, rn, c1, cd, h3, two]
    · have sq := small_quo (n := -n) (by omega) hdp (by omega)
      have rd := sDiv_run (-n / 18446744073709551616) (-n % 18446744073709551616) d um ul ud (by omega)
      have hs : -n / 18446744073709551616 * 18446744073709551616 + -n % 18446744073709551616 = -n := by omega
      rw [hs] at rd
      have e := neg_ediv (n := n) hdp
      have m0 := Int.emod_nonneg (-n) (show d ≠ 0 by omega)
      have hge : ¬ a ≥ 0 := by omega
      by_cases h4 : -n % d > 0
      · have w9 : IntKind.u64.wrap (9223372036854775808 - 1) = 9223372036854775807 := by decide
        rw [if_neg (by omega)] at e
        by_cases h5 : -n / d > 9223372036854775807
        · rw [if_neg (by omega)]
          simp only [Try.f150, G3b, go_sem, Nat.reduceAdd, Nat.reduceSub, Nat.reduceMul, Nat.reduceEqDiff, Nat.reduceBEq, Nat.reduceLT, Nat.reduceLeDiff, Nat.reducePow, Int.reduceToNat, Int.reduceLT, Int.reduceLE, Int.reduceGT, Int.reduceGE, Int.reduceEq, Int.reduceNeg, Int.reduceAdd, Int.reduceSub, ↓reduceIte, reduceCtorEq, h1, h2, rn, c1, cd, h3, rd, h4, w9, h5, two]
        · rw [if_pos (by omega)]
          have x : IntKind.i64.wrap (IntKind.i64.wrap (IntKind.u64.wrap (0 - -n / d)) - 1) = n / d := by simp only [wu, wi]; omega
          simp only [Try.f150, G3b, go_sem, Nat.reduceAdd, Nat.reduceSub, Nat.reduceMul, Nat.reduceEqDiff, Nat.reduceBEq, Nat.reduceLT, Nat.reduceLeDiff, Nat.reducePow, Int.reduceToNat, Int.reduceLT, Int.reduceLE, Int.reduceGT, Int.reduceGE, Int.reduceEq, Int.reduceNeg, Int.reduceAdd, Int.reduceSub, ↓reduceIte, reduceCtorEq, h1, h2, rn, c1, cd, h3, rd, h4, w9, h5, hge, x, two]
      · rw [if_pos (by omega)] at e
        by_cases h5 : -n / d > 9223372036854775808
        · rw [if_neg (by omega)]
          simp only [Try.f150, G3b, go_sem, Nat.reduceAdd, Nat.reduceSub, Nat.reduceMul, Nat.reduceEqDiff, Nat.reduceBEq, Nat.reduceLT, Nat.reduceLeDiff, Nat.reducePow, Int.reduceToNat, Int.reduceLT, Int.reduceLE, Int.reduceGT, Int.reduceGE, Int.reduceEq, Int.reduceNeg, Int.reduceAdd, Int.reduceSub, ↓reduceIte, reduceCtorEq, h1, h2, rn, c1, cd, h3, rd, h4, h5, two]
        · rw [if_pos (by omega)]
          have x : IntKind.i64.wrap (IntKind.u64.wrap (0 - -n / d)) = n / d := by simp only [wu, wi]; omega
          simp only [Try.f150, G3b, go_sem, Nat.reduceAdd, Nat.reduceSub, Nat.reduceMul, Nat.reduceEqDiff, Nat.reduceBEq, Nat.reduceLT, Nat.reduceLeDiff, Nat.reducePow, Int.reduceToNat, Int.reduceLT, Int.reduceLE, Int.reduceGT, Int.reduceGE, Int.reduceEq, Int.reduceNeg, Int.reduceAdd, Int.reduceSub, ↓reduceIte, reduceCtorEq, h1, h2, rn, c1, cd, h3, rd, h4, h5, hge, x, two]
  · have hge : a ≥ 0 := by omega
    have ca : IntKind.u64.wrap a = a := wu_in (by omega) (by omega)
    have hdv : (a * 18446744073709551616 + b) / 18446744073709551616 = a := by omega
    by_cases h3 : a ≥ d
    · have g := big_quo (n := a * 18446744073709551616 + b) hdp (by omega)
      rw [if_neg (by omega)]
      simp only [Try.f150, G3b, go_sem, Nat.reduceAdd, Nat.reduceSub, Nat.reduceMul, Nat.reduceEqDiff, Nat.reduceBEq, Nat.reduceLT, Nat.reduceLeDiff, Nat.reducePow, Int.reduceToNat, Int.reduceLT, Int.reduceLE, Int.reduceGT, Int.reduceGE, Int.reduceEq, Int.reduceNeg, Int.reduceAdd, Int.reduceSub, ↓reduceIte, reduceCtorEq, h1, h2, ca, cd, h3, two]
    · have sq := small_quo (n := a * 18446744073709551616 + b) (by omega) hdp (by omega)
      have rd := sDiv_run a b d ⟨by omega, by omega⟩ ⟨b0, b1⟩ ud (by omega)
      by_cases h5 : (a * 18446744073709551616 + b) / d > 9223372036854775807
      · rw [if_neg (by omega)]
        simp only [Try.f150, G3b, go_sem, Nat.reduceAdd, Nat.reduceSub, Nat.reduceMul, Nat.reduceEqDiff, Nat.reduceBEq, Nat.reduceLT, Nat.reduceLeDiff, Nat.reducePow, Int.reduceToNat, Int.reduceLT, Int.reduceLE, Int.reduceGT, Int.reduceGE, Int.reduceEq, Int.reduceNeg, Int.reduceAdd, Int.reduceSub, ↓reduceIte, reduceCtorEq, h1, h2, ca, cd, h3, rd, h5, two]
      · rw [if_pos (by omega)]
        have x : IntKind.i64.wrap ((a * 18446744073709551616 + b) / d) = (a * 18446744073709551616 + b) / d := wi_in (by omega) (by omega)
        simp only [Try.f150, G3b, go_sem, Nat.reduceAdd, Nat.reduceSub, Nat.reduceMul, Nat.reduceEqDiff, Nat.reduceBEq, Nat.reduceLT, Nat.reduceLeDiff, Nat.reducePow, Int.reduceToNat, Int.reduceLT, Int.reduceLE, Int.reduceGT, Int.reduceGE, Int.reduceEq, Int.reduceNeg, Int.reduceAdd, Int.reduceSub, ↓reduceIte, reduceCtorEq, h1, h2, ca, cd, h3, rd, h5, hge, x, two]
theorem sWdiv_ok : SpecOk Try.prog 150 sWdiv := specC_ok mixed G3b_ok T3b_ok fun x hp => ⟨0, 1, eWdiv x.1.1 x.1.2 x.2 hp.1 hp.2.1 hp.2.2⟩
/-! ### MulDiv -/
noncomputable def G3c : Specs := [(110, sProd), (150, sWdiv)]
noncomputable def T3c : Table := tableOf [(66, en66)]
theorem G3c_ok : ∀ g s, Ev.look G3c g = some s → SpecOk Try.prog g s := specs_cons sProd_ok (specs_cons sWdiv_ok specs_nil)
theorem T3c_ok : TableOk Try.prog (G3c.map (·.1)) T3c := (table_cons Try.func66 (by kernel_rfl) (by kernel_rfl) table_nil)
noncomputable def sMulDiv : Ev.Spec := specC (c3 .i64) (fun x => I x.1 ∧ I x.2.1 ∧ I x.2.2) fun x => two (quoR (x.1 * x.2.1) x.2.2)
theorem sMulDiv_run (a b c : Int) (ha : I a) (hb : I b) (hc : I c) : sMulDiv.run [.int .i64 a, .int .i64 b, .int .i64 c] = some (two (quoR (a * b) c)) := specC_run (c3 .i64) _ _ (a, b, c) ⟨ha, hb, hc⟩
theorem wide_in {a b : Int} (ha : I a) (hb : I b) : -4611686018427387904 ≤ a * b / 18446744073709551616 ∧ a * b / 18446744073709551616 ≤ 4611686018427387904 ∧ IntKind.i64.wrap (a * b / 18446744073709551616) = a * b / 18446744073709551616 := by
  have pb := prod_bounds ha hb
  have pm := ab_mul a b
  have : -85070591730234615865843651857942052864 ≤ a * b ∧ a * b ≤ 85070591730234615865843651857942052864 := by split at pm <;> omega
  exact ⟨by omega, by omega, wi_in (by omega) (by omega)⟩
theorem eMulDiv (a b c : Int) (ha : I a) (hb : I b) (hc : I c) : evTop Try.prog G3c T3c 0 1 66 [.int .i64 a, .int .i64 b, .int .i64 c] = some (two (quoR (a * b) c)) := by
  unfold evTop
  simp only [List.map]
  rw [evF_s (fn := Try.f66) (msk := en66.ms) (hT := by rfl) (hb := by rfl)]
  have r1 := sProd_run a b ha hb
  obtain ⟨w1, w2, w3⟩ := wide_in ha hb
  have r2 := sWdiv_run (a * b / 18446744073709551616) (a * b % 18446744073709551616) c ⟨by omega, by omega⟩ ⟨by omega, by omega⟩ hc
  rw [show a * b / 18446744073709551616 * 18446744073709551616 + a * b % 18446744073709551616 = a * b by omega] at r2
  unfold wide at r1
  rw [w3] at r1
  unfold two at r2 ⊢
  simp only [Try.f66, G3c, go_sem, Nat.reduceAdd, Nat.reduceSub, Nat.reduceMul, Nat.reduceEqDiff, Nat.reduceBEq, Nat.reduceLT, Nat.reduceLeDiff, Nat.reducePow, Int.reduceToNat, Int.reduceLT, Int.reduceLE, Int.reduceGT, Int.reduceGE, Int.reduceEq, Int.reduceNeg, Int.reduceAdd, Int.reduceSub, ↓reduceIte, reduceCtorEq, r1, r2]
theorem sMulDiv_ok : SpecOk Try.prog 66 sMulDiv := specC_ok mixed G3c_ok T3c_ok fun x hp => ⟨0, 1, eMulDiv x.1 x.2.1 x.2.2 hp.1 hp.2.1 hp.2.2⟩
#print axioms sMulDiv_ok
end Go.Proofs.Ytnojehmbiceceaa.Num3Num
end
section
set_option linter.unusedVariables false
set_option linter.unusedSimpArgs false
set_option maxRecDepth 100000
namespace Go.Proofs.Ytnojehmbiceceaa.Num4Num
open Go.Ev Go.Ari Go.Proofs.Ytnojehmbiceceaa.FxNum Go.Proofs.Ytnojehmbiceceaa.Num1Num
attribute [local go_sem] Ev.putR_s Ev.putR_0 Ev.thenO_s Ev.thenO_0 Ev.seqR_n Ev.seqR_e Ev.seqR_r Ev.seqR_0 Ev.blkR_e Ev.blkR_n Ev.blkR_r Ev.blkR_0 Ev.normR_s Ev.normR_0 Ev.outR_r Ev.outR_n Ev.outR_0 Ev.retS_s Ev.retS_0 Ev.pureO_s Ev.pureO_0 Ev.topR_0 Ev.topR_t Ev.topR_t0 Ev.oneL_0 Ev.oneL_s Ev.topR_d Ev.topR_nils Ev.topR_agg Ev.topR_rs Ev.evOp_move Ev.evOp_assign Ev.evOp_pick Ev.evOp_alloc Ev.evOp_box Ev.evOp_build Ev.evOp_buildSlice Ev.evOp_load Ev.evOp_store Ev.evOp_makeMap Ev.evOp_lookup Ev.evOp_mapUpdate Ev.evOp_insert Ev.evOp_nilCheck Ev.evOp_binOp Ev.evOp_unOp Ev.evOp_convert Ev.evOp_makeFunc Ev.evOp_makeSlice Ev.evOp_slice Ev.evOp_fieldAddr Ev.evOp_field Ev.evOp_indexAddr Ev.evOp_index Ev.evOp_extract Ev.evOp_call Ev.evOp_append Ev.evOp_clear Ev.evOp_len Ev.evOp_min Ev.evOp_max Ev.condR_b Ev.condR_t Ev.evOps_nil Ev.evOps_plain Ev.evOps_guard Ev.runG_eq Ev.skipG_eq Ev.condL_tt Ev.condL_ff Ev.condL_tf Ev.condL_ft Ev.condL_u Ev.condC_t Ev.condC_f Ev.evC_skip Ev.evC_ret Ev.evC_exit Ev.evC_label Ev.evC_region Ev.evC_draw Ev.evC_seq Ev.evC_cond Ev.evC_block Ev.evC_loop Ev.fin_d Ev.fin_nils Ev.fin_agg_ Ev.fin_rs Ev.finS_s Ev.mapO_fin Ev.upd_upd Ev.argv_d Ev.argv_nils Ev.argv_agg Ev.argv_rs Ev.argv_p Ev.fk_low Ev.appendTo_nils Ev.appendTo_rs Ev.consV_d Ev.consV_agg Ev.consV_p Ev.consV_rs Ev.consV_nils Ev.consV_fn Ev.consV_und Ev.consV_jk Ev.consV_grown Ev.topR_grown Ev.len_grown Ev.consV_mp Ev.sameK_i Ev.sameK_s Ev.mget_0 Ev.mget_hit Ev.mget_miss Ev.mput_0 Ev.mput_hit Ev.mput_miss Ev.apartAll Ev.apartL Ev.apartV Ev.freeAll Ev.sel Ev.keyOfV Ev.evLookup Ev.evPut Ev.hintOk Ev.keyOk Ev.consP Ev.lookV Ev.guardV Ev.dstAt Ev.evPure Ev.evStore Ev.evPureB Ev.evBin Ev.evBinO Ev.evNil Ev.isNilC Ev.evUn Ev.evConv Ev.evSlice Ev.optI Ev.lenV Ev.elemT Ev.foldI Ev.capsOk Ev.noTup Ev.nth Ev.setN Ev.killAt Ev.pad Ev.V.get Ev.V.put Ev.putD Ev.hasT Ev.newBlk Ev.upd Ev.keq Ev.empty Ev.evCall Ev.V.args Ev.argP Ev.callOf Ev.evNilP Ev.isNilP Ev.look Ev.V.view.views Ev.V.view Ev.V.toD Ev.V.toD.V.toDs Ev.V.pure.pures Ev.V.pure Ev.D.flat.flats Ev.D.flat Ev.mkAgg Ev.allD Ev.aggParts Ev.setParts Ev.setElems Ev.getPath Ev.setPath Ev.subL Ev.eqD Ev.eqD.eqDs Ev.and2 Ev.strCut Ev.evalT Ev.constT Ev.evArgs Ev.mask Ev.maskOf Ev.tableOf Ev.compT Ev.resV Ev.retV Ev.mapO Ev.elemsOf Int.cast_ofNat_Int IntWalk.i64_in IntWalk.u64_in IntWalk.u8_in beq_self_eq_true Bool.true_beq Bool.false_beq Bool.and_true Bool.true_and Bool.false_and Bool.and_false Bool.and_self Bool.not_true Bool.not_false Bool.not_eq_true cond_true cond_false if_true if_false and_true true_and and_self decide_true decide_false Bool.or_true Bool.true_or Bool.or_false Bool.false_or List.isEmpty List.isEmpty_nil List.size_toArray List.map List.length_map List.length_cons List.length_nil Option.map Option.bind Option.getD Option.isSome List.replicate Bool.false_eq_true implies_true false_implies forall_const Array.toList Array.isEmpty List.append List.nil_append List.cons_append List.drop_zero List.take_length List.take_succ_cons List.take_zero List.take_nil List.getElem?_map List.getElem?_cons_zero List.getElem?_cons_succ List.getElem?_nil List.append_nil
attribute [local go_sem] FxNum.tk2 FxNum.ik2 FxNum.zv2 FxNum.tk3 FxNum.ik3 FxNum.zv3 FxNum.tk4 FxNum.ub4 FxNum.zv4 FxNum.tk5 FxNum.ik5 FxNum.zv5 FxNum.tk9 FxNum.ek9 FxNum.tk27 FxNum.ik27 FxNum.zv27 FxNum.tk133 FxNum.ik133 FxNum.zv133 FxNum.tk147 FxNum.ik147 FxNum.zv147 FxNum.tk176 FxNum.ct176 FxNum.zv176 FxNum.tk295 FxNum.mk66_1000000 FxNum.mk86_1000000 FxNum.mk87_1000000 FxNum.mk109_0 FxNum.mk109_1000001 FxNum.mk109_1000002 FxNum.mk109_1000000 FxNum.fi109_0 FxNum.mk110_1000000 FxNum.mk118_0 FxNum.mk118_1000001 FxNum.mk118_1000002 FxNum.mk118_1000000 FxNum.fi118_0 FxNum.mk150_1000001 FxNum.mk150_1000000 FxNum.mk171_0 FxNum.mk171_1000001 FxNum.mk171_1000002 FxNum.mk171_1000000 FxNum.fi171_0 FxNum.mk172_1000000 FxNum.mk182_1000000 FxNum.mk183_1000000 FxNum.dw203_6 FxNum.kl203_6 FxNum.nc203_6 FxNum.mk203_0 FxNum.mk203_2 FxNum.mk203_1000001 FxNum.mk203_1000002 FxNum.mk203_1000003 FxNum.mk203_1000004 FxNum.mk203_1000000 FxNum.fi203_0 FxNum.fi203_2 FxNum.mk225_1000000 FxNum.mk244_1000000
noncomputable def G4 : Specs := [(172, sMul)]
noncomputable def T4 : Table := tableOf [(109, en109)]
theorem G4_ok : ∀ g s, Ev.look G4 g = some s → SpecOk Try.prog g s := specs_cons sMul_ok specs_nil
theorem T4_ok : TableOk Try.prog (G4.map (·.1)) T4 := (table_cons Try.func109 (by kernel_rfl) (by kernel_rfl) table_nil)
abbrev u (x : Int) : V := .d (.int .u64 x)
def pw (j : Nat) : Int := ((2 ^ j : Nat) : Int)
theorem pw_pos (j : Nat) : 1 ≤ pw j := by unfold pw; exact_mod_cast Nat.two_pow_pos j
theorem pw_succ (j : Nat) : pw (j + 1) = pw j * 2 := by unfold pw; rw [Nat.pow_succ, Int.natCast_mul]; rfl
theorem pw_half (j : Nat) : pw (j + 1) / 2 = pw j := by rw [pw_succ]; omega
def hd (n : Int) (x : Nat × Int) : List V := hd109_0 (u (n / 18446744073709551616)) (u (n % 18446744073709551616)) (u x.2) (u (pw x.1 / 2))
theorem loop (L : Nat) (call : Caller) (st : Store) (n : Int) (hn0 : 0 ≤ n) (hn : n < 85070591730234615865843651857942052864) :
    ∀ (m : Nat) (x : Nat × Int) (env : List V), (x.1 ≤ 63 ∧ 0 ≤ x.2 ∧ x.2 % pw x.1 = 0 ∧ x.2 + pw x.1 ≤ 9223372036854775808 ∧ x.2 * x.2 ≤ n ∧ n < (x.2 + pw x.1) * (x.2 + pw x.1)) → x.1 < m → mask (maskOf en109.ms 0) env = hd n x →
      iter (evC Try.prog G4 call L en109.ms 0 0 lb109_0) (maskOf en109.ms 0) m env st = some (.exit 0, hx109_0 (u (isqrt n)), st) := by
  refine iter_wf _ _ _ (hd n) (fun _ => st) (fun _ => some (.exit 0, hx109_0 (u (isqrt n)), st)) (fun x => x.1) ?_
  rintro ⟨j, r⟩ ⟨i1, i2, i3, i4, i5, i6⟩ k hk
  simp only at i1 i2 i3 i4 i5 i6
  cases j with
  | zero =>
    have e0 : pw 0 = 1 := rfl
    have e1 : (1 : Int) / 2 = 0 := by decide
    rw [e0] at i6
    have er : isqrt n = r := isqrt_eq ⟨i2, i5, i6⟩
    simp only [lb109_0, loopN, loops, hd, hd109_0, hx109_0, Try.f109, go_sem, Nat.reduceAdd, Nat.reduceSub, Nat.reduceMul, Nat.reduceEqDiff, Nat.reduceBEq, Nat.reduceLT, Nat.reduceLeDiff, Nat.reducePow, Int.reduceToNat, Int.reduceLT, Int.reduceLE, Int.reduceGT, Int.reduceGE, Int.reduceEq, Int.reduceNeg, Int.reduceAdd, Int.reduceSub, ↓reduceIte, reduceCtorEq, e0, e1, er, show ¬ ((0 : Int) > 0) by decide]
  | succ j =>
    have p0 := pw_pos j
    have p1 := pw_succ j
    have c0 : pw j > 0 := by omega
    have ho : bitsI .or .u64 r (pw j) = r + pw j := or_add (p := pw (j + 1)) (j + 1) rfl i2 (by omega) i3 (by omega) (by omega) (by omega)
    have hs : shrI .u64 (pw j) 1 = pw j / 2 := shr1 _
    have rm := sMul_run (r + pw j) (r + pw j) ⟨by omega, by omega⟩ ⟨by omega, by omega⟩
    generalize hc : (r + pw j) * (r + pw j) = c at *
    have hw := words_le (a := c) (b := n)
    have hm : pw j * 2 = pw (j + 1) := p1.symm
    have hdv : r % pw j = 0 := by
      have e := Int.emod_emod_of_dvd r (show pw j ∣ pw (j + 1) from ⟨2, p1⟩)
      rw [← e, i3]; simp
    by_cases ht : c ≤ n
    · have hn' := hk (j, r + pw j)
      have hI : (j ≤ 63 ∧ 0 ≤ r + pw j ∧ (r + pw j) % pw j = 0 ∧ (r + pw j) + pw j ≤ 9223372036854775808 ∧ (r + pw j) * (r + pw j) ≤ n ∧ n < (r + pw j + pw j) * (r + pw j + pw j)) := by
        refine ⟨by omega, by omega, by rw [Int.add_emod_right]; exact hdv, by omega, by omega, ?_⟩
        rw [show r + pw j + pw j = r + pw (j + 1) by omega]; exact i6
      by_cases a1 : c / 18446744073709551616 < n / 18446744073709551616
      · simp only [lb109_0, loopN, loops, hd, hd109_0, G4, Try.f109, go_sem, Nat.reduceAdd, Nat.reduceSub, Nat.reduceMul, Nat.reduceEqDiff, Nat.reduceBEq, Nat.reduceLT, Nat.reduceLeDiff, Nat.reducePow, Int.reduceToNat, Int.reduceLT, Int.reduceLE, Int.reduceGT, Int.reduceGE, Int.reduceEq, Int.reduceNeg, Int.reduceAdd, Int.reduceSub, ↓reduceIte, reduceCtorEq, pw_half, c0, ho, hs, rm, a1]
        exact hn' _ hI (by simp) (by simp only [hd, hd109_0, go_sem, Nat.reduceAdd, Nat.reduceSub, Nat.reduceMul, Nat.reduceEqDiff, Nat.reduceBEq, Nat.reduceLT, Nat.reduceLeDiff, Nat.reducePow, Int.reduceToNat, Int.reduceLT, Int.reduceLE, Int.reduceGT, Int.reduceGE, Int.reduceEq, Int.reduceNeg, Int.reduceAdd, Int.reduceSub, ↓reduceIte, reduceCtorEq])
      · have a2 : c / 18446744073709551616 = n / 18446744073709551616 := by omega
        have a3 : c % 18446744073709551616 ≤ n % 18446744073709551616 := by omega
        have a4 : ¬ n / 18446744073709551616 < n / 18446744073709551616 := by omega
        simp only [lb109_0, loopN, loops, hd, hd109_0, G4, Try.f109, go_sem, Nat.reduceAdd, Nat.reduceSub, Nat.reduceMul, Nat.reduceEqDiff, Nat.reduceBEq, Nat.reduceLT, Nat.reduceLeDiff, Nat.reducePow, Int.reduceToNat, Int.reduceLT, Int.reduceLE, Int.reduceGT, Int.reduceGE, Int.reduceEq, Int.reduceNeg, Int.reduceAdd, Int.reduceSub, ↓reduceIte, reduceCtorEq, pw_half, c0, ho, hs, rm, a2, a3, a4]
        exact hn' _ hI (by simp) (by simp only [hd, hd109_0, go_sem, Nat.reduceAdd, Nat.reduceSub, Nat.reduceMul, Nat.reduceEqDiff, Nat.reduceBEq, Nat.reduceLT, Nat.reduceLeDiff, Nat.reducePow, Int.reduceToNat, Int.reduceLT, Int.reduceLE, Int.reduceGT, Int.reduceGE, Int.reduceEq, Int.reduceNeg, Int.reduceAdd, Int.reduceSub, ↓reduceIte, reduceCtorEq])
    · have hn' := hk (j, r)
      have hI : (j ≤ 63 ∧ 0 ≤ r ∧ r % pw j = 0 ∧ r + pw j ≤ 9223372036854775808 ∧ r * r ≤ n ∧ n < (r + pw j) * (r + pw j)) := ⟨by omega, i2, hdv, by omega, i5, by omega⟩
      have a1 : ¬ c / 18446744073709551616 < n / 18446744073709551616 := by omega
      by_cases a2 : c / 18446744073709551616 = n / 18446744073709551616
      · have a3 : ¬ c % 18446744073709551616 ≤ n % 18446744073709551616 := by omega
        have a4 : ¬ n / 18446744073709551616 < n / 18446744073709551616 := by omega
        simp only [lb109_0, loopN, loops, hd, hd109_0, G4, Try.f109, go_sem, Nat.reduceAdd, Nat.reduceSub, Nat.reduceMul, Nat.reduceEqDiff, Nat.reduceBEq, Nat.reduceLT, Nat.reduceLeDiff, Nat.reducePow, Int.reduceToNat, Int.reduceLT, Int.reduceLE, Int.reduceGT, Int.reduceGE, Int.reduceEq, Int.reduceNeg, Int.reduceAdd, Int.reduceSub, ↓reduceIte, reduceCtorEq, pw_half, c0, ho, hs, rm, a2, a3, a4]
        exact hn' _ hI (by simp) (by simp only [hd, hd109_0, go_sem, Nat.reduceAdd, Nat.reduceSub, Nat.reduceMul, Nat.reduceEqDiff, Nat.reduceBEq, Nat.reduceLT, Nat.reduceLeDiff, Nat.reducePow, Int.reduceToNat, Int.reduceLT, Int.reduceLE, Int.reduceGT, Int.reduceGE, Int.reduceEq, Int.reduceNeg, Int.reduceAdd, Int.reduceSub, ↓reduceIte, reduceCtorEq])
      · simp only [lb109_0, loopN, loops, hd, hd109_0, G4, Try.f109, go_sem, Nat.reduceAdd, Nat.reduceSub, Nat.reduceMul, Nat.reduceEqDiff, Nat.reduceBEq, Nat.reduceLT, Nat.reduceLeDiff, Nat.reducePow, Int.reduceToNat, Int.reduceLT, Int.reduceLE, Int.reduceGT, Int.reduceGE, Int.reduceEq, Int.reduceNeg, Int.reduceAdd, Int.reduceSub, ↓reduceIte, reduceCtorEq, pw_half, c0, ho, hs, rm, a1, a2]
        exact hn' _ hI (by simp) (by simp only [hd, hd109_0, go_sem, Nat.reduceAdd, Nat.reduceSub, Nat.reduceMul, Nat.reduceEqDiff, Nat.reduceBEq, Nat.reduceLT, Nat.reduceLeDiff, Nat.reducePow, Int.reduceToNat, Int.reduceLT, Int.reduceLE, Int.reduceGT, Int.reduceGE, Int.reduceEq, Int.reduceNeg, Int.reduceAdd, Int.reduceSub, ↓reduceIte, reduceCtorEq])
noncomputable def rootR (a b : Int) : Int := if a < 0 then 0 else if b < 0 then 0 else isqrt (a * b)
noncomputable def sSqrtMul : Ev.Spec := specC (c2 .i64) (fun x => I x.1 ∧ I x.2) fun x => [.int .i64 (rootR x.1 x.2)]
theorem sSqrtMul_run (a b : Int) (ha : I a) (hb : I b) : sSqrtMul.run [.int .i64 a, .int .i64 b] = some [.int .i64 (rootR a b)] := specC_run (c2 .i64) _ _ (a, b) ⟨ha, hb⟩
theorem pos_prod {a b : Int} (ha : I a) (hb : I b) (h1 : ¬ a < 0) (h2 : ¬ b < 0) : 0 ≤ a * b ∧ a * b < 85070591730234615865843651857942052864 := by
  obtain ⟨a0, a1⟩ := ha
  obtain ⟨b0, b1⟩ := hb
  have : a * b ≤ 9223372036854775807 * 9223372036854775807 := Int.mul_le_mul (by omega) (by omega) (by omega) (by omega)
  exact ⟨Int.mul_nonneg (by omega) (by omega), by omega⟩
theorem isqrt_bound {n : Int} (h0 : 0 ≤ n) (h : n < 85070591730234615865843651857942052864) : 0 ≤ isqrt n ∧ isqrt n < 9223372036854775808 := by
  obtain ⟨a, b, c⟩ := isqrt_spec h0
  exact ⟨a, sq_lt a (by omega) (by decide)⟩
theorem eSqrtMul (a b : Int) (ha : I a) (hb : I b) : evTop Try.prog G4 T4 64 1 109 [.int .i64 a, .int .i64 b] = some [.int .i64 (rootR a b)] := by
  unfold evTop
  simp only [List.map]
  rw [evF_s (fn := Try.f109) (msk := en109.ms) (hT := by rfl) (hb := by rfl)]
  by_cases h1 : a < 0
  · rw [rootR, if_pos h1]
    simp only [Try.f109, go_sem, Nat.reduceAdd, Nat.reduceSub, Nat.reduceMul, Nat.reduceEqDiff, Nat.reduceBEq, Nat.reduceLT, Nat.reduceLeDiff, Nat.reducePow, Int.reduceToNat, Int.reduceLT, Int.reduceLE, Int.reduceGT, Int.reduceGE, Int.reduceEq, Int.reduceNeg, Int.reduceAdd, Int.reduceSub, ↓reduceIte, reduceCtorEq, h1]
  by_cases h2 : b < 0
  · rw [rootR, if_neg h1, if_pos h2]
    simp only [Try.f109, go_sem, Nat.reduceAdd, Nat.reduceSub, Nat.reduceMul, Nat.reduceEqDiff, Nat.reduceBEq, Nat.reduceLT, Nat.reduceLeDiff, Nat.reducePow, Int.reduceToNat, Int.reduceLT, Int.reduceLE, Int.reduceGT, Int.reduceGE, Int.reduceEq, Int.reduceNeg, Int.reduceAdd, Int.reduceSub, ↓reduceIte, reduceCtorEq, h1, h2]
  rw [rootR, if_neg h1, if_neg h2]
  obtain ⟨n0, n1⟩ := pos_prod ha hb h1 h2
  obtain ⟨q0, q1⟩ := isqrt_bound n0 n1
  have ua : IntKind.u64.wrap a = a := wu_in (by omega) (by unfold I at ha; omega)
  have ub : IntKind.u64.wrap b = b := wu_in (by omega) (by unfold I at hb; omega)
  have rm := sMul_run a b ⟨by omega, by unfold I at ha; omega⟩ ⟨by omega, by unfold I at hb; omega⟩
  have wq : IntKind.i64.wrap (isqrt (a * b)) = isqrt (a * b) := wi_in (by omega) (by omega)
  simp only [Try.f109, G4, go_sem, Nat.reduceAdd, Nat.reduceSub, Nat.reduceMul, Nat.reduceEqDiff, Nat.reduceBEq, Nat.reduceLT, Nat.reduceLeDiff, Nat.reducePow, Int.reduceToNat, Int.reduceLT, Int.reduceLE, Int.reduceGT, Int.reduceGE, Int.reduceEq, Int.reduceNeg, Int.reduceAdd, Int.reduceSub, ↓reduceIte, reduceCtorEq, h1, h2, ua, ub, rm]
  conv in iter _ _ _ _ _ => change iter (evC _ G4 _ _ en109.ms _ _ lb109_0) (maskOf en109.ms 0) _ _ _
  have p63 : pw 63 = 9223372036854775808 := by decide
  rw [loop _ _ empty (a * b) n0 n1 _ (63, 0) _ ⟨by decide, by decide, by decide, by decide, by simpa using n0, by rw [p63]; simp; omega⟩ (by simp) (by simp only [hd, hd109_0, go_sem, Nat.reduceAdd, Nat.reduceSub, Nat.reduceMul, Nat.reduceEqDiff, Nat.reduceBEq, Nat.reduceLT, Nat.reduceLeDiff, Nat.reducePow, Int.reduceToNat, Int.reduceLT, Int.reduceLE, Int.reduceGT, Int.reduceGE, Int.reduceEq, Int.reduceNeg, Int.reduceAdd, Int.reduceSub, ↓reduceIte, reduceCtorEq, p63]; rfl)]
  simp only [hx109_0, go_sem, Nat.reduceAdd, Nat.reduceSub, Nat.reduceMul, Nat.reduceEqDiff, Nat.reduceBEq, Nat.reduceLT, Nat.reduceLeDiff, Nat.reducePow, Int.reduceToNat, Int.reduceLT, Int.reduceLE, Int.reduceGT, Int.reduceGE, Int.reduceEq, Int.reduceNeg, Int.reduceAdd, Int.reduceSub, ↓reduceIte, reduceCtorEq, wq]
theorem sSqrtMul_ok : SpecOk Try.prog 109 sSqrtMul := specC_ok mixed G4_ok T4_ok fun x hp => ⟨64, 1, eSqrtMul x.1 x.2 hp.1 hp.2⟩
#print axioms sSqrtMul_ok
end Go.Proofs.Ytnojehmbiceceaa.Num4Num
end
