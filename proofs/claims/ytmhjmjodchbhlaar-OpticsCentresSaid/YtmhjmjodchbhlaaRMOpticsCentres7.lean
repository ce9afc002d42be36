/- Parts of one proof, joined: Ari, Num1Pull, Num2Pull, Num3Pull. -/
import Derived.Test.YtmhjmjodchbhlaaRMOpticsCentres6
import Derived.Laws.MathBits
import Derived.Laws.Bits64b
import Derived.Laws.Externs
section
set_option linter.unusedVariables false
set_option linter.unusedSimpArgs false
namespace Go.Ari
open Go.Ev
/-! ### words -/
theorem wu (n : Int) : IntKind.u64.wrap n = n % 18446744073709551616 := by simp [IntKind.wrap, IntKind.bits, IntKind.signed]
theorem wu_in {n : Int} (h0 : 0 ≤ n) (h : n < 18446744073709551616) : IntKind.u64.wrap n = n := by rw [wu]; omega
theorem wi (n : Int) : IntKind.i64.wrap n = (n + 9223372036854775808) % 18446744073709551616 - 9223372036854775808 := IntKind.wrap_i64 n
theorem wi_in {n : Int} (h0 : -9223372036854775808 ≤ n) (h : n < 9223372036854775808) : IntKind.i64.wrap n = n := by rw [wi]; omega
theorem wu_bits (o : BinOp) (x y : Int) : 0 ≤ bitsI o .u64 x y ∧ bitsI o .u64 x y < 18446744073709551616 := by unfold bitsI; split <;> rw [wu] <;> omega
theorem shr_lit (k : IntKind) (x : Int) (n : Nat) (hn : n ≤ k.bits) : shrI k x n = x / ((2 ^ n : Nat) : Int) := by
  unfold shrI
  rw [Int.toNat_natCast, Nat.min_eq_left hn, Int.fdiv_eq_ediv_of_nonneg _ (Int.pow_nonneg (by omega)), Int.natCast_pow]
  rfl
theorem shl_lit (k : IntKind) (x : Int) (n : Nat) (hn : n ≤ k.bits) : shlI k x n = k.wrap (x * ((2 ^ n : Nat) : Int)) := by
  unfold shlI
  rw [Int.toNat_natCast, Nat.min_eq_left hn, Int.natCast_pow]
  rfl
theorem shr32 (x : Int) : shrI .u64 x 32 = x / 4294967296 := shr_lit .u64 x 32 (by decide)
theorem shr1 (x : Int) : shrI .u64 x 1 = x / 2 := shr_lit .u64 x 1 (by decide)
theorem and32 (z : Int) (h0 : 0 ≤ z) (h1 : z < 18446744073709551616) : bitsI .and .u64 z 4294967295 = z % 4294967296 := and_low32 z h0 h1
theorem wraps_u64 (n : Int) (h₀ : 0 ≤ n) (h₁ : n < 2 ^ 64) : IntKind.u64.wrap n = n := wu_in h₀ (by simpa using h₁)
/-- Two parts of a word that do not meet. -/
theorem or_add {x y p : Int} (i : Nat) (hp : p = ((2 ^ i : Nat) : Int)) (hx0 : 0 ≤ x) (hx : x < 18446744073709551616) (hm : x % p = 0) (hy0 : 0 ≤ y) (hy : y < p) (hy1 : y < 18446744073709551616) : bitsI .or .u64 x y = x + y := by
  subst hp
  have e : ((2 ^ i : Nat) : Int) = (2 : Int) ^ i := by rw [Int.natCast_pow]; rfl
  rw [e] at hm hy
  exact bits_join .u64 64 (by decide) wraps_u64 i x y hx0 hm (by simpa using hx) hy0 hy (by simpa using hy1)
theorem not_u64 {x : Int} (h0 : 0 ≤ x) (h1 : x < 18446744073709551616) : bitsI .xor .u64 18446744073709551615 x = 18446744073709551615 - x := by
  have e : bitsI .xor .u64 18446744073709551615 x = IntKind.u64.wrap ((BitVec.ofInt 64 18446744073709551615 ^^^ BitVec.ofInt 64 x).toNat : Nat) := rfl
  have a : BitVec.ofInt 64 18446744073709551615 = BitVec.allOnes 64 := by decide
  rw [e, a, BitVec.allOnes_xor, BitVec.toNat_not, BitVec.toNat_ofInt]
  have b : (x % ((2 ^ 64 : Nat) : Int)).toNat = x.toNat := by
    have : ((2 ^ 64 : Nat) : Int) = 18446744073709551616 := by decide
    rw [this]; omega
  rw [b, wu_in]
  · have : (2 : Nat) ^ 64 = 18446744073709551616 := by decide
    omega
  · omega
  · have : (2 : Nat) ^ 64 = 18446744073709551616 := by decide
    omega
/-- The high word of a product, as the library computes it. -/
theorem mul_hi {x y : Int} (hx0 : 0 ≤ x) (hx : x < 18446744073709551616) (hy0 : 0 ≤ y) (hy : y < 18446744073709551616) :
    IntKind.u64.wrap (IntKind.u64.wrap (IntKind.u64.wrap (shrI .u64 x 32 * shrI .u64 y 32) + shrI .u64 (IntKind.u64.wrap (IntKind.u64.wrap (shrI .u64 x 32 * bitsI .and .u64 y 4294967295) + shrI .u64 (IntKind.u64.wrap (bitsI .and .u64 x 4294967295 * bitsI .and .u64 y 4294967295)) 32)) 32) +
      shrI .u64 (IntKind.u64.wrap (bitsI .and .u64 (IntKind.u64.wrap (IntKind.u64.wrap (shrI .u64 x 32 * bitsI .and .u64 y 4294967295) + shrI .u64 (IntKind.u64.wrap (bitsI .and .u64 x 4294967295 * bitsI .and .u64 y 4294967295)) 32)) 4294967295 + IntKind.u64.wrap (bitsI .and .u64 x 4294967295 * shrI .u64 y 32))) 32) = x * y / 18446744073709551616 := by
  have m := mul64_arith x y hx0 hx hy0 hy
  simp only [shr32, and32 x hx0 hx, and32 y hy0 hy, wu]
  rw [and32 _ (by omega) (by omega)]
  exact m
theorem hi_lt {x y : Int} (hx0 : 0 ≤ x) (hx : x < 18446744073709551616) (hy0 : 0 ≤ y) (hy : y < 18446744073709551616) : 0 ≤ x * y ∧ x * y / 18446744073709551616 < 18446744073709551616 := by
  have h : x * y ≤ 18446744073709551615 * 18446744073709551615 := Int.mul_le_mul (by omega) (by omega) hy0 (by omega)
  have h0 := Int.mul_nonneg hx0 hy0
  omega
/-- Two words compared as one number. -/
theorem words_le {a b : Int} : (a / 18446744073709551616 < b / 18446744073709551616 ∨ (a / 18446744073709551616 = b / 18446744073709551616 ∧ a % 18446744073709551616 ≤ b % 18446744073709551616)) ↔ a ≤ b := by omega
theorem words_eq {a b : Int} : (a / 18446744073709551616 = b / 18446744073709551616 ∧ a % 18446744073709551616 = b % 18446744073709551616) ↔ a = b := by omega
/-! ### roots -/
def IsRoot (r n : Int) : Prop := 0 ≤ r ∧ r * r ≤ n ∧ n < (r + 1) * (r + 1)
theorem sq_le {a b : Int} (h0 : 0 ≤ a) (h : a ≤ b) : a * a ≤ b * b := Int.mul_le_mul h h h0 (by omega)
theorem sq_lt {a b : Int} (h0 : 0 ≤ a) (h : a * a < b * b) (hb : 0 ≤ b) : a < b := by
  refine Int.lt_of_not_ge fun hc => ?_
  have := sq_le hb hc
  omega
theorem root_unique {r s n : Int} (h : IsRoot r n) (h' : IsRoot s n) : r = s := by
  obtain ⟨a1, a2, a3⟩ := h
  obtain ⟨b1, b2, b3⟩ := h'
  have := sq_lt (a := r) (b := s + 1) a1 (by omega) (by omega)
  have := sq_lt (a := s) (b := r + 1) b1 (by omega) (by omega)
  omega
open Classical in
noncomputable def isqrt (n : Int) : Int := if h : ∃ r, IsRoot r n then h.choose else 0
theorem isqrt_eq {r n : Int} (h : IsRoot r n) : isqrt n = r := by
  have hx : ∃ r, IsRoot r n := ⟨r, h⟩
  unfold isqrt
  rw [dif_pos hx]
  exact root_unique hx.choose_spec h
theorem root_ex (n : Nat) : ∃ r, IsRoot r n := by
  induction n with
  | zero => exact ⟨0, by simp [IsRoot]⟩
  | succ n ih =>
    obtain ⟨r, h0, h1, h2⟩ := ih
    by_cases h : ((n + 1 : Nat) : Int) < (r + 1) * (r + 1)
    · exact ⟨r, h0, by omega, h⟩
    · refine ⟨r + 1, by omega, by omega, ?_⟩
      have e : (r + 1 + 1) * (r + 1 + 1) = (r + 1) * (r + 1) + 2 * r + 3 := by
        rw [Int.mul_add, Int.add_mul, Int.mul_one, Int.one_mul]; omega
      omega
theorem isqrt_spec {n : Int} (h : 0 ≤ n) : IsRoot (isqrt n) n := by
  obtain ⟨k, rfl⟩ := Int.eq_ofNat_of_zero_le h
  obtain ⟨r, hr⟩ := root_ex k
  rw [isqrt_eq hr]
  exact hr
/-! ### long division -/
/-- One digit of a long division: an estimate that is too large by two at most is brought down. -/
theorem below_top {U y u1 : Int} (hU : U < y) (hu : u1 < 4294967296) (hU0 : 0 ≤ U) (h0 : 0 ≤ u1) (hy : 0 < y) : 0 ≤ (U * 4294967296 + u1) / y ∧ (U * 4294967296 + u1) / y < 4294967296 := by
  refine ⟨Int.ediv_nonneg (by omega) (by omega), Int.ediv_lt_of_lt_mul hy ?_⟩
  have : (U + 1) * 4294967296 ≤ y * 4294967296 := Int.mul_le_mul_of_nonneg_right (by omega) (by omega)
  have e : y * 4294967296 = 4294967296 * y := Int.mul_comm _ _
  omega
theorem prod_split (q y1 y0 : Int) : q * (y1 * 4294967296 + y0) = q * y1 * 4294967296 + q * y0 := by rw [Int.mul_add, Int.mul_assoc]
/-- The digit is less than an estimate that fails the test. -/
theorem digit_down {U y1 y0 u1 q r : Int} (hr : r = U - q * y1) (hU : U < y1 * 4294967296 + y0) (hu : u1 < 4294967296) (hU0 : 0 ≤ U) (h0 : 0 ≤ u1) (hy : 0 < y1 * 4294967296 + y0)
    (hc : 4294967296 ≤ q ∨ 4294967296 * r + u1 < q * y0) : (U * 4294967296 + u1) / (y1 * 4294967296 + y0) ≤ q - 1 := by
  rcases hc with h | h
  · have := (below_top hU hu hU0 h0 hy).2; omega
  · have : (U * 4294967296 + u1) / (y1 * 4294967296 + y0) < q := by
      refine Int.ediv_lt_of_lt_mul hy ?_
      have e := prod_split q y1 y0
      omega
    omega
/-- An estimate that passes the test is the digit. -/
theorem digit_done {U y1 y0 u1 q r : Int} (hr : r = U - q * y1) (hy : 0 < y1 * 4294967296 + y0) (hq : (U * 4294967296 + u1) / (y1 * 4294967296 + y0) ≤ q)
    (hc : q * y0 ≤ 4294967296 * r + u1) : q = (U * 4294967296 + u1) / (y1 * 4294967296 + y0) := by
  have : q ≤ (U * 4294967296 + u1) / (y1 * 4294967296 + y0) := by
    refine (Int.le_ediv_iff_mul_le hy).2 ?_
    have e := prod_split q y1 y0
    omega
  omega
theorem small_prod {q y0 : Int} (hq : q ≤ 4294967296) (h0 : 0 ≤ q) (hy : y0 < 4294967296) (hy0 : 0 ≤ y0) : q * y0 ≤ 4294967296 * 4294967295 := 
  Int.mul_le_mul hq (by omega) hy0 (by omega)
theorem digit_break {U y1 y0 u1 q r : Int} (hr : r = U - q * y1) (hy : 0 < y1 * 4294967296 + y0) (hq : (U * 4294967296 + u1) / (y1 * 4294967296 + y0) ≤ q)
    (h4 : 4294967296 ≤ r) (hq1 : q ≤ 4294967296) (hq0 : 0 ≤ q) (hy0 : y0 < 4294967296) (hy00 : 0 ≤ y0) (h0 : 0 ≤ u1) : q = (U * 4294967296 + u1) / (y1 * 4294967296 + y0) := by
  have := small_prod hq1 hq0 hy0 hy00
  exact digit_done hr hy hq (by omega)
/-- The first estimate. -/
theorem digit_first {U y1 y0 u1 : Int} (hU : U < y1 * 4294967296 + y0) (hU0 : 0 ≤ U) (hy1 : 2147483648 ≤ y1) (hy0 : y0 < 4294967296) (h00 : 0 ≤ y0) (hu : u1 < 4294967296) (h0 : 0 ≤ u1) :
    (U * 4294967296 + u1) / (y1 * 4294967296 + y0) ≤ U / y1 ∧ U / y1 ≤ 4294967297 ∧ 0 ≤ U / y1 ∧ 0 ≤ U - U / y1 * y1 ∧ U - U / y1 * y1 < y1 := by
  have e1 := Int.mul_ediv_add_emod U y1
  have e2 := Int.emod_nonneg U (show y1 ≠ 0 by omega)
  have e3 := Int.emod_lt_of_pos U (show 0 < y1 by omega)
  have e4 : y1 * (U / y1) = U / y1 * y1 := Int.mul_comm _ _
  refine ⟨?_, ?_, Int.ediv_nonneg hU0 (by omega), by omega, by omega⟩
  · rw [Int.le_ediv_iff_mul_le (show 0 < y1 by omega)]
    have e5 := Int.ediv_mul_le (U * 4294967296 + u1) (show y1 * 4294967296 + y0 ≠ 0 by omega)
    have e6 := prod_split ((U * 4294967296 + u1) / (y1 * 4294967296 + y0)) y1 y0
    have e7 : 0 ≤ (U * 4294967296 + u1) / (y1 * 4294967296 + y0) * y0 := Int.mul_nonneg (below_top hU hu hU0 h0 (by omega)).1 h00
    omega
  · have : U / y1 < 4294967298 := Int.ediv_lt_of_lt_mul (by omega) (by omega)
    omega
/-- What two digits of a quotient are. -/
theorem two_digits {U u1 u0 y : Int} (hy : 0 < y) (hu : u0 < 4294967296) (h0 : 0 ≤ u0) :
    let q1 := (U * 4294967296 + u1) / y
    let r1 := U * 4294967296 + u1 - q1 * y
    let q0 := (r1 * 4294967296 + u0) / y
    q1 * 4294967296 + q0 = (U * 18446744073709551616 + u1 * 4294967296 + u0) / y ∧ r1 * 4294967296 + u0 - q0 * y = (U * 18446744073709551616 + u1 * 4294967296 + u0) % y ∧ 0 ≤ r1 ∧ r1 < y := by
  intro q1 r1 q0
  have a1 := Int.mul_ediv_add_emod (U * 4294967296 + u1) y
  have a2 := Int.emod_nonneg (U * 4294967296 + u1) (show y ≠ 0 by omega)
  have a3 := Int.emod_lt_of_pos (U * 4294967296 + u1) hy
  have b1 := Int.mul_ediv_add_emod (r1 * 4294967296 + u0) y
  have b2 := Int.emod_nonneg (r1 * 4294967296 + u0) (show y ≠ 0 by omega)
  have b3 := Int.emod_lt_of_pos (r1 * 4294967296 + u0) hy
  have c1 : y * ((U * 4294967296 + u1) / y) = q1 * y := Int.mul_comm _ _
  have c2 : y * ((r1 * 4294967296 + u0) / y) = q0 * y := Int.mul_comm _ _
  have c3 : (q1 * 4294967296 + q0) * y = q1 * y * 4294967296 + q0 * y := by rw [Int.add_mul, Int.mul_right_comm]
  have hd : U * 18446744073709551616 + u1 * 4294967296 + u0 = (r1 * 4294967296 + u0 - q0 * y) + (q1 * 4294967296 + q0) * y := by
    simp only [r1] at *
    omega
  have hlo : 0 ≤ r1 * 4294967296 + u0 - q0 * y := by omega
  have hhi : r1 * 4294967296 + u0 - q0 * y < y := by omega
  refine ⟨?_, ?_, by omega, by omega⟩
  · rw [hd, Int.add_mul_ediv_right _ _ (by omega), Int.ediv_eq_zero_of_lt hlo hhi]; omega
  · rw [hd, Int.add_mul_emod_self_right, Int.emod_eq_of_lt hlo hhi]
/-- Both numbers multiplied: the quotient stays, the remainder is multiplied. -/
theorem scale_div (n y s : Int) (hs : 0 < s) : (n * s) / (y * s) = n / y ∧ (n * s) % (y * s) = n % y * s := by
  refine ⟨Int.mul_ediv_mul_of_pos_left _ _ hs, ?_⟩
  rw [Int.mul_comm n s, Int.mul_comm y s, Int.mul_emod_mul_of_pos _ _ hs, Int.mul_comm]
end Go.Ari
end
section
set_option linter.unusedVariables false
set_option linter.unusedSimpArgs false
set_option maxRecDepth 100000
namespace Go.Proofs.YtmhjmjodchbhlaaR.Num1Pull
open Go.Ev Go.Ari Go.Proofs.YtmhjmjodchbhlaaR.FxPull
attribute [local go_sem] Ev.putR_s Ev.putR_0 Ev.thenO_s Ev.thenO_0 Ev.seqR_n Ev.seqR_e Ev.seqR_r Ev.seqR_0 Ev.blkR_e Ev.blkR_n Ev.blkR_r Ev.blkR_0 Ev.normR_s Ev.normR_0 Ev.outR_r Ev.outR_n Ev.outR_0 Ev.retS_s Ev.retS_0 Ev.pureO_s Ev.pureO_0 Ev.topR_0 Ev.topR_t Ev.topR_t0 Ev.oneL_0 Ev.oneL_s Ev.topR_d Ev.topR_nils Ev.topR_agg Ev.topR_rs Ev.evOp_move Ev.evOp_assign Ev.evOp_pick Ev.evOp_alloc Ev.evOp_box Ev.evOp_build Ev.evOp_buildSlice Ev.evOp_load Ev.evOp_store Ev.evOp_makeMap Ev.evOp_lookup Ev.evOp_mapUpdate Ev.evOp_insert Ev.evOp_nilCheck Ev.evOp_binOp Ev.evOp_unOp Ev.evOp_convert Ev.evOp_makeFunc Ev.evOp_makeSlice Ev.evOp_slice Ev.evOp_fieldAddr Ev.evOp_field Ev.evOp_indexAddr Ev.evOp_index Ev.evOp_extract Ev.evOp_call Ev.evOp_append Ev.evOp_len Ev.evOp_min Ev.evOp_max Ev.condR_b Ev.condR_t Ev.evOps_nil Ev.evOps_plain Ev.evOps_guard Ev.runG_eq Ev.skipG_eq Ev.condL_tt Ev.condL_ff Ev.condL_tf Ev.condL_ft Ev.condL_u Ev.condC_t Ev.condC_f Ev.evC_skip Ev.evC_ret Ev.evC_exit Ev.evC_label Ev.evC_region Ev.evC_draw Ev.evC_seq Ev.evC_cond Ev.evC_block Ev.evC_loop Ev.fin_d Ev.fin_nils Ev.fin_agg_ Ev.fin_rs Ev.finS_s Ev.mapO_fin Ev.upd_upd Ev.argv_d Ev.argv_nils Ev.argv_agg Ev.argv_rs Ev.argv_p Ev.appendTo_nils Ev.appendTo_rs Ev.consV_d Ev.consV_agg Ev.consV_p Ev.consV_rs Ev.consV_nils Ev.consV_fn Ev.consV_und Ev.consV_jk Ev.consV_grown Ev.topR_grown Ev.len_grown Ev.consV_mp Ev.sameK_i Ev.sameK_s Ev.mget_0 Ev.mget_hit Ev.mget_miss Ev.mput_0 Ev.mput_hit Ev.mput_miss Ev.apartAll Ev.apartL Ev.apartV Ev.freeAll Ev.sel Ev.keyOfV Ev.evLookup Ev.evPut Ev.hintOk Ev.keyOk Ev.consP Ev.lookV Ev.guardV Ev.dstAt Ev.evPure Ev.evStore Ev.evPureB Ev.evBin Ev.evBinO Ev.evNil Ev.isNilC Ev.evUn Ev.evConv Ev.evSlice Ev.optI Ev.lenV Ev.elemT Ev.foldI Ev.capsOk Ev.noTup Ev.nth Ev.setN Ev.pad Ev.V.get Ev.V.put Ev.putD Ev.hasT Ev.newBlk Ev.upd Ev.keq Ev.empty Ev.evCall Ev.V.args Ev.argP Ev.callOf Ev.evNilP Ev.isNilP Ev.look Ev.V.view.views Ev.V.view Ev.V.toD Ev.V.toD.V.toDs Ev.V.pure.pures Ev.V.pure Ev.D.flat.flats Ev.D.flat Ev.mkAgg Ev.allD Ev.aggParts Ev.setParts Ev.setElems Ev.getPath Ev.setPath Ev.subL Ev.eqD Ev.eqD.eqDs Ev.and2 Ev.strCut Ev.evalT Ev.constT Ev.evArgs Ev.mask Ev.maskOf Ev.tableOf Ev.compT Ev.resV Ev.retV Ev.mapO Ev.elemsOf Int.cast_ofNat_Int IntWalk.i64_in IntWalk.u64_in IntWalk.u8_in beq_self_eq_true Bool.true_beq Bool.false_beq Bool.and_true Bool.true_and Bool.false_and Bool.and_false Bool.and_self Bool.not_true Bool.not_false Bool.not_eq_true cond_true cond_false if_true if_false and_true true_and and_self decide_true decide_false Bool.or_true Bool.true_or Bool.or_false Bool.false_or List.isEmpty List.isEmpty_nil List.size_toArray List.map List.length_map List.length_cons List.length_nil Option.map Option.bind Option.getD Option.isSome List.replicate Bool.false_eq_true implies_true forall_const Array.toList Array.isEmpty List.append List.nil_append List.cons_append List.drop_zero List.take_length List.take_succ_cons List.take_zero List.take_nil List.getElem?_map List.getElem?_cons_zero List.getElem?_cons_succ List.getElem?_nil List.append_nil
attribute [local go_sem] FxPull.tk2 FxPull.ik2 FxPull.ek2 FxPull.zv2 FxPull.tk3 FxPull.ik3 FxPull.ek3 FxPull.zv3 FxPull.tk4 FxPull.ub4 FxPull.zv4 FxPull.tk5 FxPull.ik5 FxPull.zv5 FxPull.tk9 FxPull.ek9 FxPull.tk23 FxPull.ct23 FxPull.ek23 FxPull.zv23 FxPull.tk27 FxPull.ik27 FxPull.zv27 FxPull.tk37 FxPull.ik37 FxPull.zv37 FxPull.by37 FxPull.so37 FxPull.tk39 FxPull.ct39 FxPull.zv39 FxPull.by39 FxPull.so39 FxPull.tk43 FxPull.zv43 FxPull.tk44 FxPull.zv44 FxPull.tk45 FxPull.zv45 FxPull.tk47 FxPull.ct47 FxPull.zv47 FxPull.tk48 FxPull.ik48 FxPull.zv48 FxPull.tk76 FxPull.ct76 FxPull.zv76 FxPull.by76 FxPull.so76 FxPull.tk77 FxPull.zv77 FxPull.tk79 FxPull.ct79 FxPull.zv79 FxPull.by79 FxPull.so79 FxPull.tk88 FxPull.zv88 FxPull.tk92 FxPull.ik92 FxPull.zv92 FxPull.tk135 FxPull.ik135 FxPull.zv135 FxPull.tk136 FxPull.mt136 FxPull.sm136 FxPull.zw4 FxPull.zv136 FxPull.tk145 FxPull.zv145 FxPull.tk148 FxPull.ct148 FxPull.zv148 FxPull.tk150 FxPull.ct150 FxPull.zv150 FxPull.tk161 FxPull.ct161 FxPull.zv161 FxPull.tk203 FxPull.dw3_1 FxPull.nc3_1 FxPull.mk3_1000000 FxPull.mk4_1000000 FxPull.mk14_1000000 FxPull.dw15_7 FxPull.nc15_7 FxPull.mk15_1000000 FxPull.dw16_7 FxPull.nc16_7 FxPull.mk16_1000000 FxPull.mk17_1000000 FxPull.mk18_1000000 FxPull.mk30_1000000 FxPull.mk40_0 FxPull.mk40_2 FxPull.mk40_4 FxPull.mk40_1000001 FxPull.mk40_1000002 FxPull.mk40_1000003 FxPull.mk40_1000004 FxPull.mk40_1000005 FxPull.mk40_1000006 FxPull.mk40_1000007 FxPull.mk40_1000000 FxPull.mk46_0 FxPull.mk46_1000001 FxPull.mk46_1000002 FxPull.mk46_1000000 FxPull.mk47_1000000 FxPull.mk48_1000000 FxPull.mk49_1000000 FxPull.mk50_1000000 FxPull.mk51_0 FxPull.mk51_1000001 FxPull.mk51_1000002 FxPull.mk51_1000000 FxPull.dw52_2 FxPull.nc52_2 FxPull.mk52_1000000 FxPull.mk53_1000000 FxPull.mk54_1000000 FxPull.mk55_1000001 FxPull.mk55_1000000 FxPull.mk64_1000000 FxPull.mk78_0 FxPull.mk78_1000001 FxPull.mk78_1000002 FxPull.mk78_1000000 FxPull.mk87_1000001 FxPull.mk87_1000000 FxPull.mk88_1000001 FxPull.mk88_1000000 FxPull.mk89_0 FxPull.mk89_1000001 FxPull.mk89_1000002 FxPull.mk89_1000000 FxPull.mk93_1000001 FxPull.mk93_1000000 FxPull.mk95_1000000 FxPull.mk98_0 FxPull.mk98_1000001 FxPull.mk98_1000002 FxPull.mk98_1000000 FxPull.mk99_1000000 FxPull.mk100_1000001 FxPull.mk100_1000000 FxPull.mk101_1000000 FxPull.mk102_1000000 FxPull.mk103_0 FxPull.mk103_1000001 FxPull.mk103_1000002 FxPull.mk103_1000000 FxPull.mk127_1000000 FxPull.mk128_1000000 FxPull.mk131_0 FxPull.mk131_1000001 FxPull.mk131_1000002 FxPull.mk131_1000000 FxPull.mk134_1000000 FxPull.mk135_1000000 FxPull.dw136_6 FxPull.nc136_6 FxPull.mk136_0 FxPull.mk136_2 FxPull.mk136_1000001 FxPull.mk136_1000002 FxPull.mk136_1000003 FxPull.mk136_1000004 FxPull.mk136_1000000 FxPull.mk152_1000000
def c3 (k : IntKind) : CodL (Int × Int × Int) := cCons (cI k) (cCons (cI k) (cOne (cI k)))
def c2 (k : IntKind) : CodL (Int × Int) := cCons (cI k) (cOne (cI k))
def c1 (k : IntKind) : CodL Int := cOne (cI k)
def U (x : Int) : Prop := 0 ≤ x ∧ x < 18446744073709551616
def I (x : Int) : Prop := -9223372036854775808 ≤ x ∧ x < 9223372036854775808
/-! ### Add64 -/
noncomputable def sAdd : Ev.Spec := specC (c3 .u64) (fun x => U x.1 ∧ U x.2.1 ∧ 0 ≤ x.2.2 ∧ x.2.2 ≤ 1) fun x => [.int .u64 ((x.1 + x.2.1 + x.2.2) % 18446744073709551616), .int .u64 ((x.1 + x.2.1 + x.2.2) / 18446744073709551616)]
theorem sAdd_run (x y c : Int) (hx : U x) (hy : U y) (h0 : 0 ≤ c) (h1 : c ≤ 1) : sAdd.run [.int .u64 x, .int .u64 y, .int .u64 c] = some [.int .u64 ((x + y + c) % 18446744073709551616), .int .u64 ((x + y + c) / 18446744073709551616)] := specC_run (c3 .u64) _ _ (x, y, c) ⟨hx, hy, h0, h1⟩
theorem sAdd_ok : SpecOk Try.prog 138 sAdd := by
  intro xs rs S w vals hrun hS hargs
  unfold sAdd specC at hrun
  obtain ⟨⟨x, y, c⟩, rfl, ⟨hx, hy, h0, h1⟩, rfl⟩ := mkSpec_inv hrun
  have hr := hargs (fun _ => none) empty
  obtain ⟨v1, r1, rfl, a1, hr⟩ := hr
  obtain ⟨v2, r2, rfl, a2, hr⟩ := hr
  obtain ⟨v3, r3, rfl, a3, hr⟩ := hr
  cases hr
  have e1 := relV_int (RelN.to_v a1)
  have e2 := relV_int (RelN.to_v a2)
  have e3 := relV_int (RelN.to_v a3)
  subst e1 e2 e3
  refine .inr ⟨.tuple #[.int .u64 ((x + y + c) % 18446744073709551616), .int .u64 ((x + y + c) / 18446744073709551616)], w, ?_, RowKit.Below.refl _ _, ?_⟩
  · rw [run_callFunc_extern Try.func138 (by kernel_rfl) (by kernel_rfl) (by kernel_rfl) (e := add64Entry) (by kernel_rfl)]
    simp only [run_add64 x y c hx.1 hy.1 h0 h1, Result.andThen_ok]
  · intro σ st
    exact ⟨[_, _], rfl, ⟨_, _, rfl, .inr (.inr ⟨rfl, rfl⟩), ⟨_, _, rfl, .inr (.inr ⟨rfl, rfl⟩), rfl⟩⟩⟩
/-! ### Mul64 -/
noncomputable def T1 : Table := tableOf [(101, en101), (127, en127), (152, en152)]
theorem T1_ok : TableOk Try.prog (([] : Specs).map (·.1)) T1 := (table_cons Try.func101 (by kernel_rfl) (by kernel_rfl) (table_cons Try.func127 (by kernel_rfl) (by kernel_rfl) (table_cons Try.func152 (by kernel_rfl) (by kernel_rfl) table_nil)))
noncomputable def sMul : Ev.Spec := specC (c2 .u64) (fun x => U x.1 ∧ U x.2) fun x => [.int .u64 (x.1 * x.2 / 18446744073709551616), .int .u64 (x.1 * x.2 % 18446744073709551616)]
theorem sMul_run (x y : Int) (hx : U x) (hy : U y) : sMul.run [.int .u64 x, .int .u64 y] = some [.int .u64 (x * y / 18446744073709551616), .int .u64 (x * y % 18446744073709551616)] := specC_run (c2 .u64) _ _ (x, y) ⟨hx, hy⟩
theorem eMul (x y : Int) (hx : U x) (hy : U y) : evTop Try.prog [] T1 0 1 101 [.int .u64 x, .int .u64 y] = some [.int .u64 (x * y / 18446744073709551616), .int .u64 (x * y % 18446744073709551616)] := by
  unfold evTop
  simp only [List.map]
  rw [evF_s (fn := Try.f101) (msk := en101.ms) (hT := by rfl) (hb := by rfl)]
  simp only [Try.f101, go_sem, Nat.reduceAdd, Nat.reduceSub, Nat.reduceMul, Nat.reduceEqDiff, Nat.reduceBEq, Nat.reduceLT, Nat.reduceLeDiff, Nat.reducePow, Int.reduceToNat, Int.reduceLT, Int.reduceLE, Int.reduceGT, Int.reduceGE, Int.reduceEq, Int.reduceNeg, Int.reduceAdd, Int.reduceSub, ↓reduceIte, reduceCtorEq]
  have m := mul_hi hx.1 hx.2 hy.1 hy.2
  rw [m, wu (x * y)]
theorem sMul_ok : SpecOk Try.prog 101 sMul := specC_ok mixed specs_nil T1_ok fun x hp => ⟨0, 1, eMul x.1 x.2 hp.1 hp.2⟩
/-! ### Len64 -/
theorem tab_at {n : Int} (h0 : 0 ≤ n) (h : n < 256) : strAt ⟨#[0, 1, 2, 2, 3, 3, 3, 3, 4, 4, 4, 4, 4, 4, 4, 4, 5, 5, 5, 5, 5, 5, 5, 5, 5, 5, 5, 5, 5, 5, 5, 5, 6, 6, 6, 6, 6, 6, 6, 6, 6, 6, 6, 6, 6, 6, 6, 6, 6, 6, 6, 6, 6, 6, 6, 6, 6, 6, 6, 6, 6, 6, 6, 6, 7, 7, 7, 7, 7, 7, 7, 7, 7, 7, 7, 7, 7, 7, 7, 7, 7, 7, 7, 7, 7, 7, 7, 7, 7, 7, 7, 7, 7, 7, 7, 7, 7, 7, 7, 7, 7, 7, 7, 7, 7, 7, 7, 7, 7, 7, 7, 7, 7, 7, 7, 7, 7, 7, 7, 7, 7, 7, 7, 7, 7, 7, 7, 7, 8, 8, 8, 8, 8, 8, 8, 8, 8, 8, 8, 8, 8, 8, 8, 8, 8, 8, 8, 8, 8, 8, 8, 8, 8, 8, 8, 8, 8, 8, 8, 8, 8, 8, 8, 8, 8, 8, 8, 8, 8, 8, 8, 8, 8, 8, 8, 8, 8, 8, 8, 8, 8, 8, 8, 8, 8, 8, 8, 8, 8, 8, 8, 8, 8, 8, 8, 8, 8, 8, 8, 8, 8, 8, 8, 8, 8, 8, 8, 8, 8, 8, 8, 8, 8, 8, 8, 8, 8, 8, 8, 8, 8, 8, 8, 8, 8, 8, 8, 8, 8, 8, 8, 8, 8, 8, 8, 8, 8, 8, 8, 8, 8, 8, 8, 8, 8, 8, 8, 8, 8, 8, 8, 8, 8, 8, 8, 8]⟩ n = some (.d (.int .u8 (bitLen n.toNat))) := by
  have hs : n.toNat < (⟨#[0, 1, 2, 2, 3, 3, 3, 3, 4, 4, 4, 4, 4, 4, 4, 4, 5, 5, 5, 5, 5, 5, 5, 5, 5, 5, 5, 5, 5, 5, 5, 5, 6, 6, 6, 6, 6, 6, 6, 6, 6, 6, 6, 6, 6, 6, 6, 6, 6, 6, 6, 6, 6, 6, 6, 6, 6, 6, 6, 6, 6, 6, 6, 6, 7, 7, 7, 7, 7, 7, 7, 7, 7, 7, 7, 7, 7, 7, 7, 7, 7, 7, 7, 7, 7, 7, 7, 7, 7, 7, 7, 7, 7, 7, 7, 7, 7, 7, 7, 7, 7, 7, 7, 7, 7, 7, 7, 7, 7, 7, 7, 7, 7, 7, 7, 7, 7, 7, 7, 7, 7, 7, 7, 7, 7, 7, 7, 7, 8, 8, 8, 8, 8, 8, 8, 8, 8, 8, 8, 8, 8, 8, 8, 8, 8, 8, 8, 8, 8, 8, 8, 8, 8, 8, 8, 8, 8, 8, 8, 8, 8, 8, 8, 8, 8, 8, 8, 8, 8, 8, 8, 8, 8, 8, 8, 8, 8, 8, 8, 8, 8, 8, 8, 8, 8, 8, 8, 8, 8, 8, 8, 8, 8, 8, 8, 8, 8, 8, 8, 8, 8, 8, 8, 8, 8, 8, 8, 8, 8, 8, 8, 8, 8, 8, 8, 8, 8, 8, 8, 8, 8, 8, 8, 8, 8, 8, 8, 8, 8, 8, 8, 8, 8, 8, 8, 8, 8, 8, 8, 8, 8, 8, 8, 8, 8, 8, 8, 8, 8, 8, 8, 8, 8, 8, 8, 8]⟩ : ByteArray).size := by
    show n.toNat < 256; omega
  have ht := len8tab_get n.toNat hs
  unfold strAt
  rw [if_pos h0, ByteArray.getElem?_lt' _ _ hs]
  simp only [ht]
theorem bl_shift {x : Int} (b : Nat) (p : Int) (hp : p = ((2 ^ b : Nat) : Int)) (h0 : 0 ≤ x) (h : p ≤ x) : (bitLen x.toNat : Int) = b + bitLen (x / p).toNat := by
  subst hp
  obtain ⟨n, rfl⟩ := Int.eq_ofNat_of_zero_le h0
  have hp : 0 < 2 ^ b := Nat.two_pow_pos b
  have hle : 2 ^ b ≤ n := by exact_mod_cast h
  have hd : n / 2 ^ b ≠ 0 := by
    have := Nat.div_pos hle hp
    omega
  have e : ((n : Int) / ((2 ^ b : Nat) : Int)).toNat = n / 2 ^ b := by rw [← Int.natCast_ediv, Int.toNat_natCast]
  rw [e, Int.toNat_natCast, bitLen_shift n b hd]
  simp
def lenR (x : Int) : V := .d (.int .i64 (bitLen x.toNat))
theorem eLen (x : Int) (hx : U x) (st : Store) (lv L : Nat) (c : Nat) : evF Try.prog [] T1 L (c + 1) 127 [.d (.int .u64 x)] lv st = some (lenR x, st) := by
  rw [evF_s (fn := Try.f127) (msk := en127.ms) (hT := by rfl) (hb := by rfl)]
  obtain ⟨h0, h1⟩ := hx
  have d0 : 0 ≤ x ∧ x < 18446744073709551616 := ⟨h0, h1⟩
  by_cases a1 : x ≥ 4294967296
  · have b1 := bl_shift 32 4294967296 (by decide) d0.1 a1
    have d1 : 0 ≤ x / 4294967296 ∧ x / 4294967296 < 4294967296 := by omega
    generalize hy : x / 4294967296 = y at *
    by_cases a2 : y ≥ 65536
    · have b2 := bl_shift 16 65536 (by decide) d1.1 a2
      have d2 : 0 ≤ y / 65536 ∧ y / 65536 < 65536 := by omega
      generalize hz : y / 65536 = z at *
      by_cases a3 : z ≥ 256
      · have b3 := bl_shift 8 256 (by decide) d2.1 a3
        have d3 : 0 ≤ z / 256 ∧ z / 256 < 256 := by omega
        generalize ht : z / 256 = t at *
        have s2 : shrI .u64 y 16 = y / 65536 := shr_lit .u64 y 16 (by decide)
        have s3 : shrI .u64 z 8 = z / 256 := shr_lit .u64 z 8 (by decide)
        have w8 : IntKind.u8.wrap t = t := by rw [IntKind.wrap_u8]; omega
        have hb := bitLen_le8 t.toNat (by omega)
        have wl : IntKind.i64.wrap (bitLen t.toNat : Int) = bitLen t.toNat := by rw [wi]; omega
        have wt : IntKind.i64.wrap (56 + (bitLen t.toNat : Int)) = bitLen x.toNat := by rw [wi]; omega
        simp only [Try.f127, go_sem, Nat.reduceAdd, Nat.reduceSub, Nat.reduceMul, Nat.reduceEqDiff, Nat.reduceBEq, Nat.reduceLT, Nat.reduceLeDiff, Nat.reducePow, Int.reduceToNat, Int.reduceLT, Int.reduceLE, Int.reduceGT, Int.reduceGE, Int.reduceEq, Int.reduceNeg, Int.reduceAdd, Int.reduceSub, ↓reduceIte, reduceCtorEq, a1, shr32, hy, a2, s2, hz, a3, s3, ht, w8, tab_at d3.1 d3.2, wl, wt, lenR]
      · have d3 : 0 ≤ z ∧ z < 256 := by omega
        have e3 : z = z := rfl
        have s2 : shrI .u64 y 16 = y / 65536 := shr_lit .u64 y 16 (by decide)
        have s3 : shrI .u64 z 8 = z / 256 := shr_lit .u64 z 8 (by decide)
        have w8 : IntKind.u8.wrap z = z := by rw [IntKind.wrap_u8]; omega
        have hb := bitLen_le8 z.toNat (by omega)
        have wl : IntKind.i64.wrap (bitLen z.toNat : Int) = bitLen z.toNat := by rw [wi]; omega
        have wt : IntKind.i64.wrap (48 + (bitLen z.toNat : Int)) = bitLen x.toNat := by rw [wi]; omega
        simp only [Try.f127, go_sem, Nat.reduceAdd, Nat.reduceSub, Nat.reduceMul, Nat.reduceEqDiff, Nat.reduceBEq, Nat.reduceLT, Nat.reduceLeDiff, Nat.reducePow, Int.reduceToNat, Int.reduceLT, Int.reduceLE, Int.reduceGT, Int.reduceGE, Int.reduceEq, Int.reduceNeg, Int.reduceAdd, Int.reduceSub, ↓reduceIte, reduceCtorEq, a1, shr32, hy, a2, s2, hz, a3, s3,  w8, tab_at d3.1 d3.2, wl, wt, lenR]
    · have d2 : 0 ≤ y ∧ y < 65536 := by omega
      have e2 : y = y := rfl
      by_cases a3 : y ≥ 256
      · have b3 := bl_shift 8 256 (by decide) d2.1 a3
        have d3 : 0 ≤ y / 256 ∧ y / 256 < 256 := by omega
        generalize ht : y / 256 = t at *
        have s2 : shrI .u64 y 16 = y / 65536 := shr_lit .u64 y 16 (by decide)
        have s3 : shrI .u64 y 8 = y / 256 := shr_lit .u64 y 8 (by decide)
        have w8 : IntKind.u8.wrap t = t := by rw [IntKind.wrap_u8]; omega
        have hb := bitLen_le8 t.toNat (by omega)
        have wl : IntKind.i64.wrap (bitLen t.toNat : Int) = bitLen t.toNat := by rw [wi]; omega
        have wt : IntKind.i64.wrap (40 + (bitLen t.toNat : Int)) = bitLen x.toNat := by rw [wi]; omega
        simp only [Try.f127, go_sem, Nat.reduceAdd, Nat.reduceSub, Nat.reduceMul, Nat.reduceEqDiff, Nat.reduceBEq, Nat.reduceLT, Nat.reduceLeDiff, Nat.reducePow, Int.reduceToNat, Int.reduceLT, Int.reduceLE, Int.reduceGT, Int.reduceGE, Int.reduceEq, Int.reduceNeg, Int.reduceAdd, Int.reduceSub, ↓reduceIte, reduceCtorEq, a1, shr32, hy, a2, s2,  a3, s3, ht, w8, tab_at d3.1 d3.2, wl, wt, lenR]
      · have d3 : 0 ≤ y ∧ y < 256 := by omega
        have e3 : y = y := rfl
        have s2 : shrI .u64 y 16 = y / 65536 := shr_lit .u64 y 16 (by decide)
        have s3 : shrI .u64 y 8 = y / 256 := shr_lit .u64 y 8 (by decide)
        have w8 : IntKind.u8.wrap y = y := by rw [IntKind.wrap_u8]; omega
        have hb := bitLen_le8 y.toNat (by omega)
        have wl : IntKind.i64.wrap (bitLen y.toNat : Int) = bitLen y.toNat := by rw [wi]; omega
        have wt : IntKind.i64.wrap (32 + (bitLen y.toNat : Int)) = bitLen x.toNat := by rw [wi]; omega
        simp only [Try.f127, go_sem, Nat.reduceAdd, Nat.reduceSub, Nat.reduceMul, Nat.reduceEqDiff, Nat.reduceBEq, Nat.reduceLT, Nat.reduceLeDiff, Nat.reducePow, Int.reduceToNat, Int.reduceLT, Int.reduceLE, Int.reduceGT, Int.reduceGE, Int.reduceEq, Int.reduceNeg, Int.reduceAdd, Int.reduceSub, ↓reduceIte, reduceCtorEq, a1, shr32, hy, a2, s2,  a3, s3,  w8, tab_at d3.1 d3.2, wl, wt, lenR]
  · have d1 : 0 ≤ x ∧ x < 4294967296 := by omega
    have e1 : x = x := rfl
    by_cases a2 : x ≥ 65536
    · have b2 := bl_shift 16 65536 (by decide) d1.1 a2
      have d2 : 0 ≤ x / 65536 ∧ x / 65536 < 65536 := by omega
      generalize hz : x / 65536 = z at *
      by_cases a3 : z ≥ 256
      · have b3 := bl_shift 8 256 (by decide) d2.1 a3
        have d3 : 0 ≤ z / 256 ∧ z / 256 < 256 := by omega
        generalize ht : z / 256 = t at *
        have s2 : shrI .u64 x 16 = x / 65536 := shr_lit .u64 x 16 (by decide)
        have s3 : shrI .u64 z 8 = z / 256 := shr_lit .u64 z 8 (by decide)
        have w8 : IntKind.u8.wrap t = t := by rw [IntKind.wrap_u8]; omega
        have hb := bitLen_le8 t.toNat (by omega)
        have wl : IntKind.i64.wrap (bitLen t.toNat : Int) = bitLen t.toNat := by rw [wi]; omega
        have wt : IntKind.i64.wrap (24 + (bitLen t.toNat : Int)) = bitLen x.toNat := by rw [wi]; omega
        simp only [Try.f127, go_sem, Nat.reduceAdd, Nat.reduceSub, Nat.reduceMul, Nat.reduceEqDiff, Nat.reduceBEq, Nat.reduceLT, Nat.reduceLeDiff, Nat.reducePow, Int.reduceToNat, Int.reduceLT, Int.reduceLE, Int.reduceGT, Int.reduceGE, Int.reduceEq, Int.reduceNeg, Int.reduceAdd, Int.reduceSub, ↓reduceIte, reduceCtorEq, a1, shr32,  a2, s2, hz, a3, s3, ht, w8, tab_at d3.1 d3.2, wl, wt, lenR]
      · have d3 : 0 ≤ z ∧ z < 256 := by omega
        have e3 : z = z := rfl
        have s2 : shrI .u64 x 16 = x / 65536 := shr_lit .u64 x 16 (by decide)
        have s3 : shrI .u64 z 8 = z / 256 := shr_lit .u64 z 8 (by decide)
        have w8 : IntKind.u8.wrap z = z := by rw [IntKind.wrap_u8]; omega
        have hb := bitLen_le8 z.toNat (by omega)
        have wl : IntKind.i64.wrap (bitLen z.toNat : Int) = bitLen z.toNat := by rw [wi]; omega
        have wt : IntKind.i64.wrap (16 + (bitLen z.toNat : Int)) = bitLen x.toNat := by rw [wi]; omega
        simp only [Try.f127, go_sem, Nat.reduceAdd, Nat.reduceSub, Nat.reduceMul, Nat.reduceEqDiff, Nat.reduceBEq, Nat.reduceLT, Nat.reduceLeDiff, Nat.reducePow, Int.reduceToNat, Int.reduceLT, Int.reduceLE, Int.reduceGT, Int.reduceGE, Int.reduceEq, Int.reduceNeg, Int.reduceAdd, Int.reduceSub, ↓reduceIte, reduceCtorEq, a1, shr32,  a2, s2, hz, a3, s3,  w8, tab_at d3.1 d3.2, wl, wt, lenR]
    · have d2 : 0 ≤ x ∧ x < 65536 := by omega
      have e2 : x = x := rfl
      by_cases a3 : x ≥ 256
      · have b3 := bl_shift 8 256 (by decide) d2.1 a3
        have d3 : 0 ≤ x / 256 ∧ x / 256 < 256 := by omega
        generalize ht : x / 256 = t at *
        have s2 : shrI .u64 x 16 = x / 65536 := shr_lit .u64 x 16 (by decide)
        have s3 : shrI .u64 x 8 = x / 256 := shr_lit .u64 x 8 (by decide)
        have w8 : IntKind.u8.wrap t = t := by rw [IntKind.wrap_u8]; omega
        have hb := bitLen_le8 t.toNat (by omega)
        have wl : IntKind.i64.wrap (bitLen t.toNat : Int) = bitLen t.toNat := by rw [wi]; omega
        have wt : IntKind.i64.wrap (8 + (bitLen t.toNat : Int)) = bitLen x.toNat := by rw [wi]; omega
        simp only [Try.f127, go_sem, Nat.reduceAdd, Nat.reduceSub, Nat.reduceMul, Nat.reduceEqDiff, Nat.reduceBEq, Nat.reduceLT, Nat.reduceLeDiff, Nat.reducePow, Int.reduceToNat, Int.reduceLT, Int.reduceLE, Int.reduceGT, Int.reduceGE, Int.reduceEq, Int.reduceNeg, Int.reduceAdd, Int.reduceSub, ↓reduceIte, reduceCtorEq, a1, shr32,  a2, s2,  a3, s3, ht, w8, tab_at d3.1 d3.2, wl, wt, lenR]
      · have d3 : 0 ≤ x ∧ x < 256 := by omega
        have e3 : x = x := rfl
        have s2 : shrI .u64 x 16 = x / 65536 := shr_lit .u64 x 16 (by decide)
        have s3 : shrI .u64 x 8 = x / 256 := shr_lit .u64 x 8 (by decide)
        have w8 : IntKind.u8.wrap x = x := by rw [IntKind.wrap_u8]; omega
        have hb := bitLen_le8 x.toNat (by omega)
        have wl : IntKind.i64.wrap (bitLen x.toNat : Int) = bitLen x.toNat := by rw [wi]; omega
        have wt : IntKind.i64.wrap (0 + (bitLen x.toNat : Int)) = bitLen x.toNat := by rw [wi]; omega
        have wz : IntKind.i64.wrap (0 + (bitLen x.toNat : Int)) = bitLen x.toNat := wt
        simp only [Try.f127, go_sem, Nat.reduceAdd, Nat.reduceSub, Nat.reduceMul, Nat.reduceEqDiff, Nat.reduceBEq, Nat.reduceLT, Nat.reduceLeDiff, Nat.reducePow, Int.reduceToNat, Int.reduceLT, Int.reduceLE, Int.reduceGT, Int.reduceGE, Int.reduceEq, Int.reduceNeg, Int.reduceAdd, Int.reduceSub, ↓reduceIte, reduceCtorEq, a1, shr32,  a2, s2,  a3, s3,  w8, tab_at d3.1 d3.2, wl, wt, lenR]
/-! ### LeadingZeros64 -/
noncomputable def sLz : Ev.Spec := specC (c1 .u64) U fun x => [.int .i64 (64 - bitLen x.toNat)]
theorem sLz_run (x : Int) (hx : U x) : sLz.run [.int .u64 x] = some [.int .i64 (64 - bitLen x.toNat)] := specC_run (c1 .u64) _ _ x hx
theorem bl_le {x : Int} (hx : U x) : bitLen x.toNat ≤ 64 := by
  obtain ⟨h0, h1⟩ := hx
  by_cases h : x.toNat = 0
  · rw [h]; decide
  · obtain ⟨a, b⟩ := bitLen_spec x.toNat
    refine Nat.le_of_not_lt fun hc => ?_
    have := b h
    have : 2 ^ 64 ≤ 2 ^ (bitLen x.toNat - 1) := Nat.pow_le_pow_right (by decide) (by omega)
    have : (2 : Nat) ^ 64 = 18446744073709551616 := by decide
    omega
theorem eLz (x : Int) (hx : U x) : evTop Try.prog [] T1 0 2 152 [.int .u64 x] = some [.int .i64 (64 - bitLen x.toNat)] := by
  unfold evTop
  simp only [List.map]
  rw [evF_s (fn := Try.f152) (msk := en152.ms) (hT := by rfl) (hb := by rfl)]
  have hb := bl_le hx
  have w : IntKind.i64.wrap (64 - (bitLen x.toNat : Int)) = 64 - bitLen x.toNat := by rw [wi]; omega
  simp only [Try.f152, go_sem, Nat.reduceAdd, Nat.reduceSub, Nat.reduceMul, Nat.reduceEqDiff, Nat.reduceBEq, Nat.reduceLT, Nat.reduceLeDiff, Nat.reducePow, Int.reduceToNat, Int.reduceLT, Int.reduceLE, Int.reduceGT, Int.reduceGE, Int.reduceEq, Int.reduceNeg, Int.reduceAdd, Int.reduceSub, ↓reduceIte, reduceCtorEq, eLen x hx, lenR, w]
theorem sLz_ok : SpecOk Try.prog 152 sLz := specC_ok mixed specs_nil T1_ok fun x hp => ⟨0, 2, eLz x hp⟩
#print axioms sLz_ok
#print axioms sAdd_ok
#print axioms sMul_ok
end Go.Proofs.YtmhjmjodchbhlaaR.Num1Pull
end
section
set_option linter.unusedVariables false
set_option linter.unusedSimpArgs false
set_option maxRecDepth 100000
namespace Go.Proofs.YtmhjmjodchbhlaaR.Num2Pull
open Go.Ev Go.Ari Go.Proofs.YtmhjmjodchbhlaaR.FxPull Go.Proofs.YtmhjmjodchbhlaaR.Num1Pull
attribute [local go_sem] Ev.putR_s Ev.putR_0 Ev.thenO_s Ev.thenO_0 Ev.seqR_n Ev.seqR_e Ev.seqR_r Ev.seqR_0 Ev.blkR_e Ev.blkR_n Ev.blkR_r Ev.blkR_0 Ev.normR_s Ev.normR_0 Ev.outR_r Ev.outR_n Ev.outR_0 Ev.retS_s Ev.retS_0 Ev.pureO_s Ev.pureO_0 Ev.topR_0 Ev.topR_t Ev.topR_t0 Ev.oneL_0 Ev.oneL_s Ev.topR_d Ev.topR_nils Ev.topR_agg Ev.topR_rs Ev.evOp_move Ev.evOp_assign Ev.evOp_pick Ev.evOp_alloc Ev.evOp_box Ev.evOp_build Ev.evOp_buildSlice Ev.evOp_load Ev.evOp_store Ev.evOp_makeMap Ev.evOp_lookup Ev.evOp_mapUpdate Ev.evOp_insert Ev.evOp_nilCheck Ev.evOp_binOp Ev.evOp_unOp Ev.evOp_convert Ev.evOp_makeFunc Ev.evOp_makeSlice Ev.evOp_slice Ev.evOp_fieldAddr Ev.evOp_field Ev.evOp_indexAddr Ev.evOp_index Ev.evOp_extract Ev.evOp_call Ev.evOp_append Ev.evOp_len Ev.evOp_min Ev.evOp_max Ev.condR_b Ev.condR_t Ev.evOps_nil Ev.evOps_plain Ev.evOps_guard Ev.runG_eq Ev.skipG_eq Ev.condL_tt Ev.condL_ff Ev.condL_tf Ev.condL_ft Ev.condL_u Ev.condC_t Ev.condC_f Ev.evC_skip Ev.evC_ret Ev.evC_exit Ev.evC_label Ev.evC_region Ev.evC_draw Ev.evC_seq Ev.evC_cond Ev.evC_block Ev.evC_loop Ev.fin_d Ev.fin_nils Ev.fin_agg_ Ev.fin_rs Ev.finS_s Ev.mapO_fin Ev.upd_upd Ev.argv_d Ev.argv_nils Ev.argv_agg Ev.argv_rs Ev.argv_p Ev.appendTo_nils Ev.appendTo_rs Ev.consV_d Ev.consV_agg Ev.consV_p Ev.consV_rs Ev.consV_nils Ev.consV_fn Ev.consV_und Ev.consV_jk Ev.consV_grown Ev.topR_grown Ev.len_grown Ev.consV_mp Ev.sameK_i Ev.sameK_s Ev.mget_0 Ev.mget_hit Ev.mget_miss Ev.mput_0 Ev.mput_hit Ev.mput_miss Ev.apartAll Ev.apartL Ev.apartV Ev.freeAll Ev.sel Ev.keyOfV Ev.evLookup Ev.evPut Ev.hintOk Ev.keyOk Ev.consP Ev.lookV Ev.guardV Ev.dstAt Ev.evPure Ev.evStore Ev.evPureB Ev.evBin Ev.evBinO Ev.evNil Ev.isNilC Ev.evUn Ev.evConv Ev.evSlice Ev.optI Ev.lenV Ev.elemT Ev.foldI Ev.capsOk Ev.noTup Ev.nth Ev.setN Ev.pad Ev.V.get Ev.V.put Ev.putD Ev.hasT Ev.newBlk Ev.upd Ev.keq Ev.empty Ev.evCall Ev.V.args Ev.argP Ev.callOf Ev.evNilP Ev.isNilP Ev.look Ev.V.view.views Ev.V.view Ev.V.toD Ev.V.toD.V.toDs Ev.V.pure.pures Ev.V.pure Ev.D.flat.flats Ev.D.flat Ev.mkAgg Ev.allD Ev.aggParts Ev.setParts Ev.setElems Ev.getPath Ev.setPath Ev.subL Ev.eqD Ev.eqD.eqDs Ev.and2 Ev.strCut Ev.evalT Ev.constT Ev.evArgs Ev.mask Ev.maskOf Ev.tableOf Ev.compT Ev.resV Ev.retV Ev.mapO Ev.elemsOf Int.cast_ofNat_Int IntWalk.i64_in IntWalk.u64_in IntWalk.u8_in beq_self_eq_true Bool.true_beq Bool.false_beq Bool.and_true Bool.true_and Bool.false_and Bool.and_false Bool.and_self Bool.not_true Bool.not_false Bool.not_eq_true cond_true cond_false if_true if_false and_true true_and and_self decide_true decide_false Bool.or_true Bool.true_or Bool.or_false Bool.false_or List.isEmpty List.isEmpty_nil List.size_toArray List.map List.length_map List.length_cons List.length_nil Option.map Option.bind Option.getD Option.isSome List.replicate Bool.false_eq_true implies_true forall_const Array.toList Array.isEmpty List.append List.nil_append List.cons_append List.drop_zero List.take_length List.take_succ_cons List.take_zero List.take_nil List.getElem?_map List.getElem?_cons_zero List.getElem?_cons_succ List.getElem?_nil List.append_nil
attribute [local go_sem] FxPull.tk2 FxPull.ik2 FxPull.ek2 FxPull.zv2 FxPull.tk3 FxPull.ik3 FxPull.ek3 FxPull.zv3 FxPull.tk4 FxPull.ub4 FxPull.zv4 FxPull.tk5 FxPull.ik5 FxPull.zv5 FxPull.tk9 FxPull.ek9 FxPull.tk23 FxPull.ct23 FxPull.ek23 FxPull.zv23 FxPull.tk27 FxPull.ik27 FxPull.zv27 FxPull.tk37 FxPull.ik37 FxPull.zv37 FxPull.by37 FxPull.so37 FxPull.tk39 FxPull.ct39 FxPull.zv39 FxPull.by39 FxPull.so39 FxPull.tk43 FxPull.zv43 FxPull.tk44 FxPull.zv44 FxPull.tk45 FxPull.zv45 FxPull.tk47 FxPull.ct47 FxPull.zv47 FxPull.tk48 FxPull.ik48 FxPull.zv48 FxPull.tk76 FxPull.ct76 FxPull.zv76 FxPull.by76 FxPull.so76 FxPull.tk77 FxPull.zv77 FxPull.tk79 FxPull.ct79 FxPull.zv79 FxPull.by79 FxPull.so79 FxPull.tk88 FxPull.zv88 FxPull.tk92 FxPull.ik92 FxPull.zv92 FxPull.tk135 FxPull.ik135 FxPull.zv135 FxPull.tk136 FxPull.mt136 FxPull.sm136 FxPull.zw4 FxPull.zv136 FxPull.tk145 FxPull.zv145 FxPull.tk148 FxPull.ct148 FxPull.zv148 FxPull.tk150 FxPull.ct150 FxPull.zv150 FxPull.tk161 FxPull.ct161 FxPull.zv161 FxPull.tk203 FxPull.dw3_1 FxPull.nc3_1 FxPull.mk3_1000000 FxPull.mk4_1000000 FxPull.mk14_1000000 FxPull.dw15_7 FxPull.nc15_7 FxPull.mk15_1000000 FxPull.dw16_7 FxPull.nc16_7 FxPull.mk16_1000000 FxPull.mk17_1000000 FxPull.mk18_1000000 FxPull.mk30_1000000 FxPull.mk40_0 FxPull.mk40_2 FxPull.mk40_4 FxPull.mk40_1000001 FxPull.mk40_1000002 FxPull.mk40_1000003 FxPull.mk40_1000004 FxPull.mk40_1000005 FxPull.mk40_1000006 FxPull.mk40_1000007 FxPull.mk40_1000000 FxPull.mk46_0 FxPull.mk46_1000001 FxPull.mk46_1000002 FxPull.mk46_1000000 FxPull.mk47_1000000 FxPull.mk48_1000000 FxPull.mk49_1000000 FxPull.mk50_1000000 FxPull.mk51_0 FxPull.mk51_1000001 FxPull.mk51_1000002 FxPull.mk51_1000000 FxPull.dw52_2 FxPull.nc52_2 FxPull.mk52_1000000 FxPull.mk53_1000000 FxPull.mk54_1000000 FxPull.mk55_1000001 FxPull.mk55_1000000 FxPull.mk64_1000000 FxPull.mk78_0 FxPull.mk78_1000001 FxPull.mk78_1000002 FxPull.mk78_1000000 FxPull.mk87_1000001 FxPull.mk87_1000000 FxPull.mk88_1000001 FxPull.mk88_1000000 FxPull.mk89_0 FxPull.mk89_1000001 FxPull.mk89_1000002 FxPull.mk89_1000000 FxPull.mk93_1000001 FxPull.mk93_1000000 FxPull.mk95_1000000 FxPull.mk98_0 FxPull.mk98_1000001 FxPull.mk98_1000002 FxPull.mk98_1000000 FxPull.mk99_1000000 FxPull.mk100_1000001 FxPull.mk100_1000000 FxPull.mk101_1000000 FxPull.mk102_1000000 FxPull.mk103_0 FxPull.mk103_1000001 FxPull.mk103_1000002 FxPull.mk103_1000000 FxPull.mk127_1000000 FxPull.mk128_1000000 FxPull.mk131_0 FxPull.mk131_1000001 FxPull.mk131_1000002 FxPull.mk131_1000000 FxPull.mk134_1000000 FxPull.mk135_1000000 FxPull.dw136_6 FxPull.nc136_6 FxPull.mk136_0 FxPull.mk136_2 FxPull.mk136_1000001 FxPull.mk136_1000002 FxPull.mk136_1000003 FxPull.mk136_1000004 FxPull.mk136_1000000 FxPull.mk152_1000000
noncomputable def G2 : Specs := [(152, sLz)]
noncomputable def T2 : Table := tableOf [(136, en136)]
theorem G2_ok : ∀ g s, Ev.look G2 g = some s → SpecOk Try.prog g s := specs_cons sLz_ok specs_nil
theorem T2_ok : TableOk Try.prog (G2.map (·.1)) T2 := (table_cons Try.func136 (by kernel_rfl) (by kernel_rfl) table_nil)
abbrev u (x : Int) : V := .d (.int .u64 x)

def hd0 (y s y1 y0 U u1 u0 : Int) (x : Int × Int) : List V := hd136_0 (u y) (u s) (u y1) (u y0) (u U) (u u1) (u u0) (u x.1) (u x.2)
theorem loop0 (L : Nat) (call : Caller) (st : Store) (y s y1 y0 U u1 u0 : Int) (hU0 : 0 ≤ U) (hU : U < y1 * 4294967296 + y0) (hy1 : 2147483648 ≤ y1) (hy2 : y1 < 4294967296) (hy0 : 0 ≤ y0) (hy3 : y0 < 4294967296) (hu0 : 0 ≤ u1) (hu : u1 < 4294967296) :
    ∀ (m : Nat) (x : Int × Int) (env : List V), (0 ≤ x.1 ∧ x.1 ≤ 4294967297 ∧ (U * 4294967296 + u1) / (y1 * 4294967296 + y0) ≤ x.1 ∧ x.2 = U - x.1 * y1 ∧ 0 ≤ x.2 ∧ x.2 < 4294967296) → (if x.2 < 2147483648 then 1 else 0) < m → mask (maskOf en136.ms 0) env = hd0 y s y1 y0 U u1 u0 x →
      iter (evC Try.prog G2 call L en136.ms 0 0 lb136_0) (maskOf en136.ms 0) m env st = some (.exit 0, hx136_0 (u y) (u s) (u y1) (u y0) (u U) (u u1) (u u0) (u ((U * 4294967296 + u1) / (y1 * 4294967296 + y0))), st) := by
  refine iter_wf _ _ _ (hd0 y s y1 y0 U u1 u0) (fun _ => st) (fun _ => some (.exit 0, hx136_0 (u y) (u s) (u y1) (u y0) (u U) (u u1) (u u0) (u ((U * 4294967296 + u1) / (y1 * 4294967296 + y0))), st)) (fun x => if x.2 < 2147483648 then 1 else 0) ?_
  rintro ⟨q, r⟩ ⟨i1, i2, i3, i4, i5, i6⟩ k hk
  simp only at i1 i2 i3 i4 i5 i6
  have hp : 0 < y1 * 4294967296 + y0 := by omega
  have hd := (below_top hU hu hU0 hu0 hp).1
  have b1 : q * y0 ≤ 4294967297 * 4294967295 := Int.mul_le_mul i2 (by omega) hy0 (by omega)
  have b0 : 0 ≤ q * y0 := Int.mul_nonneg i1 hy0
  have w1 : IntKind.u64.wrap (q * y0) = q * y0 := wu_in b0 (by omega)
  have w2 : IntKind.u64.wrap (4294967296 * r) = 4294967296 * r := wu_in (by omega) (by omega)
  have w3 : IntKind.u64.wrap (4294967296 * r + u1) = 4294967296 * r + u1 := wu_in (by omega) (by omega)
  have w5 : IntKind.u64.wrap (r + y1) = r + y1 := wu_in (by omega) (by omega)
  by_cases hc : 4294967296 ≤ q ∨ 4294967296 * r + u1 < q * y0
  · have dn := digit_down i4 hU hu hU0 hu0 hp hc
    have w4 : IntKind.u64.wrap (q - 1) = q - 1 := wu_in (by omega) (by omega)
    have i4' : r + y1 = U - (q - 1) * y1 := by rw [Int.sub_mul, Int.one_mul]; omega
    by_cases hb : r + y1 ≥ 4294967296
    · have de := digit_break i4' hp dn hb (by omega) (by omega) hy3 hy0 hu0
      rw [← de]
      by_cases c1 : q ≥ 4294967296
      · simp only [lb136_0, loopN, loops, hd0, hd136_0, hx136_0, Try.f136, go_sem, Nat.reduceAdd, Nat.reduceSub, Nat.reduceMul, Nat.reduceEqDiff, Nat.reduceBEq, Nat.reduceLT, Nat.reduceLeDiff, Nat.reducePow, Int.reduceToNat, Int.reduceLT, Int.reduceLE, Int.reduceGT, Int.reduceGE, Int.reduceEq, Int.reduceNeg, Int.reduceAdd, Int.reduceSub, ↓reduceIte, reduceCtorEq, c1, w1, w2, w3, w4, w5, hb]
      · have c2 : q * y0 > 4294967296 * r + u1 := by omega
        simp only [lb136_0, loopN, loops, hd0, hd136_0, hx136_0, Try.f136, go_sem, Nat.reduceAdd, Nat.reduceSub, Nat.reduceMul, Nat.reduceEqDiff, Nat.reduceBEq, Nat.reduceLT, Nat.reduceLeDiff, Nat.reducePow, Int.reduceToNat, Int.reduceLT, Int.reduceLE, Int.reduceGT, Int.reduceGE, Int.reduceEq, Int.reduceNeg, Int.reduceAdd, Int.reduceSub, ↓reduceIte, reduceCtorEq, c1, c2, w1, w2, w3, w4, w5, hb]
    · have hn := hk (q - 1, r + y1)
      have hI : (0 ≤ q - 1 ∧ q - 1 ≤ 4294967297 ∧ (U * 4294967296 + u1) / (y1 * 4294967296 + y0) ≤ q - 1 ∧ r + y1 = U - (q - 1) * y1 ∧ 0 ≤ r + y1 ∧ r + y1 < 4294967296) := ⟨by omega, by omega, dn, i4', by omega, by omega⟩
      have hm : (if r + y1 < 2147483648 then 1 else 0) < (if r < 2147483648 then 1 else 0) := by
        have e1 : ¬ r + y1 < 2147483648 := by omega
        have e2 : r < 2147483648 := by omega
        rw [if_neg e1, if_pos e2]; omega
      by_cases c1 : q ≥ 4294967296
      · simp only [lb136_0, loopN, loops, hd0, hd136_0, hx136_0, Try.f136, go_sem, Nat.reduceAdd, Nat.reduceSub, Nat.reduceMul, Nat.reduceEqDiff, Nat.reduceBEq, Nat.reduceLT, Nat.reduceLeDiff, Nat.reducePow, Int.reduceToNat, Int.reduceLT, Int.reduceLE, Int.reduceGT, Int.reduceGE, Int.reduceEq, Int.reduceNeg, Int.reduceAdd, Int.reduceSub, ↓reduceIte, reduceCtorEq, c1, w1, w2, w3, w4, w5, hb]
        exact hn _ hI hm (by simp only [hd0, hd136_0, go_sem, Nat.reduceAdd, Nat.reduceSub, Nat.reduceMul, Nat.reduceEqDiff, Nat.reduceBEq, Nat.reduceLT, Nat.reduceLeDiff, Nat.reducePow, Int.reduceToNat, Int.reduceLT, Int.reduceLE, Int.reduceGT, Int.reduceGE, Int.reduceEq, Int.reduceNeg, Int.reduceAdd, Int.reduceSub, ↓reduceIte, reduceCtorEq])
      · have c2 : q * y0 > 4294967296 * r + u1 := by omega
        simp only [lb136_0, loopN, loops, hd0, hd136_0, hx136_0, Try.f136, go_sem, Nat.reduceAdd, Nat.reduceSub, Nat.reduceMul, Nat.reduceEqDiff, Nat.reduceBEq, Nat.reduceLT, Nat.reduceLeDiff, Nat.reducePow, Int.reduceToNat, Int.reduceLT, Int.reduceLE, Int.reduceGT, Int.reduceGE, Int.reduceEq, Int.reduceNeg, Int.reduceAdd, Int.reduceSub, ↓reduceIte, reduceCtorEq, c1, c2, w1, w2, w3, w4, w5, hb]
        exact hn _ hI hm (by simp only [hd0, hd136_0, go_sem, Nat.reduceAdd, Nat.reduceSub, Nat.reduceMul, Nat.reduceEqDiff, Nat.reduceBEq, Nat.reduceLT, Nat.reduceLeDiff, Nat.reducePow, Int.reduceToNat, Int.reduceLT, Int.reduceLE, Int.reduceGT, Int.reduceGE, Int.reduceEq, Int.reduceNeg, Int.reduceAdd, Int.reduceSub, ↓reduceIte, reduceCtorEq])
  · have de := digit_done i4 hp i3 (by omega)
    have c1 : ¬ q ≥ 4294967296 := by omega
    have c2 : ¬ q * y0 > 4294967296 * r + u1 := by omega
    rw [← de]
    simp only [lb136_0, loopN, loops, hd0, hd136_0, hx136_0, Try.f136, go_sem, Nat.reduceAdd, Nat.reduceSub, Nat.reduceMul, Nat.reduceEqDiff, Nat.reduceBEq, Nat.reduceLT, Nat.reduceLeDiff, Nat.reducePow, Int.reduceToNat, Int.reduceLT, Int.reduceLE, Int.reduceGT, Int.reduceGE, Int.reduceEq, Int.reduceNeg, Int.reduceAdd, Int.reduceSub, ↓reduceIte, reduceCtorEq, c1, c2, w1, w2, w3, w5]

def hd2 (y s y1 y0 u0 p U : Int) (x : Int × Int) : List V := hd136_2 (u y) (u s) (u y1) (u y0) (u u0) (u p) (u x.2) (u U) (u x.1)
theorem loop2 (L : Nat) (call : Caller) (st : Store) (y s y1 y0 u0 p U : Int) (hU0 : 0 ≤ U) (hU : U < y1 * 4294967296 + y0) (hy1 : 2147483648 ≤ y1) (hy2 : y1 < 4294967296) (hy0 : 0 ≤ y0) (hy3 : y0 < 4294967296) (hu0 : 0 ≤ u0) (hu : u0 < 4294967296) :
    ∀ (m : Nat) (x : Int × Int) (env : List V), (0 ≤ x.1 ∧ x.1 ≤ 4294967297 ∧ (U * 4294967296 + u0) / (y1 * 4294967296 + y0) ≤ x.1 ∧ x.2 = U - x.1 * y1 ∧ 0 ≤ x.2 ∧ x.2 < 4294967296) → (if x.2 < 2147483648 then 1 else 0) < m → mask (maskOf en136.ms 2) env = hd2 y s y1 y0 u0 p U x →
      iter (evC Try.prog G2 call L en136.ms 0 2 lb136_2) (maskOf en136.ms 2) m env st = some (.exit 2, hx136_2 (u y) (u s) (u u0) (u p) (u U) (u ((U * 4294967296 + u0) / (y1 * 4294967296 + y0))), st) := by
  refine iter_wf _ _ _ (hd2 y s y1 y0 u0 p U) (fun _ => st) (fun _ => some (.exit 2, hx136_2 (u y) (u s) (u u0) (u p) (u U) (u ((U * 4294967296 + u0) / (y1 * 4294967296 + y0))), st)) (fun x => if x.2 < 2147483648 then 1 else 0) ?_
  rintro ⟨q, r⟩ ⟨i1, i2, i3, i4, i5, i6⟩ k hk
  simp only at i1 i2 i3 i4 i5 i6
  have hp : 0 < y1 * 4294967296 + y0 := by omega
  have hd := (below_top hU hu hU0 hu0 hp).1
  have b1 : q * y0 ≤ 4294967297 * 4294967295 := Int.mul_le_mul i2 (by omega) hy0 (by omega)
  have b0 : 0 ≤ q * y0 := Int.mul_nonneg i1 hy0
  have w1 : IntKind.u64.wrap (q * y0) = q * y0 := wu_in b0 (by omega)
  have w2 : IntKind.u64.wrap (4294967296 * r) = 4294967296 * r := wu_in (by omega) (by omega)
  have w3 : IntKind.u64.wrap (4294967296 * r + u0) = 4294967296 * r + u0 := wu_in (by omega) (by omega)
  have w5 : IntKind.u64.wrap (r + y1) = r + y1 := wu_in (by omega) (by omega)
  by_cases hc : 4294967296 ≤ q ∨ 4294967296 * r + u0 < q * y0
  · have dn := digit_down i4 hU hu hU0 hu0 hp hc
    have w4 : IntKind.u64.wrap (q - 1) = q - 1 := wu_in (by omega) (by omega)
    have i4' : r + y1 = U - (q - 1) * y1 := by rw [Int.sub_mul, Int.one_mul]; omega
    by_cases hb : r + y1 ≥ 4294967296
    · have de := digit_break i4' hp dn hb (by omega) (by omega) hy3 hy0 hu0
      rw [← de]
      by_cases c1 : q ≥ 4294967296
      · simp only [lb136_2, loopN, loops, hd2, hd136_2, hx136_2, Try.f136, go_sem, Nat.reduceAdd, Nat.reduceSub, Nat.reduceMul, Nat.reduceEqDiff, Nat.reduceBEq, Nat.reduceLT, Nat.reduceLeDiff, Nat.reducePow, Int.reduceToNat, Int.reduceLT, Int.reduceLE, Int.reduceGT, Int.reduceGE, Int.reduceEq, Int.reduceNeg, Int.reduceAdd, Int.reduceSub, ↓reduceIte, reduceCtorEq, c1, w1, w2, w3, w4, w5, hb]
      · have c2 : q * y0 > 4294967296 * r + u0 := by omega
        simp only [lb136_2, loopN, loops, hd2, hd136_2, hx136_2, Try.f136, go_sem, Nat.reduceAdd, Nat.reduceSub, Nat.reduceMul, Nat.reduceEqDiff, Nat.reduceBEq, Nat.reduceLT, Nat.reduceLeDiff, Nat.reducePow, Int.reduceToNat, Int.reduceLT, Int.reduceLE, Int.reduceGT, Int.reduceGE, Int.reduceEq, Int.reduceNeg, Int.reduceAdd, Int.reduceSub, ↓reduceIte, reduceCtorEq, c1, c2, w1, w2, w3, w4, w5, hb]
    · have hn := hk (q - 1, r + y1)
      have hI : (0 ≤ q - 1 ∧ q - 1 ≤ 4294967297 ∧ (U * 4294967296 + u0) / (y1 * 4294967296 + y0) ≤ q - 1 ∧ r + y1 = U - (q - 1) * y1 ∧ 0 ≤ r + y1 ∧ r + y1 < 4294967296) := ⟨by omega, by omega, dn, i4', by omega, by omega⟩
      have hm : (if r + y1 < 2147483648 then 1 else 0) < (if r < 2147483648 then 1 else 0) := by
        have e1 : ¬ r + y1 < 2147483648 := by omega
        have e2 : r < 2147483648 := by omega
        rw [if_neg e1, if_pos e2]; omega
      by_cases c1 : q ≥ 4294967296
      · simp only [lb136_2, loopN, loops, hd2, hd136_2, hx136_2, Try.f136, go_sem, Nat.reduceAdd, Nat.reduceSub, Nat.reduceMul, Nat.reduceEqDiff, Nat.reduceBEq, Nat.reduceLT, Nat.reduceLeDiff, Nat.reducePow, Int.reduceToNat, Int.reduceLT, Int.reduceLE, Int.reduceGT, Int.reduceGE, Int.reduceEq, Int.reduceNeg, Int.reduceAdd, Int.reduceSub, ↓reduceIte, reduceCtorEq, c1, w1, w2, w3, w4, w5, hb]
        exact hn _ hI hm (by simp only [hd2, hd136_2, go_sem, Nat.reduceAdd, Nat.reduceSub, Nat.reduceMul, Nat.reduceEqDiff, Nat.reduceBEq, Nat.reduceLT, Nat.reduceLeDiff, Nat.reducePow, Int.reduceToNat, Int.reduceLT, Int.reduceLE, Int.reduceGT, Int.reduceGE, Int.reduceEq, Int.reduceNeg, Int.reduceAdd, Int.reduceSub, ↓reduceIte, reduceCtorEq])
      · have c2 : q * y0 > 4294967296 * r + u0 := by omega
        simp only [lb136_2, loopN, loops, hd2, hd136_2, hx136_2, Try.f136, go_sem, Nat.reduceAdd, Nat.reduceSub, Nat.reduceMul, Nat.reduceEqDiff, Nat.reduceBEq, Nat.reduceLT, Nat.reduceLeDiff, Nat.reducePow, Int.reduceToNat, Int.reduceLT, Int.reduceLE, Int.reduceGT, Int.reduceGE, Int.reduceEq, Int.reduceNeg, Int.reduceAdd, Int.reduceSub, ↓reduceIte, reduceCtorEq, c1, c2, w1, w2, w3, w4, w5, hb]
        exact hn _ hI hm (by simp only [hd2, hd136_2, go_sem, Nat.reduceAdd, Nat.reduceSub, Nat.reduceMul, Nat.reduceEqDiff, Nat.reduceBEq, Nat.reduceLT, Nat.reduceLeDiff, Nat.reducePow, Int.reduceToNat, Int.reduceLT, Int.reduceLE, Int.reduceGT, Int.reduceGE, Int.reduceEq, Int.reduceNeg, Int.reduceAdd, Int.reduceSub, ↓reduceIte, reduceCtorEq])
  · have de := digit_done i4 hp i3 (by omega)
    have c1 : ¬ q ≥ 4294967296 := by omega
    have c2 : ¬ q * y0 > 4294967296 * r + u0 := by omega
    rw [← de]
    simp only [lb136_2, loopN, loops, hd2, hd136_2, hx136_2, Try.f136, go_sem, Nat.reduceAdd, Nat.reduceSub, Nat.reduceMul, Nat.reduceEqDiff, Nat.reduceBEq, Nat.reduceLT, Nat.reduceLeDiff, Nat.reducePow, Int.reduceToNat, Int.reduceLT, Int.reduceLE, Int.reduceGT, Int.reduceGE, Int.reduceEq, Int.reduceNeg, Int.reduceAdd, Int.reduceSub, ↓reduceIte, reduceCtorEq, c1, c2, w1, w2, w3, w5]

noncomputable def sDiv : Ev.Spec := specC (c3 .u64) (fun x => U x.1 ∧ U x.2.1 ∧ U x.2.2 ∧ x.1 < x.2.2) fun x => [.int .u64 ((x.1 * 18446744073709551616 + x.2.1) / x.2.2), .int .u64 ((x.1 * 18446744073709551616 + x.2.1) % x.2.2)]
theorem sDiv_run (a b c : Int) (ha : U a) (hb : U b) (hc : U c) (h : a < c) : sDiv.run [.int .u64 a, .int .u64 b, .int .u64 c] = some [.int .u64 ((a * 18446744073709551616 + b) / c), .int .u64 ((a * 18446744073709551616 + b) % c)] := specC_run (c3 .u64) _ _ (a, b, c) ⟨ha, hb, hc, h⟩
/-- The divisor moved up to the top of the word. -/
theorem norm_ex {hi lo y : Int} (h0 : 0 < hi) (hlo : U lo) (hy : U y) (h : hi < y) : ∃ (k : Nat) (p r : Int), 64 - (bitLen y.toNat : Int) = k ∧ k ≤ 63 ∧ p = ((2 ^ k : Nat) : Int) ∧ r = ((2 ^ (64 - k) : Nat) : Int) ∧ p * r = 18446744073709551616 ∧ 1 ≤ p ∧ 1 ≤ r ∧
    9223372036854775808 ≤ y * p ∧ y * p < 18446744073709551616 ∧ 0 ≤ hi * p ∧ hi * p < y * p := by
  obtain ⟨y0, y1⟩ := hy
  have hbl := bl_le ⟨y0, y1⟩
  obtain ⟨a, b⟩ := bitLen_spec y.toNat
  have hne : y.toNat ≠ 0 := by omega
  have b := b hne
  have hb1 : 1 ≤ bitLen y.toNat := by
    refine Nat.le_of_not_lt fun hc => ?_
    have : bitLen y.toNat = 0 := by omega
    rw [this] at a
    omega
  refine ⟨64 - bitLen y.toNat, _, _, by omega, by omega, rfl, rfl, ?_, ?_, ?_, ?_, ?_, ?_, ?_⟩
  · rw [← Int.natCast_mul, ← Nat.pow_add, show 64 - bitLen y.toNat + (64 - (64 - bitLen y.toNat)) = 64 by omega]; rfl
  · have := Nat.two_pow_pos (64 - bitLen y.toNat); omega
  · have := Nat.two_pow_pos (64 - (64 - bitLen y.toNat)); omega
  · have e : (2 ^ (bitLen y.toNat - 1) * 2 ^ (64 - bitLen y.toNat) : Nat) = 9223372036854775808 := by
      rw [← Nat.pow_add, show bitLen y.toNat - 1 + (64 - bitLen y.toNat) = 63 by omega]
    have := Nat.mul_le_mul_right (2 ^ (64 - bitLen y.toNat)) b
    rw [e] at this
    have hc : ((y.toNat * 2 ^ (64 - bitLen y.toNat) : Nat) : Int) = y * ((2 ^ (64 - bitLen y.toNat) : Nat) : Int) := by rw [Int.natCast_mul, Int.toNat_of_nonneg y0]
    omega
  · have e : (2 ^ bitLen y.toNat * 2 ^ (64 - bitLen y.toNat) : Nat) = 18446744073709551616 := by
      rw [← Nat.pow_add, show bitLen y.toNat + (64 - bitLen y.toNat) = 64 by omega]
    have := (Nat.mul_lt_mul_right (Nat.two_pow_pos (64 - bitLen y.toNat))).2 a
    rw [e] at this
    have hc : ((y.toNat * 2 ^ (64 - bitLen y.toNat) : Nat) : Int) = y * ((2 ^ (64 - bitLen y.toNat) : Nat) : Int) := by rw [Int.natCast_mul, Int.toNat_of_nonneg y0]
    omega
  · exact Int.mul_nonneg (by omega) (Int.natCast_nonneg _)
  · exact Int.mul_lt_mul_of_pos_right h (by exact_mod_cast Nat.two_pow_pos (64 - bitLen y.toNat))
theorem eDiv (hi lo y : Int) (hhi : U hi) (hlo : U lo) (hy : U y) (h : hi < y) : evTop Try.prog G2 T2 3 1 136 [.int .u64 hi, .int .u64 lo, .int .u64 y] = some [.int .u64 ((hi * 18446744073709551616 + lo) / y), .int .u64 ((hi * 18446744073709551616 + lo) % y)] := by
  unfold evTop
  simp only [List.map]
  rw [evF_s (fn := Try.f136) (msk := en136.ms) (hT := by rfl) (hb := by rfl)]
  have hny : ¬ y = 0 := by have := hhi.1; omega
  have hnl : ¬ y ≤ hi := by omega
  by_cases hz : hi = 0
  · have e1 : lo.tdiv y = lo / y := Int.tdiv_eq_ediv_of_nonneg hlo.1
    have e2 : lo.tmod y = lo % y := Int.tmod_eq_emod_of_nonneg hlo.1
    have e3 : IntKind.u64.wrap (lo / y) = lo / y := by
      refine wu_in (Int.ediv_nonneg hlo.1 hy.1) ?_
      have := Int.ediv_le_self y hlo.1
      have := hlo.2; omega
    subst hz
    have hnl2 : ¬ y ≤ 0 := hnl
    simp only [Try.f136, go_sem, Nat.reduceAdd, Nat.reduceSub, Nat.reduceMul, Nat.reduceEqDiff, Nat.reduceBEq, Nat.reduceLT, Nat.reduceLeDiff, Nat.reducePow, Int.reduceToNat, Int.reduceLT, Int.reduceLE, Int.reduceGT, Int.reduceGE, Int.reduceEq, Int.reduceNeg, Int.reduceAdd, Int.reduceSub, ↓reduceIte, reduceCtorEq, hny, hnl2, e1, e2, e3, Int.zero_mul, Int.zero_add]
  have hpos : 0 < hi := by have := hhi.1; omega
  obtain ⟨k, p, r, hk, hk63, hp, hr, hpr, hp1, hr1, hy63, hy64, hh0, hhy⟩ := norm_ex hpos hlo hy h
  have l0 := hlo.1
  have l1 := hlo.2
  -- the words of the numerator
  have q0 : 0 ≤ lo / r := Int.ediv_nonneg l0 (by omega)
  have q1 : lo / r < p := Int.ediv_lt_of_lt_mul (by omega) (by omega)
  have q2 : lo * p / 18446744073709551616 = lo / r := by rw [← hpr, Int.mul_comm p r, Int.mul_ediv_mul_of_pos_left _ _ (by omega)]
  have q3 := Int.mul_ediv_add_emod (lo * p) 18446744073709551616
  rw [q2] at q3
  have q4 := Int.emod_nonneg (lo * p) (show (18446744073709551616 : Int) ≠ 0 by decide)
  have q5 := Int.emod_lt_of_pos (lo * p) (show (0 : Int) < 18446744073709551616 by decide)
  have hN : (hi * 18446744073709551616 + lo) * p = hi * p * 18446744073709551616 + lo * p := by rw [Int.add_mul, Int.mul_right_comm]
  have hlt : (hi * 18446744073709551616 + lo) * p < y * p * 18446744073709551616 := by
    have : hi * 18446744073709551616 + lo < y * 18446744073709551616 := by omega
    have := Int.mul_lt_mul_of_pos_right this (show 0 < p by omega)
    rw [Int.mul_right_comm] at this; exact this
  -- what the code computes
  have wk : IntKind.u64.wrap (64 - (bitLen y.toNat : Int)) = (k : Nat) := by rw [hk]; exact wu_in (by omega) (by omega)
  have wk2 : IntKind.u64.wrap (64 - (k : Int)) = ((64 - k : Nat) : Int) := by rw [show (64 : Int) - k = ((64 - k : Nat) : Int) by omega]; exact wu_in (by omega) (by omega)
  have s1 : shlI .u64 y (k : Nat) = y * p := by rw [shl_lit .u64 y k (by show k ≤ 64; omega), ← hp]; exact wu_in (by omega) (by omega)
  have s2 : shlI .u64 hi (k : Nat) = hi * p := by rw [shl_lit .u64 hi k (by show k ≤ 64; omega), ← hp]; exact wu_in (by omega) (by omega)
  have s3 : shrI .u64 lo ((64 - k : Nat) : Int) = lo / r := by rw [shr_lit .u64 lo (64 - k) (by show 64 - k ≤ 64; omega), ← hr]
  have s4 : shlI .u64 lo (k : Nat) = lo * p % 18446744073709551616 := by rw [shl_lit .u64 lo k (by show k ≤ 64; omega), ← hp, wu]
  have s5 : bitsI .or .u64 (hi * p) (lo / r) = hi * p + lo / r := or_add k hp hh0 (by omega) (Int.mul_emod_left _ _) q0 q1 (by omega)
  have k0 : ¬ ((k : Nat) : Int) < 0 := by omega
  have k1 : ¬ ((64 - k : Nat) : Int) < 0 := by omega
  -- names
  generalize hyp : y * p = Y at *
  generalize hUU : hi * p + lo / r = UU at *
  generalize hv : lo * p % 18446744073709551616 = v at *
  have hY32 : Y / 4294967296 * 4294967296 + Y % 4294967296 = Y := by omega
  have hV32 : v / 4294967296 * 4294967296 + v % 4294967296 = v := by omega
  have hU0 : 0 ≤ UU := by omega
  have hUY : UU < Y := by omega
  have hF := digit_first (U := UU) (y1 := Y / 4294967296) (y0 := Y % 4294967296) (u1 := v / 4294967296) (by omega) hU0 (by omega) (by omega) (by omega) (by omega) (by omega)
  obtain ⟨f1, f2, f3, f4, f5⟩ := hF
  have hT := two_digits (U := UU) (u1 := v / 4294967296) (u0 := v % 4294967296) (y := Y) (by omega) (by omega) (by omega)
  simp only at hT
  obtain ⟨t1, t2, t3, t4⟩ := hT
  rw [hY32] at f1
  have hbt := below_top (U := UU) (y := Y) (u1 := v / 4294967296) hUY (by omega) hU0 (by omega) (by omega)
  generalize hq1 : (UU * 4294967296 + v / 4294967296) / Y = Q1 at *
  generalize hR1 : UU * 4294967296 + v / 4294967296 - Q1 * Y = R1 at *
  have hF2 := digit_first (U := R1) (y1 := Y / 4294967296) (y0 := Y % 4294967296) (u1 := v % 4294967296) (by omega) t3 (by omega) (by omega) (by omega) (by omega) (by omega)
  obtain ⟨g1, g2, g3, g4, g5⟩ := hF2
  rw [hY32] at g1
  have hbt2 := below_top (U := R1) (y := Y) (u1 := v % 4294967296) t4 (by omega) t3 (by omega) (by omega)
  have tU : UU.tdiv (Y / 4294967296) = UU / (Y / 4294967296) := Int.tdiv_eq_ediv_of_nonneg hU0
  have tR : R1.tdiv (Y / 4294967296) = R1 / (Y / 4294967296) := Int.tdiv_eq_ediv_of_nonneg t3
  have n1 : ¬ Y / 4294967296 = 0 := by omega
  have w1 : IntKind.u64.wrap (UU / (Y / 4294967296)) = UU / (Y / 4294967296) := wu_in f3 (by omega)
  have m1 : UU / (Y / 4294967296) * (Y / 4294967296) ≤ UU := by omega
  have m0 : 0 ≤ UU / (Y / 4294967296) * (Y / 4294967296) := Int.mul_nonneg f3 (by omega)
  have w2 : IntKind.u64.wrap (UU / (Y / 4294967296) * (Y / 4294967296)) = UU / (Y / 4294967296) * (Y / 4294967296) := wu_in m0 (by omega)
  have w3 : IntKind.u64.wrap (UU - UU / (Y / 4294967296) * (Y / 4294967296)) = UU - UU / (Y / 4294967296) * (Y / 4294967296) := wu_in f4 (by omega)
  have w4 : IntKind.u64.wrap (IntKind.u64.wrap (IntKind.u64.wrap (UU * 4294967296) + v / 4294967296) - IntKind.u64.wrap (Q1 * Y)) = R1 := by
    simp only [wu]; omega
  have w5 : IntKind.u64.wrap (R1 / (Y / 4294967296)) = R1 / (Y / 4294967296) := wu_in g3 (by omega)
  have m2 : 0 ≤ R1 / (Y / 4294967296) * (Y / 4294967296) := Int.mul_nonneg g3 (by omega)
  have w6 : IntKind.u64.wrap (R1 / (Y / 4294967296) * (Y / 4294967296)) = R1 / (Y / 4294967296) * (Y / 4294967296) := wu_in m2 (by omega)
  have w7 : IntKind.u64.wrap (R1 - R1 / (Y / 4294967296) * (Y / 4294967296)) = R1 - R1 / (Y / 4294967296) * (Y / 4294967296) := wu_in g4 (by omega)
  have a1 : bitsI .and .u64 Y 4294967295 = Y % 4294967296 := and32 Y (by omega) (by omega)
  have a2 : bitsI .and .u64 v 4294967295 = v % 4294967296 := and32 v (by omega) (by omega)
  simp only [Try.f136, G2, go_sem, Nat.reduceAdd, Nat.reduceSub, Nat.reduceMul, Nat.reduceEqDiff, Nat.reduceBEq, Nat.reduceLT, Nat.reduceLeDiff, Nat.reducePow, Int.reduceToNat, Int.reduceLT, Int.reduceLE, Int.reduceGT, Int.reduceGE, Int.reduceEq, Int.reduceNeg, Int.reduceAdd, Int.reduceSub, ↓reduceIte, reduceCtorEq, hny, hnl, hz, sLz_run y hy, wk, wk2, s1, s2, s3, s4, s5, k0, k1, shr32, a1, a2, tU, n1, w1, w2, w3]
  conv in iter _ _ _ _ _ => change iter (evC _ G2 _ _ en136.ms _ _ lb136_0) (maskOf en136.ms 0) _ _ _
  have d1 : (UU * 4294967296 + v / 4294967296) / (Y / 4294967296 * 4294967296 + Y % 4294967296) = Q1 := by rw [hY32]; exact hq1
  have d2 : (R1 * 4294967296 + v % 4294967296) / (Y / 4294967296 * 4294967296 + Y % 4294967296) = (R1 * 4294967296 + v % 4294967296) / Y := by rw [hY32]
  rw [loop0 _ _ empty Y k (Y / 4294967296) (Y % 4294967296) UU (v / 4294967296) (v % 4294967296) hU0 (by omega) (by omega) (by omega) (by omega) (by omega) (by omega) (by omega) _ (UU / (Y / 4294967296), UU - UU / (Y / 4294967296) * (Y / 4294967296)) _
    ⟨f3, f2, by rw [d1]; exact f1, rfl, f4, by show UU - UU / (Y / 4294967296) * (Y / 4294967296) < 4294967296; omega⟩ (by split <;> omega) (by simp only [hd0, hd136_0, go_sem, Nat.reduceAdd, Nat.reduceSub, Nat.reduceMul, Nat.reduceEqDiff, Nat.reduceBEq, Nat.reduceLT, Nat.reduceLeDiff, Nat.reducePow, Int.reduceToNat, Int.reduceLT, Int.reduceLE, Int.reduceGT, Int.reduceGE, Int.reduceEq, Int.reduceNeg, Int.reduceAdd, Int.reduceSub, ↓reduceIte, reduceCtorEq]), d1]
  simp only [hx136_0, go_sem, Nat.reduceAdd, Nat.reduceSub, Nat.reduceMul, Nat.reduceEqDiff, Nat.reduceBEq, Nat.reduceLT, Nat.reduceLeDiff, Nat.reducePow, Int.reduceToNat, Int.reduceLT, Int.reduceLE, Int.reduceGT, Int.reduceGE, Int.reduceEq, Int.reduceNeg, Int.reduceAdd, Int.reduceSub, ↓reduceIte, reduceCtorEq, w4, tR, n1, w5, w6, w7]
  conv in iter _ _ _ _ _ => change iter (evC _ G2 _ _ en136.ms _ _ lb136_2) (maskOf en136.ms 2) _ _ _
  rw [loop2 _ _ empty Y k (Y / 4294967296) (Y % 4294967296) (v % 4294967296) Q1 R1 t3 (by omega) (by omega) (by omega) (by omega) (by omega) (by omega) (by omega) _ (R1 / (Y / 4294967296), R1 - R1 / (Y / 4294967296) * (Y / 4294967296)) _
    ⟨g3, g2, by rw [d2]; exact g1, rfl, g4, by show R1 - R1 / (Y / 4294967296) * (Y / 4294967296) < 4294967296; omega⟩ (by split <;> omega) (by simp only [hd2, hd136_2, go_sem, Nat.reduceAdd, Nat.reduceSub, Nat.reduceMul, Nat.reduceEqDiff, Nat.reduceBEq, Nat.reduceLT, Nat.reduceLeDiff, Nat.reducePow, Int.reduceToNat, Int.reduceLT, Int.reduceLE, Int.reduceGT, Int.reduceGE, Int.reduceEq, Int.reduceNeg, Int.reduceAdd, Int.reduceSub, ↓reduceIte, reduceCtorEq]), d2]
  generalize hQ0 : (R1 * 4294967296 + v % 4294967296) / Y = Q0 at *
  have hNv : UU * 18446744073709551616 + v / 4294967296 * 4294967296 + v % 4294967296 = (hi * 18446744073709551616 + lo) * p := by omega
  rw [hNv, ← hyp] at t1 t2
  obtain ⟨z1, z2⟩ := scale_div (hi * 18446744073709551616 + lo) y p (by omega)
  rw [z1] at t1
  rw [z2] at t2
  have z3 := Int.emod_nonneg (hi * 18446744073709551616 + lo) (show y ≠ 0 by omega)
  have z4 := Int.emod_lt_of_pos (hi * 18446744073709551616 + lo) (show 0 < y by omega)
  have x1 : IntKind.u64.wrap (IntKind.u64.wrap (Q1 * 4294967296) + Q0) = (hi * 18446744073709551616 + lo) / y := by
    simp only [wu]; omega
  have x2 : IntKind.u64.wrap (IntKind.u64.wrap (IntKind.u64.wrap (R1 * 4294967296) + v % 4294967296) - IntKind.u64.wrap (Q0 * Y)) = (hi * 18446744073709551616 + lo) % y * p := by
    rw [← hyp]
    have y1 : (hi * 18446744073709551616 + lo) % y * p < y * p := Int.mul_lt_mul_of_pos_right z4 (by omega)
    have y2 : 0 ≤ (hi * 18446744073709551616 + lo) % y * p := Int.mul_nonneg z3 (by omega)
    simp only [wu]; omega
  have x3 : shrI .u64 ((hi * 18446744073709551616 + lo) % y * p) (k : Nat) = (hi * 18446744073709551616 + lo) % y := by
    rw [shr_lit .u64 _ k (by show k ≤ 64; omega), ← hp, Int.mul_ediv_cancel _ (by omega)]
  simp only [hx136_2, go_sem, Nat.reduceAdd, Nat.reduceSub, Nat.reduceMul, Nat.reduceEqDiff, Nat.reduceBEq, Nat.reduceLT, Nat.reduceLeDiff, Nat.reducePow, Int.reduceToNat, Int.reduceLT, Int.reduceLE, Int.reduceGT, Int.reduceGE, Int.reduceEq, Int.reduceNeg, Int.reduceAdd, Int.reduceSub, ↓reduceIte, reduceCtorEq, x1, x2, k0, x3]
theorem sDiv_ok : SpecOk Try.prog 136 sDiv := specC_ok mixed G2_ok T2_ok fun x hp => ⟨3, 1, eDiv x.1 x.2.1 x.2.2 hp.1 hp.2.1 hp.2.2.1 hp.2.2.2⟩
#print axioms sDiv_ok
end Go.Proofs.YtmhjmjodchbhlaaR.Num2Pull
end
section
set_option linter.unusedVariables false
set_option linter.unusedSimpArgs false
set_option maxRecDepth 100000
namespace Go.Proofs.YtmhjmjodchbhlaaR.Num3Pull
open Go.Ev Go.Ari Go.Proofs.YtmhjmjodchbhlaaR.FxPull Go.Proofs.YtmhjmjodchbhlaaR.Num1Pull Go.Proofs.YtmhjmjodchbhlaaR.Num2Pull
attribute [local go_sem] Ev.putR_s Ev.putR_0 Ev.thenO_s Ev.thenO_0 Ev.seqR_n Ev.seqR_e Ev.seqR_r Ev.seqR_0 Ev.blkR_e Ev.blkR_n Ev.blkR_r Ev.blkR_0 Ev.normR_s Ev.normR_0 Ev.outR_r Ev.outR_n Ev.outR_0 Ev.retS_s Ev.retS_0 Ev.pureO_s Ev.pureO_0 Ev.topR_0 Ev.topR_t Ev.topR_t0 Ev.oneL_0 Ev.oneL_s Ev.topR_d Ev.topR_nils Ev.topR_agg Ev.topR_rs Ev.evOp_move Ev.evOp_assign Ev.evOp_pick Ev.evOp_alloc Ev.evOp_box Ev.evOp_build Ev.evOp_buildSlice Ev.evOp_load Ev.evOp_store Ev.evOp_makeMap Ev.evOp_lookup Ev.evOp_mapUpdate Ev.evOp_insert Ev.evOp_nilCheck Ev.evOp_binOp Ev.evOp_unOp Ev.evOp_convert Ev.evOp_makeFunc Ev.evOp_makeSlice Ev.evOp_slice Ev.evOp_fieldAddr Ev.evOp_field Ev.evOp_indexAddr Ev.evOp_index Ev.evOp_extract Ev.evOp_call Ev.evOp_append Ev.evOp_len Ev.evOp_min Ev.evOp_max Ev.condR_b Ev.condR_t Ev.evOps_nil Ev.evOps_plain Ev.evOps_guard Ev.runG_eq Ev.skipG_eq Ev.condL_tt Ev.condL_ff Ev.condL_tf Ev.condL_ft Ev.condL_u Ev.condC_t Ev.condC_f Ev.evC_skip Ev.evC_ret Ev.evC_exit Ev.evC_label Ev.evC_region Ev.evC_draw Ev.evC_seq Ev.evC_cond Ev.evC_block Ev.evC_loop Ev.fin_d Ev.fin_nils Ev.fin_agg_ Ev.fin_rs Ev.finS_s Ev.mapO_fin Ev.upd_upd Ev.argv_d Ev.argv_nils Ev.argv_agg Ev.argv_rs Ev.argv_p Ev.appendTo_nils Ev.appendTo_rs Ev.consV_d Ev.consV_agg Ev.consV_p Ev.consV_rs Ev.consV_nils Ev.consV_fn Ev.consV_und Ev.consV_jk Ev.consV_grown Ev.topR_grown Ev.len_grown Ev.consV_mp Ev.sameK_i Ev.sameK_s Ev.mget_0 Ev.mget_hit Ev.mget_miss Ev.mput_0 Ev.mput_hit Ev.mput_miss Ev.apartAll Ev.apartL Ev.apartV Ev.freeAll Ev.sel Ev.keyOfV Ev.evLookup Ev.evPut Ev.hintOk Ev.keyOk Ev.consP Ev.lookV Ev.guardV Ev.dstAt Ev.evPure Ev.evStore Ev.evPureB Ev.evBin Ev.evBinO Ev.evNil Ev.isNilC Ev.evUn Ev.evConv Ev.evSlice Ev.optI Ev.lenV Ev.elemT Ev.foldI Ev.capsOk Ev.noTup Ev.nth Ev.setN Ev.pad Ev.V.get Ev.V.put Ev.putD Ev.hasT Ev.newBlk Ev.upd Ev.keq Ev.empty Ev.evCall Ev.V.args Ev.argP Ev.callOf Ev.evNilP Ev.isNilP Ev.look Ev.V.view.views Ev.V.view Ev.V.toD Ev.V.toD.V.toDs Ev.V.pure.pures Ev.V.pure Ev.D.flat.flats Ev.D.flat Ev.mkAgg Ev.allD Ev.aggParts Ev.setParts Ev.setElems Ev.getPath Ev.setPath Ev.subL Ev.eqD Ev.eqD.eqDs Ev.and2 Ev.strCut Ev.evalT Ev.constT Ev.evArgs Ev.mask Ev.maskOf Ev.tableOf Ev.compT Ev.resV Ev.retV Ev.mapO Ev.elemsOf Int.cast_ofNat_Int IntWalk.i64_in IntWalk.u64_in IntWalk.u8_in beq_self_eq_true Bool.true_beq Bool.false_beq Bool.and_true Bool.true_and Bool.false_and Bool.and_false Bool.and_self Bool.not_true Bool.not_false Bool.not_eq_true cond_true cond_false if_true if_false and_true true_and and_self decide_true decide_false Bool.or_true Bool.true_or Bool.or_false Bool.false_or List.isEmpty List.isEmpty_nil List.size_toArray List.map List.length_map List.length_cons List.length_nil Option.map Option.bind Option.getD Option.isSome List.replicate Bool.false_eq_true implies_true forall_const Array.toList Array.isEmpty List.append List.nil_append List.cons_append List.drop_zero List.take_length List.take_succ_cons List.take_zero List.take_nil List.getElem?_map List.getElem?_cons_zero List.getElem?_cons_succ List.getElem?_nil List.append_nil
attribute [local go_sem] FxPull.tk2 FxPull.ik2 FxPull.ek2 FxPull.zv2 FxPull.tk3 FxPull.ik3 FxPull.ek3 FxPull.zv3 FxPull.tk4 FxPull.ub4 FxPull.zv4 FxPull.tk5 FxPull.ik5 FxPull.zv5 FxPull.tk9 FxPull.ek9 FxPull.tk23 FxPull.ct23 FxPull.ek23 FxPull.zv23 FxPull.tk27 FxPull.ik27 FxPull.zv27 FxPull.tk37 FxPull.ik37 FxPull.zv37 FxPull.by37 FxPull.so37 FxPull.tk39 FxPull.ct39 FxPull.zv39 FxPull.by39 FxPull.so39 FxPull.tk43 FxPull.zv43 FxPull.tk44 FxPull.zv44 FxPull.tk45 FxPull.zv45 FxPull.tk47 FxPull.ct47 FxPull.zv47 FxPull.tk48 FxPull.ik48 FxPull.zv48 FxPull.tk76 FxPull.ct76 FxPull.zv76 FxPull.by76 FxPull.so76 FxPull.tk77 FxPull.zv77 FxPull.tk79 FxPull.ct79 FxPull.zv79 FxPull.by79 FxPull.so79 FxPull.tk88 FxPull.zv88 FxPull.tk92 FxPull.ik92 FxPull.zv92 FxPull.tk135 FxPull.ik135 FxPull.zv135 FxPull.tk136 FxPull.mt136 FxPull.sm136 FxPull.zw4 FxPull.zv136 FxPull.tk145 FxPull.zv145 FxPull.tk148 FxPull.ct148 FxPull.zv148 FxPull.tk150 FxPull.ct150 FxPull.zv150 FxPull.tk161 FxPull.ct161 FxPull.zv161 FxPull.tk203 FxPull.dw3_1 FxPull.nc3_1 FxPull.mk3_1000000 FxPull.mk4_1000000 FxPull.mk14_1000000 FxPull.dw15_7 FxPull.nc15_7 FxPull.mk15_1000000 FxPull.dw16_7 FxPull.nc16_7 FxPull.mk16_1000000 FxPull.mk17_1000000 FxPull.mk18_1000000 FxPull.mk30_1000000 FxPull.mk40_0 FxPull.mk40_2 FxPull.mk40_4 FxPull.mk40_1000001 FxPull.mk40_1000002 FxPull.mk40_1000003 FxPull.mk40_1000004 FxPull.mk40_1000005 FxPull.mk40_1000006 FxPull.mk40_1000007 FxPull.mk40_1000000 FxPull.mk46_0 FxPull.mk46_1000001 FxPull.mk46_1000002 FxPull.mk46_1000000 FxPull.mk47_1000000 FxPull.mk48_1000000 FxPull.mk49_1000000 FxPull.mk50_1000000 FxPull.mk51_0 FxPull.mk51_1000001 FxPull.mk51_1000002 FxPull.mk51_1000000 FxPull.dw52_2 FxPull.nc52_2 FxPull.mk52_1000000 FxPull.mk53_1000000 FxPull.mk54_1000000 FxPull.mk55_1000001 FxPull.mk55_1000000 FxPull.mk64_1000000 FxPull.mk78_0 FxPull.mk78_1000001 FxPull.mk78_1000002 FxPull.mk78_1000000 FxPull.mk87_1000001 FxPull.mk87_1000000 FxPull.mk88_1000001 FxPull.mk88_1000000 FxPull.mk89_0 FxPull.mk89_1000001 FxPull.mk89_1000002 FxPull.mk89_1000000 FxPull.mk93_1000001 FxPull.mk93_1000000 FxPull.mk95_1000000 FxPull.mk98_0 FxPull.mk98_1000001 FxPull.mk98_1000002 FxPull.mk98_1000000 FxPull.mk99_1000000 FxPull.mk100_1000001 FxPull.mk100_1000000 FxPull.mk101_1000000 FxPull.mk102_1000000 FxPull.mk103_0 FxPull.mk103_1000001 FxPull.mk103_1000002 FxPull.mk103_1000000 FxPull.mk127_1000000 FxPull.mk128_1000000 FxPull.mk131_0 FxPull.mk131_1000001 FxPull.mk131_1000002 FxPull.mk131_1000000 FxPull.mk134_1000000 FxPull.mk135_1000000 FxPull.dw136_6 FxPull.nc136_6 FxPull.mk136_0 FxPull.mk136_2 FxPull.mk136_1000001 FxPull.mk136_1000002 FxPull.mk136_1000003 FxPull.mk136_1000004 FxPull.mk136_1000000 FxPull.mk152_1000000
def ab (a : Int) : Int := if a < 0 then -a else a
def cW : Cod (Int × Int) := cA 150 (cCons (cI .i64) (cOne (cI .u64)))
noncomputable def G3 : Specs := [(138, sAdd), (101, sMul), (136, sDiv)]
noncomputable def T3 : Table := tableOf [(134, en134), (135, en135)]
theorem G3_ok : ∀ g s, Ev.look G3 g = some s → SpecOk Try.prog g s := specs_cons sAdd_ok (specs_cons sMul_ok (specs_cons sDiv_ok specs_nil))
theorem T3_ok : TableOk Try.prog (G3.map (·.1)) T3 := (table_cons Try.func134 (by kernel_rfl) (by kernel_rfl) (table_cons Try.func135 (by kernel_rfl) (by kernel_rfl) table_nil))
theorem conv_neg {a : Int} (h : I a) (hn : a < 0) : IntKind.u64.wrap (0 - IntKind.u64.wrap a) = -a := by
  obtain ⟨h0, h1⟩ := h
  simp only [wu]; omega
theorem conv_pos {a : Int} (h : I a) (hn : ¬ a < 0) : IntKind.u64.wrap a = a := by
  obtain ⟨h0, h1⟩ := h
  exact wu_in (by omega) (by omega)
noncomputable def sSize : Ev.Spec := specC (c1 .i64) I fun x => [.int .u64 (ab x)]
theorem sSize_run (a : Int) (h : I a) : sSize.run [.int .i64 a] = some [.int .u64 (ab a)] := specC_run (c1 .i64) _ _ a h
theorem eSize (a : Int) (h : I a) : evTop Try.prog G3 T3 0 1 134 [.int .i64 a] = some [.int .u64 (ab a)] := by
  unfold evTop
  simp only [List.map]
  rw [evF_s (fn := Try.f134) (msk := en134.ms) (hT := by rfl) (hb := by rfl)]
  by_cases hn : a < 0
  · simp only [Try.f134, go_sem, Nat.reduceAdd, Nat.reduceSub, Nat.reduceMul, Nat.reduceEqDiff, Nat.reduceBEq, Nat.reduceLT, Nat.reduceLeDiff, Nat.reducePow, Int.reduceToNat, Int.reduceLT, Int.reduceLE, Int.reduceGT, Int.reduceGE, Int.reduceEq, Int.reduceNeg, Int.reduceAdd, Int.reduceSub, ↓reduceIte, reduceCtorEq, hn, conv_neg h hn, ab]
  · simp only [Try.f134, go_sem, Nat.reduceAdd, Nat.reduceSub, Nat.reduceMul, Nat.reduceEqDiff, Nat.reduceBEq, Nat.reduceLT, Nat.reduceLeDiff, Nat.reducePow, Int.reduceToNat, Int.reduceLT, Int.reduceLE, Int.reduceGT, Int.reduceGE, Int.reduceEq, Int.reduceNeg, Int.reduceAdd, Int.reduceSub, ↓reduceIte, reduceCtorEq, hn, conv_pos h hn, ab]
theorem sSize_ok : SpecOk Try.prog 134 sSize := specC_ok mixed G3_ok T3_ok fun x hp => ⟨0, 1, eSize x hp⟩
theorem not_u {x : Int} (h : U x) : bitsI .xor .u64 (if IntKind.u64.signed = true then -1 else IntKind.u64.max) x = 18446744073709551615 - x := not_u64 h.1 h.2
/-- The two words of a number. -/
def wide (n : Int) : List D := [.agg 150 [.int .i64 (IntKind.i64.wrap (n / 18446744073709551616)), .int .u64 (n % 18446744073709551616)]]
noncomputable def sNeg : Ev.Spec := specC (cOne cW) (fun x => I x.1 ∧ U x.2) fun x => wide (-(x.1 * 18446744073709551616 + x.2))
theorem sNeg_run (a b : Int) (ha : I a) (hb : U b) : sNeg.run [.agg 150 [.int .i64 a, .int .u64 b]] = some (wide (-(a * 18446744073709551616 + b))) := specC_run (cOne cW) _ _ (a, b) ⟨ha, hb⟩
theorem eNeg (a b : Int) (ha : I a) (hb : U b) : evTop Try.prog G3 T3 0 1 135 [.agg 150 [.int .i64 a, .int .u64 b]] = some (wide (-(a * 18446744073709551616 + b))) := by
  unfold evTop
  simp only [List.map]
  rw [evF_s (fn := Try.f135) (msk := en135.ms) (hT := by rfl) (hb := by rfl)]
  have hu : U (IntKind.u64.wrap a) := by unfold U; rw [wu]; omega
  have h1 : U (18446744073709551615 - b) := by unfold U at *; omega
  have h2 : U (18446744073709551615 - IntKind.u64.wrap a) := by unfold U at *; omega
  obtain ⟨b0, b1⟩ := hb
  obtain ⟨a0, a1⟩ := ha
  have r1 := sAdd_run (18446744073709551615 - b) 1 0 h1 ⟨by decide, by decide⟩ (by decide) (by decide)
  have r2 := sAdd_run (18446744073709551615 - IntKind.u64.wrap a) 0 ((18446744073709551615 - b + 1 + 0) / 18446744073709551616) h2 ⟨by decide, by decide⟩ (by omega) (by omega)
  have x1 : IntKind.i64.wrap ((18446744073709551615 - IntKind.u64.wrap a + 0 + (18446744073709551615 - b + 1 + 0) / 18446744073709551616) % 18446744073709551616) = IntKind.i64.wrap (-(a * 18446744073709551616 + b) / 18446744073709551616) := by
    simp only [wi, wu]; omega
  have x2 : (18446744073709551615 - b + 1 + 0) % 18446744073709551616 = -(a * 18446744073709551616 + b) % 18446744073709551616 := by omega
  simp only [Try.f135, G3, go_sem, Nat.reduceAdd, Nat.reduceSub, Nat.reduceMul, Nat.reduceEqDiff, Nat.reduceBEq, Nat.reduceLT, Nat.reduceLeDiff, Nat.reducePow, Int.reduceToNat, Int.reduceLT, Int.reduceLE, Int.reduceGT, Int.reduceGE, Int.reduceEq, Int.reduceNeg, Int.reduceAdd, Int.reduceSub, ↓reduceIte, reduceCtorEq, not_u ⟨b0, b1⟩, not_u hu, r1, r2, x1, x2, wide]
theorem sNeg_ok : SpecOk Try.prog 135 sNeg := specC_ok mixed G3_ok T3_ok fun x hp => ⟨0, 1, eNeg x.1 x.2 hp.1 hp.2⟩
/-! ### Product -/
noncomputable def G3b : Specs := [(101, sMul), (134, sSize), (135, sNeg), (136, sDiv)]
noncomputable def T3b : Table := tableOf [(99, en99), (100, en100)]
theorem G3b_ok : ∀ g s, Ev.look G3b g = some s → SpecOk Try.prog g s := specs_cons sMul_ok (specs_cons sSize_ok (specs_cons sNeg_ok (specs_cons sDiv_ok specs_nil)))
theorem T3b_ok : TableOk Try.prog (G3b.map (·.1)) T3b := (table_cons Try.func99 (by kernel_rfl) (by kernel_rfl) (table_cons Try.func100 (by kernel_rfl) (by kernel_rfl) table_nil))
theorem ab_U {a : Int} (h : I a) : U (ab a) ∧ ab a ≤ 9223372036854775808 := by
  unfold U I ab at *
  split <;> omega
theorem ab_mul (a b : Int) : ab a * ab b = if (a < 0) ≠ (b < 0) then -(a * b) else a * b := by
  unfold ab
  by_cases ha : a < 0 <;> by_cases hb : b < 0 <;> simp [ha, hb, Int.neg_mul, Int.mul_neg]
theorem prod_bounds {a b : Int} (ha : I a) (hb : I b) : 0 ≤ ab a * ab b ∧ ab a * ab b ≤ 85070591730234615865843651857942052864 := by
  obtain ⟨⟨p1, p2⟩, p3⟩ := ab_U ha
  obtain ⟨⟨q1, q2⟩, q3⟩ := ab_U hb
  exact ⟨Int.mul_nonneg p1 q1, Int.mul_le_mul p3 q3 q1 (by decide)⟩
noncomputable def sProd : Ev.Spec := specC (c2 .i64) (fun x => I x.1 ∧ I x.2) fun x => wide (x.1 * x.2)
theorem sProd_run (a b : Int) (ha : I a) (hb : I b) : sProd.run [.int .i64 a, .int .i64 b] = some (wide (a * b)) := specC_run (c2 .i64) _ _ (a, b) ⟨ha, hb⟩
theorem neq_bool (p q : Prop) [Decidable p] [Decidable q] : (!(decide p == decide q)) = decide (p ≠ q) := by
  by_cases hp : p <;> by_cases hq : q <;> simp [hp, hq]
theorem eProd (a b : Int) (ha : I a) (hb : I b) : evTop Try.prog G3b T3b 0 1 99 [.int .i64 a, .int .i64 b] = some (wide (a * b)) := by
  unfold evTop
  simp only [List.map]
  rw [evF_s (fn := Try.f99) (msk := en99.ms) (hT := by rfl) (hb := by rfl)]
  have pb := prod_bounds ha hb
  have pm := ab_mul a b
  have r1 := sMul_run (ab a) (ab b) (ab_U ha).1 (ab_U hb).1
  have rs1 := sSize_run a ha
  have rs2 := sSize_run b hb
  have w1 : IntKind.i64.wrap (ab a * ab b / 18446744073709551616) = ab a * ab b / 18446744073709551616 := wi_in (by omega) (by omega)
  have rn := sNeg_run (ab a * ab b / 18446744073709551616) (ab a * ab b % 18446744073709551616) ⟨by omega, by omega⟩ ⟨by omega, by omega⟩
  have hs : -(ab a * ab b / 18446744073709551616 * 18446744073709551616 + ab a * ab b % 18446744073709551616) = -(ab a * ab b) := by omega
  rw [hs] at rn
  by_cases h1 : a < 0 <;> by_cases h2 : b < 0
  · have e : ab a * ab b = a * b := by rw [pm]; simp [h1, h2]
    rw [e] at r1 w1
    simp only [Try.f99, G3b, go_sem, Nat.reduceAdd, Nat.reduceSub, Nat.reduceMul, Nat.reduceEqDiff, Nat.reduceBEq, Nat.reduceLT, Nat.reduceLeDiff, Nat.reducePow, Int.reduceToNat, Int.reduceLT, Int.reduceLE, Int.reduceGT, Int.reduceGE, Int.reduceEq, Int.reduceNeg, Int.reduceAdd, Int.reduceSub, ↓reduceIte, reduceCtorEq, rs1, rs2, r1, w1, h1, h2, wide]
  · have e : ab a * ab b = -(a * b) := by rw [pm]; simp [h1, h2]
    have e2 : -(ab a * ab b) = a * b := by rw [e]; omega
    rw [e2] at rn
    unfold wide at rn
    simp only [Try.f99, G3b, go_sem, Nat.reduceAdd, Nat.reduceSub, Nat.reduceMul, Nat.reduceEqDiff, Nat.reduceBEq, Nat.reduceLT, Nat.reduceLeDiff, Nat.reducePow, Int.reduceToNat, Int.reduceLT, Int.reduceLE, Int.reduceGT, Int.reduceGE, Int.reduceEq, Int.reduceNeg, Int.reduceAdd, Int.reduceSub, ↓reduceIte, reduceCtorEq, rs1, rs2, r1, w1, h1, h2, rn, wide]
  · have e : ab a * ab b = -(a * b) := by rw [pm]; simp [h1, h2]
    have e2 : -(ab a * ab b) = a * b := by rw [e]; omega
    rw [e2] at rn
    unfold wide at rn
    simp only [Try.f99, G3b, go_sem, Nat.reduceAdd, Nat.reduceSub, Nat.reduceMul, Nat.reduceEqDiff, Nat.reduceBEq, Nat.reduceLT, Nat.reduceLeDiff, Nat.reducePow, Int.reduceToNat, Int.reduceLT, Int.reduceLE, Int.reduceGT, Int.reduceGE, Int.reduceEq, Int.reduceNeg, Int.reduceAdd, Int.reduceSub, ↓reduceIte, reduceCtorEq, rs1, rs2, r1, w1, h1, h2, rn, wide]
  · have e : ab a * ab b = a * b := by rw [pm]; simp [h1, h2]
    rw [e] at r1 w1
    simp only [Try.f99, G3b, go_sem, Nat.reduceAdd, Nat.reduceSub, Nat.reduceMul, Nat.reduceEqDiff, Nat.reduceBEq, Nat.reduceLT, Nat.reduceLeDiff, Nat.reducePow, Int.reduceToNat, Int.reduceLT, Int.reduceLE, Int.reduceGT, Int.reduceGE, Int.reduceEq, Int.reduceNeg, Int.reduceAdd, Int.reduceSub, ↓reduceIte, reduceCtorEq, rs1, rs2, r1, w1, h1, h2, wide]
theorem sProd_ok : SpecOk Try.prog 99 sProd := specC_ok mixed G3b_ok T3b_ok fun x hp => ⟨0, 1, eProd x.1 x.2 hp.1 hp.2⟩
/-! ### Div -/
/-- What a quotient answers: the number and the error. -/
def quoR (n d : Int) : Int × Int := if d < 1 then (0, 1) else if -9223372036854775808 ≤ n / d ∧ n / d < 9223372036854775808 then (n / d, 0) else (0, 2)
def two (p : Int × Int) : List D := [.int .i64 p.1, .int .i64 p.2]
noncomputable def sWdiv : Ev.Spec := specC (cCons cW (cOne (cI .i64))) (fun x => I x.1.1 ∧ U x.1.2 ∧ I x.2) fun x => two (quoR (x.1.1 * 18446744073709551616 + x.1.2) x.2)
theorem sWdiv_run (a b d : Int) (ha : I a) (hb : U b) (hd : I d) : sWdiv.run [.agg 150 [.int .i64 a, .int .u64 b], .int .i64 d] = some (two (quoR (a * 18446744073709551616 + b) d)) := specC_run (cCons cW (cOne (cI .i64))) _ _ ((a, b), d) ⟨ha, hb, hd⟩
theorem neg_ediv {n d : Int} (hd : 0 < d) : n / d = if (-n) % d = 0 then -((-n) / d) else -((-n) / d) - 1 := by
  have h1 := Int.mul_ediv_add_emod (-n) d
  have h2 := Int.emod_nonneg (-n) (show d ≠ 0 by omega)
  have h3 := Int.emod_lt_of_pos (-n) hd
  split
  · rename_i h
    rw [h] at h1
    have e : n = d * (-((-n) / d)) := by rw [Int.mul_neg]; omega
    conv => lhs; rw [e]
    exact Int.mul_ediv_cancel_left _ (by omega)
  · rename_i h
    have e : n = (d - (-n) % d) + d * (-((-n) / d) - 1) := by rw [Int.mul_sub, Int.mul_neg, Int.mul_one]; omega
    conv => lhs; rw [e]
    rw [Int.add_mul_ediv_left _ _ (by omega), Int.ediv_eq_zero_of_lt (by omega) (by omega)]
    omega
theorem big_quo {n d : Int} (hd : 0 < d) (h : d ≤ n / 18446744073709551616) : 18446744073709551616 ≤ n / d := by
  refine (Int.le_ediv_iff_mul_le hd).2 ?_
  omega
theorem small_quo {n d : Int} (h0 : 0 ≤ n) (hd : 0 < d) (h : n / 18446744073709551616 < d) : 0 ≤ n / d ∧ n / d < 18446744073709551616 := by
  refine ⟨Int.ediv_nonneg h0 (by omega), Int.ediv_lt_of_lt_mul hd ?_⟩
  have e : 18446744073709551616 * d = d * 18446744073709551616 := Int.mul_comm _ _
  omega
theorem eWdiv (a b d : Int) (ha : I a) (hb : U b) (hd : I d) : evTop Try.prog G3b T3b 0 1 100 [.agg 150 [.int .i64 a, .int .u64 b], .int .i64 d] = some (two (quoR (a * 18446744073709551616 + b) d)) := by
  unfold evTop
  simp only [List.map]
  rw [evF_s (fn := Try.f100) (msk := en100.ms) (hT := by rfl) (hb := by rfl)]
  by_cases h1 : d < 1
  · rw [quoR, if_pos h1]
    simp only [Try.f100, G3b, go_sem, Nat.reduceAdd, Nat.reduceSub, Nat.reduceMul, Nat.reduceEqDiff, Nat.reduceBEq, Nat.reduceLT, Nat.reduceLeDiff, Nat.reducePow, Int.reduceToNat, Int.reduceLT, Int.reduceLE, Int.reduceGT, Int.reduceGE, Int.reduceEq, Int.reduceNeg, Int.reduceAdd, Int.reduceSub, ↓reduceIte, reduceCtorEq, h1, two]
  rw [quoR, if_neg h1]
  have hdp : 0 < d := by omega
  have ud : U d := ⟨by omega, by unfold I at hd; omega⟩
  have cd : IntKind.u64.wrap d = d := wu_in ud.1 ud.2
  obtain ⟨a0, a1⟩ := ha
  obtain ⟨b0, b1⟩ := hb
  by_cases h2 : a < 0
  · have rn := sNeg_run a b ⟨a0, a1⟩ ⟨b0, b1⟩
    unfold wide at rn
    generalize hn : a * 18446744073709551616 + b = n at *
    have hm : 0 < -n ∧ -n ≤ 170141183460469231731687303715884105728 := by omega
    have c1 : IntKind.u64.wrap (IntKind.i64.wrap (-n / 18446744073709551616)) = -n / 18446744073709551616 := by simp only [wu, wi]; omega
    have um : U (-n / 18446744073709551616) := ⟨by omega, by omega⟩
    have ul : U (-n % 18446744073709551616) := ⟨by omega, by omega⟩
    by_cases h3 : -n / 18446744073709551616 ≥ d
    · have g := big_quo hdp h3
      have e := neg_ediv (n := n) hdp
      rw [if_neg (by rw [e]; split <;> omega)]
      simp only [Try.f100, G3b, go_sem, Nat.reduceAdd, Nat.reduceSub, Nat.reduceMul, Nat.reduceEqDiff, Nat.reduceBEq, Nat.reduceLT, Nat.reduceLeDiff, Nat.reducePow, Int.reduceToNat, Int.reduceLT, Int.reduceLE, Int.reduceGT, Int.reduceGE, Int.reduceEq, Int.reduceNeg, Int.reduceAdd, Int.reduceSub, ↓reduceIte, reduceCtorEq, h1, h2, rn, c1, cd, h3, two]
    · have sq := small_quo (n := -n) (by omega) hdp (by omega)
      have rd := sDiv_run (-n / 18446744073709551616) (-n % 18446744073709551616) d um ul ud (by omega)
      have hs : -n / 18446744073709551616 * 18446744073709551616 + -n % 18446744073709551616 = -n := by omega
      rw [hs] at rd
      have e := neg_ediv (n := n) hdp
      have m0 := Int.emod_nonneg (-n) (show d ≠ 0 by omega)
      have hge : ¬ a ≥ 0 := by omega
      by_cases h4 : -n % d > 0
      · have w9 : IntKind.u64.wrap (9223372036854775808 - 1) = 9223372036854775807 := by decide
        rw [if_neg (by omega)] at e
        by_cases h5 : -n / d > 9223372036854775807
        · rw [if_neg (by omega)]
          simp only [Try.f100, G3b, go_sem, Nat.reduceAdd, Nat.reduceSub, Nat.reduceMul, Nat.reduceEqDiff, Nat.reduceBEq, Nat.reduceLT, Nat.reduceLeDiff, Nat.reducePow, Int.reduceToNat, Int.reduceLT, Int.reduceLE, Int.reduceGT, Int.reduceGE, Int.reduceEq, Int.reduceNeg, Int.reduceAdd, Int.reduceSub, ↓reduceIte, reduceCtorEq, h1, h2, rn, c1, cd, h3, rd, h4, w9, h5, two]
        · rw [if_pos (by omega)]
          have x : IntKind.i64.wrap (IntKind.i64.wrap (IntKind.u64.wrap (0 - -n / d)) - 1) = n / d := by simp only [wu, wi]; omega
          simp only [Try.f100, G3b, go_sem, Nat.reduceAdd, Nat.reduceSub, Nat.reduceMul, Nat.reduceEqDiff, Nat.reduceBEq, Nat.reduceLT, Nat.reduceLeDiff, Nat.reducePow, Int.reduceToNat, Int.reduceLT, Int.reduceLE, Int.reduceGT, Int.reduceGE, Int.reduceEq, Int.reduceNeg, Int.reduceAdd, Int.reduceSub, ↓reduceIte, reduceCtorEq, h1, h2, rn, c1, cd, h3, rd, h4, w9, h5, hge, x, two]
      · rw [if_pos (by omega)] at e
        by_cases h5 : -n / d > 9223372036854775808
        · rw [if_neg (by omega)]
          simp only [Try.f100, G3b, go_sem, Nat.reduceAdd, Nat.reduceSub, Nat.reduceMul, Nat.reduceEqDiff, Nat.reduceBEq, Nat.reduceLT, Nat.reduceLeDiff, Nat.reducePow, Int.reduceToNat, Int.reduceLT, Int.reduceLE, Int.reduceGT, Int.reduceGE, Int.reduceEq, Int.reduceNeg, Int.reduceAdd, Int.reduceSub, ↓reduceIte, reduceCtorEq, h1, h2, rn, c1, cd, h3, rd, h4, h5, two]
        · rw [if_pos (by omega)]
          have x : IntKind.i64.wrap (IntKind.u64.wrap (0 - -n / d)) = n / d := by simp only [wu, wi]; omega
          simp only [Try.f100, G3b, go_sem, Nat.reduceAdd, Nat.reduceSub, Nat.reduceMul, Nat.reduceEqDiff, Nat.reduceBEq, Nat.reduceLT, Nat.reduceLeDiff, Nat.reducePow, Int.reduceToNat, Int.reduceLT, Int.reduceLE, Int.reduceGT, Int.reduceGE, Int.reduceEq, Int.reduceNeg, Int.reduceAdd, Int.reduceSub, ↓reduceIte, reduceCtorEq, h1, h2, rn, c1, cd, h3, rd, h4, h5, hge, x, two]
  · have hge : a ≥ 0 := by omega
    have ca : IntKind.u64.wrap a = a := wu_in (by omega) (by omega)
    have hdv : (a * 18446744073709551616 + b) / 18446744073709551616 = a := by omega
    by_cases h3 : a ≥ d
    · have g := big_quo (n := a * 18446744073709551616 + b) hdp (by omega)
      rw [if_neg (by omega)]
      simp only [Try.f100, G3b, go_sem, Nat.reduceAdd, Nat.reduceSub, Nat.reduceMul, Nat.reduceEqDiff, Nat.reduceBEq, Nat.reduceLT, Nat.reduceLeDiff, Nat.reducePow, Int.reduceToNat, Int.reduceLT, Int.reduceLE, Int.reduceGT, Int.reduceGE, Int.reduceEq, Int.reduceNeg, Int.reduceAdd, Int.reduceSub, ↓reduceIte, reduceCtorEq, h1, h2, ca, cd, h3, two]
    · have sq := small_quo (n := a * 18446744073709551616 + b) (by omega) hdp (by omega)
      have rd := sDiv_run a b d ⟨by omega, by omega⟩ ⟨b0, b1⟩ ud (by omega)
      by_cases h5 : (a * 18446744073709551616 + b) / d > 9223372036854775807
      · rw [if_neg (by omega)]
        simp only [Try.f100, G3b, go_sem, Nat.reduceAdd, Nat.reduceSub, Nat.reduceMul, Nat.reduceEqDiff, Nat.reduceBEq, Nat.reduceLT, Nat.reduceLeDiff, Nat.reducePow, Int.reduceToNat, Int.reduceLT, Int.reduceLE, Int.reduceGT, Int.reduceGE, Int.reduceEq, Int.reduceNeg, Int.reduceAdd, Int.reduceSub, ↓reduceIte, reduceCtorEq, h1, h2, ca, cd, h3, rd, h5, two]
      · rw [if_pos (by omega)]
        have x : IntKind.i64.wrap ((a * 18446744073709551616 + b) / d) = (a * 18446744073709551616 + b) / d := wi_in (by omega) (by omega)
        simp only [Try.f100, G3b, go_sem, Nat.reduceAdd, Nat.reduceSub, Nat.reduceMul, Nat.reduceEqDiff, Nat.reduceBEq, Nat.reduceLT, Nat.reduceLeDiff, Nat.reducePow, Int.reduceToNat, Int.reduceLT, Int.reduceLE, Int.reduceGT, Int.reduceGE, Int.reduceEq, Int.reduceNeg, Int.reduceAdd, Int.reduceSub, ↓reduceIte, reduceCtorEq, h1, h2, ca, cd, h3, rd, h5, hge, x, two]
theorem sWdiv_ok : SpecOk Try.prog 100 sWdiv := specC_ok mixed G3b_ok T3b_ok fun x hp => ⟨0, 1, eWdiv x.1.1 x.1.2 x.2 hp.1 hp.2.1 hp.2.2⟩
/-! ### MulDiv -/
noncomputable def G3c : Specs := [(99, sProd), (100, sWdiv)]
noncomputable def T3c : Table := tableOf [(49, en49)]
theorem G3c_ok : ∀ g s, Ev.look G3c g = some s → SpecOk Try.prog g s := specs_cons sProd_ok (specs_cons sWdiv_ok specs_nil)
theorem T3c_ok : TableOk Try.prog (G3c.map (·.1)) T3c := (table_cons Try.func49 (by kernel_rfl) (by kernel_rfl) table_nil)
noncomputable def sMulDiv : Ev.Spec := specC (c3 .i64) (fun x => I x.1 ∧ I x.2.1 ∧ I x.2.2) fun x => two (quoR (x.1 * x.2.1) x.2.2)
theorem sMulDiv_run (a b c : Int) (ha : I a) (hb : I b) (hc : I c) : sMulDiv.run [.int .i64 a, .int .i64 b, .int .i64 c] = some (two (quoR (a * b) c)) := specC_run (c3 .i64) _ _ (a, b, c) ⟨ha, hb, hc⟩
theorem wide_in {a b : Int} (ha : I a) (hb : I b) : -4611686018427387904 ≤ a * b / 18446744073709551616 ∧ a * b / 18446744073709551616 ≤ 4611686018427387904 ∧ IntKind.i64.wrap (a * b / 18446744073709551616) = a * b / 18446744073709551616 := by
  have pb := prod_bounds ha hb
  have pm := ab_mul a b
  have : -85070591730234615865843651857942052864 ≤ a * b ∧ a * b ≤ 85070591730234615865843651857942052864 := by split at pm <;> omega
  exact ⟨by omega, by omega, wi_in (by omega) (by omega)⟩
theorem eMulDiv (a b c : Int) (ha : I a) (hb : I b) (hc : I c) : evTop Try.prog G3c T3c 0 1 49 [.int .i64 a, .int .i64 b, .int .i64 c] = some (two (quoR (a * b) c)) := by
  unfold evTop
  simp only [List.map]
  rw [evF_s (fn := Try.f49) (msk := en49.ms) (hT := by rfl) (hb := by rfl)]
  have r1 := sProd_run a b ha hb
  obtain ⟨w1, w2, w3⟩ := wide_in ha hb
  have r2 := sWdiv_run (a * b / 18446744073709551616) (a * b % 18446744073709551616) c ⟨by omega, by omega⟩ ⟨by omega, by omega⟩ hc
  rw [show a * b / 18446744073709551616 * 18446744073709551616 + a * b % 18446744073709551616 = a * b by omega] at r2
  unfold wide at r1
  rw [w3] at r1
  unfold two at r2 ⊢
  simp only [Try.f49, G3c, go_sem, Nat.reduceAdd, Nat.reduceSub, Nat.reduceMul, Nat.reduceEqDiff, Nat.reduceBEq, Nat.reduceLT, Nat.reduceLeDiff, Nat.reducePow, Int.reduceToNat, Int.reduceLT, Int.reduceLE, Int.reduceGT, Int.reduceGE, Int.reduceEq, Int.reduceNeg, Int.reduceAdd, Int.reduceSub, ↓reduceIte, reduceCtorEq, r1, r2]
theorem sMulDiv_ok : SpecOk Try.prog 49 sMulDiv := specC_ok mixed G3c_ok T3c_ok fun x hp => ⟨0, 1, eMulDiv x.1 x.2.1 x.2.2 hp.1 hp.2.1 hp.2.2⟩
#print axioms sMulDiv_ok
end Go.Proofs.YtmhjmjodchbhlaaR.Num3Pull
end
