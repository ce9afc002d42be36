/- Arithmetic of 64-bit words: shifts, masks, products, one digit of a long division, roots. Plain numbers alone. -/
import Derived.Test.YtmhjmjodchbhlaaREvR
import Derived.Laws.MathBits
import Derived.Laws.Bits64b
set_option linter.unusedVariables false
set_option linter.unusedSimpArgs false
namespace Go.Ari
open Go.Ev
/-! ### words -/
theorem wu (n : Int) : IntKind.u64.wrap n = n % 18446744073709551616 := by simp [IntKind.wrap, IntKind.bits, IntKind.signed]
theorem wu_in {n : Int} (h0 : 0 ≤ n) (h : n < 18446744073709551616) : IntKind.u64.wrap n = n := by rw [wu]; omega
theorem wi (n : Int) : IntKind.i64.wrap n = (n + 9223372036854775808) % 18446744073709551616 - 9223372036854775808 := IntKind.wrap_i64 n
theorem wi_in {n : Int} (h0 : -9223372036854775808 ≤ n) (h : n < 9223372036854775808) : IntKind.i64.wrap n = n := by rw [wi]; omega
theorem wu_bits (o : BinOp) (x y : Int) : 0 ≤ bitsI o .u64 x y ∧ bitsI o .u64 x y < 18446744073709551616 := by unfold bitsI; split <;> rw [wu] <;> omega
theorem shr_lit (k : IntKind) (x : Int) (n : Nat) (hn : n ≤ k.bits) : shrI k x n = x / ((2 ^ n : Nat) : Int) := by
  unfold shrI
  rw [Int.toNat_natCast, Nat.min_eq_left hn, Int.fdiv_eq_ediv_of_nonneg _ (Int.pow_nonneg (by omega)), Int.natCast_pow]
  rfl
theorem shl_lit (k : IntKind) (x : Int) (n : Nat) (hn : n ≤ k.bits) : shlI k x n = k.wrap (x * ((2 ^ n : Nat) : Int)) := by
  unfold shlI
  rw [Int.toNat_natCast, Nat.min_eq_left hn, Int.natCast_pow]
  rfl
theorem shr32 (x : Int) : shrI .u64 x 32 = x / 4294967296 := shr_lit .u64 x 32 (by decide)
theorem shr1 (x : Int) : shrI .u64 x 1 = x / 2 := shr_lit .u64 x 1 (by decide)
theorem and32 (z : Int) (h0 : 0 ≤ z) (h1 : z < 18446744073709551616) : bitsI .and .u64 z 4294967295 = z % 4294967296 := and_low32 z h0 h1
theorem wraps_u64 (n : Int) (h₀ : 0 ≤ n) (h₁ : n < 2 ^ 64) : IntKind.u64.wrap n = n := wu_in h₀ (by simpa using h₁)
/-- Two parts of a word that do not meet. -/
theorem or_add {x y p : Int} (i : Nat) (hp : p = ((2 ^ i : Nat) : Int)) (hx0 : 0 ≤ x) (hx : x < 18446744073709551616) (hm : x % p = 0) (hy0 : 0 ≤ y) (hy : y < p) (hy1 : y < 18446744073709551616) : bitsI .or .u64 x y = x + y := by
  subst hp
  have e : ((2 ^ i : Nat) : Int) = (2 : Int) ^ i := by rw [Int.natCast_pow]; rfl
  rw [e] at hm hy
  exact bits_join .u64 64 (by decide) wraps_u64 i x y hx0 hm (by simpa using hx) hy0 hy (by simpa using hy1)
theorem not_u64 {x : Int} (h0 : 0 ≤ x) (h1 : x < 18446744073709551616) : bitsI .xor .u64 18446744073709551615 x = 18446744073709551615 - x := by
  have e : bitsI .xor .u64 18446744073709551615 x = IntKind.u64.wrap ((BitVec.ofInt 64 18446744073709551615 ^^^ BitVec.ofInt 64 x).toNat : Nat) := rfl
  have a : BitVec.ofInt 64 18446744073709551615 = BitVec.allOnes 64 := by decide
  rw [e, a, BitVec.allOnes_xor, BitVec.toNat_not, BitVec.toNat_ofInt]
  have b : (x % ((2 ^ 64 : Nat) : Int)).toNat = x.toNat := by
    have : ((2 ^ 64 : Nat) : Int) = 18446744073709551616 := by decide
    rw [this]; omega
  rw [b, wu_in]
  · have : (2 : Nat) ^ 64 = 18446744073709551616 := by decide
    omega
  · omega
  · have : (2 : Nat) ^ 64 = 18446744073709551616 := by decide
    omega
/-- The high word of a product, as the library computes it. -/
theorem mul_hi {x y : Int} (hx0 : 0 ≤ x) (hx : x < 18446744073709551616) (hy0 : 0 ≤ y) (hy : y < 18446744073709551616) :
    IntKind.u64.wrap (IntKind.u64.wrap (IntKind.u64.wrap (shrI .u64 x 32 * shrI .u64 y 32) + shrI .u64 (IntKind.u64.wrap (IntKind.u64.wrap (shrI .u64 x 32 * bitsI .and .u64 y 4294967295) + shrI .u64 (IntKind.u64.wrap (bitsI .and .u64 x 4294967295 * bitsI .and .u64 y 4294967295)) 32)) 32) +
      shrI .u64 (IntKind.u64.wrap (bitsI .and .u64 (IntKind.u64.wrap (IntKind.u64.wrap (shrI .u64 x 32 * bitsI .and .u64 y 4294967295) + shrI .u64 (IntKind.u64.wrap (bitsI .and .u64 x 4294967295 * bitsI .and .u64 y 4294967295)) 32)) 4294967295 + IntKind.u64.wrap (bitsI .and .u64 x 4294967295 * shrI .u64 y 32))) 32) = x * y / 18446744073709551616 := by
  have m := mul64_arith x y hx0 hx hy0 hy
  simp only [shr32, and32 x hx0 hx, and32 y hy0 hy, wu]
  rw [and32 _ (by omega) (by omega)]
  exact m
theorem hi_lt {x y : Int} (hx0 : 0 ≤ x) (hx : x < 18446744073709551616) (hy0 : 0 ≤ y) (hy : y < 18446744073709551616) : 0 ≤ x * y ∧ x * y / 18446744073709551616 < 18446744073709551616 := by
  have h : x * y ≤ 18446744073709551615 * 18446744073709551615 := Int.mul_le_mul (by omega) (by omega) hy0 (by omega)
  have h0 := Int.mul_nonneg hx0 hy0
  omega
/-- Two words compared as one number. -/
theorem words_le {a b : Int} : (a / 18446744073709551616 < b / 18446744073709551616 ∨ (a / 18446744073709551616 = b / 18446744073709551616 ∧ a % 18446744073709551616 ≤ b % 18446744073709551616)) ↔ a ≤ b := by omega
theorem words_eq {a b : Int} : (a / 18446744073709551616 = b / 18446744073709551616 ∧ a % 18446744073709551616 = b % 18446744073709551616) ↔ a = b := by omega
/-! ### roots -/
def IsRoot (r n : Int) : Prop := 0 ≤ r ∧ r * r ≤ n ∧ n < (r + 1) * (r + 1)
theorem sq_le {a b : Int} (h0 : 0 ≤ a) (h : a ≤ b) : a * a ≤ b * b := Int.mul_le_mul h h h0 (by omega)
theorem sq_lt {a b : Int} (h0 : 0 ≤ a) (h : a * a < b * b) (hb : 0 ≤ b) : a < b := by
  refine Int.lt_of_not_ge fun hc => ?_
  have := sq_le hb hc
  omega
theorem root_unique {r s n : Int} (h : IsRoot r n) (h' : IsRoot s n) : r = s := by
  obtain ⟨a1, a2, a3⟩ := h
  obtain ⟨b1, b2, b3⟩ := h'
  have := sq_lt (a := r) (b := s + 1) a1 (by omega) (by omega)
  have := sq_lt (a := s) (b := r + 1) b1 (by omega) (by omega)
  omega
open Classical in
noncomputable def isqrt (n : Int) : Int := if h : ∃ r, IsRoot r n then h.choose else 0
theorem isqrt_eq {r n : Int} (h : IsRoot r n) : isqrt n = r := by
  have hx : ∃ r, IsRoot r n := ⟨r, h⟩
  unfold isqrt
  rw [dif_pos hx]
  exact root_unique hx.choose_spec h
theorem root_ex (n : Nat) : ∃ r, IsRoot r n := by
  induction n with
  | zero => exact ⟨0, by simp [IsRoot]⟩
  | succ n ih =>
    obtain ⟨r, h0, h1, h2⟩ := ih
    by_cases h : ((n + 1 : Nat) : Int) < (r + 1) * (r + 1)
    · exact ⟨r, h0, by omega, h⟩
    · refine ⟨r + 1, by omega, by omega, ?_⟩
      have e : (r + 1 + 1) * (r + 1 + 1) = (r + 1) * (r + 1) + 2 * r + 3 := by
        rw [Int.mul_add, Int.add_mul, Int.mul_one, Int.one_mul]; omega
      omega
theorem isqrt_spec {n : Int} (h : 0 ≤ n) : IsRoot (isqrt n) n := by
  obtain ⟨k, rfl⟩ := Int.eq_ofNat_of_zero_le h
  obtain ⟨r, hr⟩ := root_ex k
  rw [isqrt_eq hr]
  exact hr
/-! ### long division -/
/-- One digit of a long division: an estimate that is too large by two at most is brought down. -/
theorem below_top {U y u1 : Int} (hU : U < y) (hu : u1 < 4294967296) (hU0 : 0 ≤ U) (h0 : 0 ≤ u1) (hy : 0 < y) : 0 ≤ (U * 4294967296 + u1) / y ∧ (U * 4294967296 + u1) / y < 4294967296 := by
  refine ⟨Int.ediv_nonneg (by omega) (by omega), Int.ediv_lt_of_lt_mul hy ?_⟩
  have : (U + 1) * 4294967296 ≤ y * 4294967296 := Int.mul_le_mul_of_nonneg_right (by omega) (by omega)
  have e : y * 4294967296 = 4294967296 * y := Int.mul_comm _ _
  omega
theorem prod_split (q y1 y0 : Int) : q * (y1 * 4294967296 + y0) = q * y1 * 4294967296 + q * y0 := by rw [Int.mul_add, Int.mul_assoc]
/-- The digit is less than an estimate that fails the test. -/
theorem digit_down {U y1 y0 u1 q r : Int} (hr : r = U - q * y1) (hU : U < y1 * 4294967296 + y0) (hu : u1 < 4294967296) (hU0 : 0 ≤ U) (h0 : 0 ≤ u1) (hy : 0 < y1 * 4294967296 + y0)
    (hc : 4294967296 ≤ q ∨ 4294967296 * r + u1 < q * y0) : (U * 4294967296 + u1) / (y1 * 4294967296 + y0) ≤ q - 1 := by
  rcases hc with h | h
  · have := (below_top hU hu hU0 h0 hy).2; omega
  · have : (U * 4294967296 + u1) / (y1 * 4294967296 + y0) < q := by
      refine Int.ediv_lt_of_lt_mul hy ?_
      have e := prod_split q y1 y0
      omega
    omega
/-- An estimate that passes the test is the digit. -/
theorem digit_done {U y1 y0 u1 q r : Int} (hr : r = U - q * y1) (hy : 0 < y1 * 4294967296 + y0) (hq : (U * 4294967296 + u1) / (y1 * 4294967296 + y0) ≤ q)
    (hc : q * y0 ≤ 4294967296 * r + u1) : q = (U * 4294967296 + u1) / (y1 * 4294967296 + y0) := by
  have : q ≤ (U * 4294967296 + u1) / (y1 * 4294967296 + y0) := by
    refine (Int.le_ediv_iff_mul_le hy).2 ?_
    have e := prod_split q y1 y0
    omega
  omega
theorem small_prod {q y0 : Int} (hq : q ≤ 4294967296) (h0 : 0 ≤ q) (hy : y0 < 4294967296) (hy0 : 0 ≤ y0) : q * y0 ≤ 4294967296 * 4294967295 := 
  Int.mul_le_mul hq (by omega) hy0 (by omega)
theorem digit_break {U y1 y0 u1 q r : Int} (hr : r = U - q * y1) (hy : 0 < y1 * 4294967296 + y0) (hq : (U * 4294967296 + u1) / (y1 * 4294967296 + y0) ≤ q)
    (h4 : 4294967296 ≤ r) (hq1 : q ≤ 4294967296) (hq0 : 0 ≤ q) (hy0 : y0 < 4294967296) (hy00 : 0 ≤ y0) (h0 : 0 ≤ u1) : q = (U * 4294967296 + u1) / (y1 * 4294967296 + y0) := by
  have := small_prod hq1 hq0 hy0 hy00
  exact digit_done hr hy hq (by omega)
/-- The first estimate. -/
theorem digit_first {U y1 y0 u1 : Int} (hU : U < y1 * 4294967296 + y0) (hU0 : 0 ≤ U) (hy1 : 2147483648 ≤ y1) (hy0 : y0 < 4294967296) (h00 : 0 ≤ y0) (hu : u1 < 4294967296) (h0 : 0 ≤ u1) :
    (U * 4294967296 + u1) / (y1 * 4294967296 + y0) ≤ U / y1 ∧ U / y1 ≤ 4294967297 ∧ 0 ≤ U / y1 ∧ 0 ≤ U - U / y1 * y1 ∧ U - U / y1 * y1 < y1 := by
  have e1 := Int.mul_ediv_add_emod U y1
  have e2 := Int.emod_nonneg U (show y1 ≠ 0 by omega)
  have e3 := Int.emod_lt_of_pos U (show 0 < y1 by omega)
  have e4 : y1 * (U / y1) = U / y1 * y1 := Int.mul_comm _ _
  refine ⟨?_, ?_, Int.ediv_nonneg hU0 (by omega), by omega, by omega⟩
  · rw [Int.le_ediv_iff_mul_le (show 0 < y1 by omega)]
    have e5 := Int.ediv_mul_le (U * 4294967296 + u1) (show y1 * 4294967296 + y0 ≠ 0 by omega)
    have e6 := prod_split ((U * 4294967296 + u1) / (y1 * 4294967296 + y0)) y1 y0
    have e7 : 0 ≤ (U * 4294967296 + u1) / (y1 * 4294967296 + y0) * y0 := Int.mul_nonneg (below_top hU hu hU0 h0 (by omega)).1 h00
    omega
  · have : U / y1 < 4294967298 := Int.ediv_lt_of_lt_mul (by omega) (by omega)
    omega
/-- What two digits of a quotient are. -/
theorem two_digits {U u1 u0 y : Int} (hy : 0 < y) (hu : u0 < 4294967296) (h0 : 0 ≤ u0) :
    let q1 := (U * 4294967296 + u1) / y
    let r1 := U * 4294967296 + u1 - q1 * y
    let q0 := (r1 * 4294967296 + u0) / y
    q1 * 4294967296 + q0 = (U * 18446744073709551616 + u1 * 4294967296 + u0) / y ∧ r1 * 4294967296 + u0 - q0 * y = (U * 18446744073709551616 + u1 * 4294967296 + u0) % y ∧ 0 ≤ r1 ∧ r1 < y := by
  intro q1 r1 q0
  have a1 := Int.mul_ediv_add_emod (U * 4294967296 + u1) y
  have a2 := Int.emod_nonneg (U * 4294967296 + u1) (show y ≠ 0 by omega)
  have a3 := Int.emod_lt_of_pos (U * 4294967296 + u1) hy
  have b1 := Int.mul_ediv_add_emod (r1 * 4294967296 + u0) y
  have b2 := Int.emod_nonneg (r1 * 4294967296 + u0) (show y ≠ 0 by omega)
  have b3 := Int.emod_lt_of_pos (r1 * 4294967296 + u0) hy
  have c1 : y * ((U * 4294967296 + u1) / y) = q1 * y := Int.mul_comm _ _
  have c2 : y * ((r1 * 4294967296 + u0) / y) = q0 * y := Int.mul_comm _ _
  have c3 : (q1 * 4294967296 + q0) * y = q1 * y * 4294967296 + q0 * y := by rw [Int.add_mul, Int.mul_right_comm]
  have hd : U * 18446744073709551616 + u1 * 4294967296 + u0 = (r1 * 4294967296 + u0 - q0 * y) + (q1 * 4294967296 + q0) * y := by
    simp only [r1] at *
    omega
  have hlo : 0 ≤ r1 * 4294967296 + u0 - q0 * y := by omega
  have hhi : r1 * 4294967296 + u0 - q0 * y < y := by omega
  refine ⟨?_, ?_, by omega, by omega⟩
  · rw [hd, Int.add_mul_ediv_right _ _ (by omega), Int.ediv_eq_zero_of_lt hlo hhi]; omega
  · rw [hd, Int.add_mul_emod_self_right, Int.emod_eq_of_lt hlo hhi]
/-- Both numbers multiplied: the quotient stays, the remainder is multiplied. -/
theorem scale_div (n y s : Int) (hs : 0 < s) : (n * s) / (y * s) = n / y ∧ (n * s) % (y * s) = n % y * s := by
  refine ⟨Int.mul_ediv_mul_of_pos_left _ _ hs, ?_⟩
  rw [Int.mul_comm n s, Int.mul_comm y s, Int.mul_emod_mul_of_pos _ _ hs, Int.mul_comm]
end Go.Ari
