/- The root by bits (the program's) and the root by halves (the reference's), as printed for the law: both are the root, rounded down. Conditions: numbers that are not negative. -/
import Derived.Test.YtjplkbeolakbjaaPQuantaMeansx
import Derived.Test.YtjplkbeolakbjaaMulQuantaMeans
set_option linter.unusedVariables false
set_option linter.unusedSimpArgs false
namespace Go.Proofs.Ytjplkbeolakbjaa.Pure
open Go.RowKit Go.Proofs.Ytjplkbeolakbjaa.PQuantaMeans Go.Proofs.YtjplkbeolakbjaaW.PrintWords Go.Proofs.YtjplkbeolakbjaaW.PrintLast Go.Proofs.YtjplkbeolakbjaaW.PrintMore

/-- r is the root of n, rounded down. -/
def IsRoot (r n : Int) : Prop := 0 ≤ r ∧ r * r ≤ n ∧ n < (r + 1) * (r + 1)
theorem sq_mono {a b : Int} (h0 : 0 ≤ a) (h : a ≤ b) : a * a ≤ b * b := Int.mul_le_mul h h h0 (by omega)
theorem IsRoot.uniq {r s n : Int} (h : IsRoot r n) (k : IsRoot s n) : r = s := by
  obtain ⟨a, b, c⟩ := h
  obtain ⟨d, e, f⟩ := k
  rcases Int.lt_trichotomy r s with h | h | h
  · have := sq_mono (show 0 ≤ r + 1 by omega) (show r + 1 ≤ s by omega); omega
  · exact h
  · have := sq_mono (show 0 ≤ s + 1 by omega) (show s + 1 ≤ r by omega); omega
theorem IsRoot.lt {r n m : Int} (h : IsRoot r n) (hm : 0 ≤ m) (hn : n < m * m) : r < m := by
  obtain ⟨a, b, c⟩ := h
  rcases Int.lt_or_le r m with h | h
  · exact h
  · have := sq_mono hm h; omega

theorem sqrt_step (k : Nat) (hi lo r D : Int) (hor : Go.bits .or .u64 r D = r + D) (hD : 0 < D) (hr : 0 ≤ r) (hb : r + D < 18446744073709551616) (hl0 : 0 ≤ lo) (hl : lo < 18446744073709551616) :
    num_SqrtMul.l0 (k + 1) hi lo r D = if (r + D) * (r + D) ≤ hi * 18446744073709551616 + lo then num_SqrtMul.l0 k hi lo (r + D) (D / 2) else num_SqrtMul.l0 k hi lo r (D / 2) := by
  simp only [num_SqrtMul.l0]
  rw [if_pos hD, hor, mul64 _ _ (by omega) hb (by omega) hb]
  simp only [ob]
  generalize (r + D) * (r + D) = M
  by_cases h : M ≤ hi * 18446744073709551616 + lo
  · rw [if_pos h]
    by_cases h1 : M / 18446744073709551616 < hi
    · rw [if_pos h1]
    · rw [if_neg h1, if_pos (by omega), if_pos (by omega)]
  · rw [if_neg h, if_neg (by omega)]
    by_cases h1 : M / 18446744073709551616 = hi
    · rw [if_pos h1, if_neg (by omega)]
    · rw [if_neg h1]

theorem sqrt_end (k : Nat) (hi lo r : Int) : num_SqrtMul.l0 (k + 1) hi lo r 0 = some (wrap64 r) := by
  simp only [num_SqrtMul.l0]
  rw [if_neg (by decide)]

theorem pow_pos' (j : Nat) : 0 < (2 : Int) ^ j := Int.pow_pos (by decide)
theorem or_bit (j : Nat) (hj : j ≤ 62) (c : Int) (hc : 0 ≤ c) (hb : 2 * 2 ^ j * c + 2 * 2 ^ j ≤ 9223372036854775808) : Go.bits .or .u64 (2 * 2 ^ j * c) (2 ^ j) = 2 * 2 ^ j * c + 2 ^ j := by
  have hp := pow_pos' j
  have h2 : (2 : Int) ^ (j + 1) = 2 * 2 ^ j := by rw [Int.pow_succ]; omega
  have hn : 0 ≤ 2 * 2 ^ j * c := Int.mul_nonneg (by omega) hc
  refine bits_join .u64 64 (by decide) (fun n h0 h1 => by rw [wu]; omega) (j + 1) _ _ hn ?_ ?_ (by omega) (by rw [h2]; omega) ?_
  · rw [h2]; exact Int.mul_emod_right _ _
  · simp; omega
  · simp; omega

theorem sqrt_loop (hi lo : Int) (hl0 : 0 ≤ lo) (hl : lo < 18446744073709551616) (j : Nat) : ∀ (k : Nat) (c : Int), j ≤ 62 → j + 2 ≤ k → 0 ≤ c → 2 * 2 ^ j * c + 2 * 2 ^ j ≤ 9223372036854775808 →
    (2 * 2 ^ j * c) * (2 * 2 ^ j * c) ≤ hi * 18446744073709551616 + lo → hi * 18446744073709551616 + lo < (2 * 2 ^ j * c + 2 * 2 ^ j) * (2 * 2 ^ j * c + 2 * 2 ^ j) →
    ∃ r, num_SqrtMul.l0 k hi lo (2 * 2 ^ j * c) (2 ^ j) = some r ∧ IsRoot r (hi * 18446744073709551616 + lo) := by
  induction j with
  | zero =>
    intro k c hj hk hc hb h1 h2
    obtain ⟨k, rfl⟩ : ∃ m, k = m + 1 + 1 := ⟨k - 2, by omega⟩
    rw [sqrt_step (k + 1) hi lo _ _ (or_bit 0 hj c hc hb) (pow_pos' 0) (Int.mul_nonneg (by decide) hc) (by simp at hb ⊢; omega) hl0 hl]
    simp only [Int.pow_zero, Int.mul_one] at hb h1 h2 ⊢
    rw [show (1 : Int) / 2 = 0 from rfl, sqrt_end, sqrt_end, w64_id (by omega) (by omega), w64_id (by omega) (by omega)]
    split
    · exact ⟨_, rfl, by omega, by assumption, by rw [show 2 * c + 1 + 1 = 2 * c + 2 by omega]; exact h2⟩
    · exact ⟨_, rfl, by omega, h1, by omega⟩
  | succ j ih =>
    intro k c hj hk hc hb h1 h2
    obtain ⟨k, rfl⟩ : ∃ m, k = m + 1 := ⟨k - 1, by omega⟩
    have hp := pow_pos' j
    have e2 : (2 : Int) ^ (j + 1) = 2 * 2 ^ j := by rw [Int.pow_succ]; omega
    rw [sqrt_step k hi lo _ _ (or_bit (j + 1) hj c hc hb) (pow_pos' _) (Int.mul_nonneg (by omega) hc) (by omega) hl0 hl]
    rw [e2] at hb h1 h2 ⊢
    generalize hD : (2 : Int) ^ j = D at *
    rw [show 2 * D / 2 = D by omega]
    have a1 : 2 * (2 * D) * c + 2 * D = 2 * D * (2 * c + 1) := by grind
    have a2 : 2 * (2 * D) * c = 2 * D * (2 * c) := by grind
    have a3 : 2 * (2 * D) * c + 2 * (2 * D) = 2 * D * (2 * c + 1) + 2 * D := by grind
    have a4 : 2 * D * (2 * c) + 2 * D = 2 * D * (2 * c + 1) := by grind
    rw [a3] at hb h2
    rw [a1]
    split
    · rename_i hm
      exact ih k (2 * c + 1) (by omega) (by omega) (by omega) hb hm h2
    · rename_i hm
      rw [a2] at h1 ⊢
      exact ih k (2 * c) (by omega) (by omega) (by omega) (by rw [a4]; omega) h1 (by rw [a4]; omega)

theorem p62 : (2 : Int) ^ 62 = 4611686018427387904 := by omega
theorem p63 : (2 : Int) ^ 63 = 9223372036854775808 := by omega
theorem sqrt_top (k : Nat) (hk : 64 ≤ k) (hi lo : Int) (hl0 : 0 ≤ lo) (hl : lo < 18446744073709551616) (h0 : 0 ≤ hi * 18446744073709551616 + lo) (h1 : hi * 18446744073709551616 + lo < 9223372036854775808 * 9223372036854775808) :
    ∃ r, num_SqrtMul.l0 k hi lo 0 4611686018427387904 = some r ∧ IsRoot r (hi * 18446744073709551616 + lo) := by
  have key := sqrt_loop hi lo hl0 hl 62 k 0 (by decide) hk (by decide)
  rw [p62] at key
  exact key (by decide) h0 h1
theorem prod_split (a b : Int) : a * b / 18446744073709551616 * 18446744073709551616 + a * b % 18446744073709551616 = a * b := by omega
theorem prod_lt {a b : Int} (ha0 : 0 ≤ a) (ha : a ≤ 9223372036854775807) (hb0 : 0 ≤ b) (hb : b ≤ 9223372036854775807) : 0 ≤ a * b ∧ a * b < 9223372036854775808 * 9223372036854775808 :=
  ⟨Int.mul_nonneg ha0 hb0, Int.lt_of_le_of_lt (mul_bd ha0 ha hb0 hb).2 (by decide)⟩
theorem sqrtmul_at (k : Nat) (hk : 70 ≤ k) (a b : Int) (ha0 : 0 ≤ a) (ha : a ≤ 9223372036854775807) (hb0 : 0 ≤ b) (hb : b ≤ 9223372036854775807) : ∃ r, num_SqrtMul.f k a b = some r ∧ IsRoot r (a * b) := by
  obtain ⟨k, rfl⟩ : ∃ m, k = m + 1 := ⟨k - 1, by omega⟩
  unfold num_SqrtMul.f
  rw [if_neg (by omega), decide_eq_false (by omega)]
  simp only [num_SqrtMul.j0]
  rw [if_neg (by decide), wu_id ha0 (by omega), wu_id hb0 (by omega), mul64 a b ha0 (by omega) hb0 (by omega)]
  simp only [ob]
  have key := sqrt_top k (by omega) (a * b / 18446744073709551616) (a * b % 18446744073709551616) (by omega) (by omega)
  rw [prod_split] at key
  exact key (prod_lt ha0 ha hb0 hb).1 (prod_lt ha0 ha hb0 hb).2

theorem root_loop (hi lo : Int) (hl0 : 0 ≤ lo) (hl : lo < 18446744073709551616) (d : Nat) : ∀ (k : Nat) (low high : Int), d + 1 ≤ k → 0 ≤ low → low < high → high ≤ 9223372036854775808 → high - low ≤ 2 ^ d →
    low * low ≤ hi * 18446744073709551616 + lo → hi * 18446744073709551616 + lo < high * high → ∃ r, spyref3_Root.l0 k hi lo low high = some r ∧ IsRoot r (hi * 18446744073709551616 + lo) := by
  have fin : ∀ (k : Nat) (low high : Int), 1 ≤ k → 0 ≤ low → low < high → high ≤ 9223372036854775808 → high - low ≤ 1 →
    low * low ≤ hi * 18446744073709551616 + lo → hi * 18446744073709551616 + lo < high * high → ∃ r, spyref3_Root.l0 k hi lo low high = some r ∧ IsRoot r (hi * 18446744073709551616 + lo) := by
    intro k low high hk h0 h1 h2 h3 h4 h5
    obtain ⟨k, rfl⟩ : ∃ m, k = m + 1 := ⟨k - 1, by omega⟩
    obtain rfl : high = low + 1 := by omega
    simp only [spyref3_Root.l0]
    rw [if_neg (by rw [wu]; omega), w64_id (by omega) (by omega)]
    exact ⟨_, rfl, h0, h4, h5⟩
  induction d with
  | zero =>
    intro k low high hk h0 h1 h2 h3 h4 h5
    exact fin k low high (by omega) h0 h1 h2 (by simpa using h3) h4 h5
  | succ d ih =>
    intro k low high hk h0 h1 h2 h3 h4 h5
    by_cases hg : high - low ≤ 1
    · exact fin k low high (by omega) h0 h1 h2 hg h4 h5
    · obtain ⟨k, rfl⟩ : ∃ m, k = m + 1 := ⟨k - 1, by omega⟩
      have e2 : (2 : Int) ^ (d + 1) = 2 * 2 ^ d := by rw [Int.pow_succ]; omega
      rw [e2] at h3
      have em : IntKind.u64.wrap (low + IntKind.u64.wrap (Int.tdiv (IntKind.u64.wrap (high - low)) 2)) = low + (high - low) / 2 := by
        rw [wu_id (n := high - low) (by omega) (by omega), Int.tdiv_eq_ediv_of_nonneg (by omega), wu_id (n := (high - low) / 2) (by omega) (by omega), wu_id (by omega) (by omega)]
      simp only [spyref3_Root.l0]
      rw [if_pos (by rw [wu]; omega), em]
      generalize hm : low + (high - low) / 2 = m
      rw [mul64 m m (by omega) (by omega) (by omega) (by omega)]
      simp only [ob]
      by_cases h : m * m ≤ hi * 18446744073709551616 + lo
      · have r := ih k m high (by omega) (by omega) (by omega) h2 (by omega) h h5
        generalize m * m = M at h ⊢
        by_cases c1 : M / 18446744073709551616 < hi
        · rw [if_pos c1]; exact r
        · rw [if_neg c1, if_pos (by omega), if_pos (by omega)]; exact r
      · have r := ih k low m (by omega) (by omega) (by omega) (by omega) (by omega) h4 (by omega)
        generalize m * m = M at h ⊢
        rw [if_neg (by omega)]
        by_cases c1 : M / 18446744073709551616 = hi
        · rw [if_pos c1, if_neg (by omega)]; exact r
        · rw [if_neg c1]; exact r

theorem refroot (k : Nat) (hk : 70 ≤ k) (a b : Int) (ha0 : 0 ≤ a) (ha : a ≤ 9223372036854775807) (hb0 : 0 ≤ b) (hb : b ≤ 9223372036854775807) : ∃ r, spyref3_Root.f k a b = some r ∧ IsRoot r (a * b) := by
  unfold spyref3_Root.f
  rw [wu_id ha0 (by omega), wu_id hb0 (by omega), mul64 a b ha0 (by omega) hb0 (by omega)]
  simp only [ob]
  have key := root_loop (a * b / 18446744073709551616) (a * b % 18446744073709551616) (by omega) (by omega) 63 k 0 9223372036854775808 (by omega) (by decide) (by decide) (by decide)
  rw [p63, prod_split] at key
  exact key (by decide) (prod_lt ha0 ha hb0 hb).1 (prod_lt ha0 ha hb0 hb).2
end Go.Proofs.Ytjplkbeolakbjaa.Pure
