/- Parts of one proof, joined: PlMeans, E4, E18, E19, E72, E160, E208, E206, E213, E207, G207, E249, G249, G213, G206, E209, G209, E210, E79, E168, G168, G79, G210, E211, G211, E246. -/
import Derived.Test.YtnojehmbiceceaaMCalibLights9
import Derived.Test.YtnojehmbiceceaaProg
section
set_option linter.unusedVariables false
set_option linter.unusedSimpArgs false
namespace Go.Proofs.Ytnojehmbiceceaa.PlMeans
open Go.Ev Go.IntKind Go.Pl Go.Ari Go.Proofs.Ytnojehmbiceceaa.P Go.Proofs.Ytnojehmbiceceaa.PlBndAQuanta Go.Proofs.Ytnojehmbiceceaa.Num4Num
theorem sq_mono {a b : Int} (h0 : 0 ≤ a) (h : a ≤ b) : a * a ≤ b * b := Int.mul_le_mul h h h0 (by omega)
theorem mul_bd {a b A B : Int} (h0 : 0 ≤ a) (h1 : a ≤ A) (h2 : 0 ≤ b) (h3 : b ≤ B) : 0 ≤ a * b ∧ a * b ≤ A * B := ⟨Int.mul_nonneg h0 h2, Int.mul_le_mul h1 h3 h2 (by omega)⟩
theorem rt {n : Int} (h : 0 ≤ n) : IsRoot (isqrt n) n := isqrt_spec h
theorem rt_lt {r n m : Int} (h : IsRoot r n) (hm : 0 ≤ m) (hn : n < m * m) : r < m := by
  obtain ⟨a, b, c⟩ := h
  rcases Int.lt_or_le r m with hlt | hle
  · exact hlt
  · have := sq_mono hm hle; omega
theorem rt_mono {r s a b : Int} (h : IsRoot r a) (k : IsRoot s b) (hab : a ≤ b) : r ≤ s := by
  rcases Int.lt_or_le s r with hlt | hle
  · have := sq_mono (show 0 ≤ s + 1 by have := k.1; omega) (show s + 1 ≤ r by omega)
    have := h.2.1; have := k.2.2; omega
  · exact hle
theorem root_eq (L : Nat) (a : Int) (h0 : 0 ≤ a) (h1 : a < 9223372036854775808) : p_quanta_root L a = some (isqrt a) := by
  unfold p_quanta_root p_num_Sqrt p_num_SqrtMul iB
  rw [decide_eq_true (by omega), decide_eq_true (by omega), decide_eq_true (by decide), decide_eq_true (by decide)]
  simp only [Bool.and_self, cb_t, bnd_s]
  unfold rootR
  rw [if_neg (by omega), if_neg (by decide), Int.mul_one]
theorem ref_eq (L : Nat) (a : Int) (h0 : 0 ≤ a) (h1 : a < 9223372036854775808) : p_spyref3_Root L a 1 = some (isqrt a) := by
  unfold p_spyref3_Root p2B
  rw [decide_eq_true (by omega), decide_eq_true (by omega), decide_eq_true (by decide), decide_eq_true (by decide)]
  simp only [Bool.and_self, cb_t, Int.mul_one]
/-- Nothing below l reaches q, and l does. -/
def IsLeast (q l : Int) : Prop := 0 ≤ l ∧ (∀ w, 0 ≤ w → w < l → w + 1 + 3 * isqrt w < q) ∧ q ≤ l + 1 + 3 * isqrt l
theorem least_uniq {q a b : Int} (ha : IsLeast q a) (hb : IsLeast q b) : a = b := by
  rcases Int.lt_trichotomy a b with h | h | h
  · have := hb.2.1 a ha.1 h; have := ha.2.2; omega
  · exact h
  · have := ha.2.1 b hb.1 h; have := hb.2.2; omega
theorem least_loop (L : Nat) (q : Int) (d : Nat) : ∀ (k : Nat) (low high : Int), d + 1 ≤ k → 0 ≤ low → low ≤ high → high ≤ 34359738368 → high - low ≤ 2 ^ d - 1 →
    (∀ w, 0 ≤ w → w < low → w + 1 + 3 * isqrt w < q) → q ≤ high + 1 + 3 * isqrt high → ∃ l, p_quanta_least_l0 L q k low high = some l ∧ IsLeast q l ∧ l ≤ high := by
  induction d with
  | zero =>
    intro k low high hk h0 h1 h2 h3 i1 i2
    obtain ⟨k, rfl⟩ : ∃ m, k = m + 1 := ⟨k - 1, by omega⟩
    obtain rfl : high = low := by simp at h3; omega
    rw [p_quanta_least_l0, if_neg (by omega)]
    exact ⟨_, rfl, ⟨h0, i1, i2⟩, by omega⟩
  | succ d ih =>
    intro k low high hk h0 h1 h2 h3 i1 i2
    obtain ⟨k, rfl⟩ : ∃ m, k = m + 1 := ⟨k - 1, by omega⟩
    rw [p_quanta_least_l0]
    by_cases hlt : low < high
    · have e2 : (2 : Int) ^ (d + 1) = 2 * 2 ^ d := by rw [Int.pow_succ]; omega
      rw [e2] at h3
      rw [if_pos hlt, show i64.wrap (Int.tdiv (i64.wrap (low + high)) 2) = (low + high) / 2 by rw [w64 (x := low + high) (by omega), Int.tdiv_eq_ediv_of_nonneg (by omega), w64 (by omega)]]
      generalize hm : (low + high) / 2 = m
      have hR := rt (n := m) (by omega)
      have hr0 := hR.1
      have hrb : isqrt m < 262144 := rt_lt hR (by omega) (by omega)
      rw [root_eq L m (by omega) (by omega), bnd_s]
      rw [w64 (x := m + 1) (by omega), w64 (x := 3 * isqrt m) (by omega), w64 (x := m + 1 + 3 * isqrt m) (by omega)]
      by_cases hc : m + 1 + 3 * isqrt m ≥ q
      · rw [if_pos hc]
        obtain ⟨l, e, hl, hle⟩ := ih k low m (by omega) h0 (by omega) (by omega) (by omega) i1 (by omega)
        exact ⟨l, e, hl, by omega⟩
      · rw [if_neg hc]
        exact ih k (m + 1) high (by omega) (by omega) (by omega) h2 (by omega) (fun w hw0 hw => by have := rt_mono (rt hw0) hR (by omega); omega) i2
    · obtain rfl : high = low := by omega
      rw [if_neg hlt]
      exact ⟨_, rfl, ⟨h0, i1, i2⟩, by omega⟩
theorem least_some (L : Nat) (hL : 300000 < L) (q : Int) (h1 : q ≤ 34359738368) : ∃ l, p_quanta_least L q = some l ∧ IsLeast q l ∧ l ≤ 34359738368 := by
  unfold p_quanta_least
  rw [max_v]
  have hr := (rt (n := max 0 q) (by omega)).1
  obtain ⟨l, e, hl, hle⟩ := least_loop L q 36 L 0 (max 0 q) (by omega) (by omega) (by omega) (by omega) (by omega) (fun w h0 h1 => by omega) (by omega)
  exact ⟨l, by rw [e, bnd_s], hl, by omega⟩
theorem meant_loop (L : Nat) (q s : Int) (hs : IsRoot s q) (hq : q ≤ 34359738368) (d : Nat) : ∀ (k : Nat) (r : Int), d + 1 ≤ k → 0 ≤ r → r ≤ s → s - r = d → (∀ w, 0 ≤ w → w < r * r → w + 1 + 3 * isqrt w < q) →
    ∃ l, p_spyref3_Meant_l0 L q k r = some l ∧ IsLeast q l ∧ l ≤ 34359738368 := by
  have hsb : s < 262144 := rt_lt hs (by omega) (by omega)
  have stop : ∀ (k : Nat) (r : Int), 1 ≤ k → 0 ≤ r → r ≤ s → (∀ w, 0 ≤ w → w < r * r → w + 1 + 3 * isqrt w < q) → q - 1 - 3 * r ≤ r * r + 2 * r →
    ∃ l, p_spyref3_Meant_l0 L q k r = some l ∧ IsLeast q l ∧ l ≤ 34359738368 := by
    intro k r hk h0 h1 i1 hc
    obtain ⟨k, rfl⟩ : ∃ m, k = m + 1 := ⟨k - 1, by omega⟩
    have hb := mul_bd h0 (show r ≤ 262143 by omega) h0 (show r ≤ 262143 by omega)
    have hrs := sq_mono h0 h1
    have hs1 := hs.2.1
    have hexp : (r + 1) * (r + 1) = r * r + 2 * r + 1 := by grind
    rw [p_spyref3_Meant_l0]
    generalize hM : r * r = M at *
    have hq0 : 0 ≤ s * s := Int.mul_nonneg hs.1 hs.1
    rw [w64 (x := M) (by omega), w64 (x := 2 * r) (by omega), w64 (x := M + 2 * r) (by omega), w64 (x := q - 1) (by omega), w64 (x := 3 * r) (by omega), w64 (x := q - 1 - 3 * r) (by omega), max_v, if_pos (by omega)]
    refine ⟨_, rfl, ?_, by omega⟩
    by_cases hlt : M < q - 1 - 3 * r
    · rw [Int.max_eq_right (by omega)]
      have hroot : IsRoot r (q - 1 - 3 * r) := ⟨h0, by omega, by omega⟩
      refine ⟨by omega, fun w hw0 hw => ?_, by rw [isqrt_eq hroot]; omega⟩
      by_cases hw1 : w < M
      · exact i1 w hw0 hw1
      · rw [isqrt_eq (show IsRoot r w from ⟨h0, by omega, by omega⟩)]; omega
    · rw [Int.max_eq_left (by omega)]
      have hroot : IsRoot r M := ⟨h0, by omega, by omega⟩
      exact ⟨by omega, fun w hw0 hw => i1 w hw0 hw, by rw [isqrt_eq hroot]; omega⟩
  induction d with
  | zero =>
    intro k r hk h0 h1 h2 i1
    obtain rfl : r = s := by omega
    have hexp : (r + 1) * (r + 1) = r * r + 2 * r + 1 := by grind
    have := hs.2.2
    exact stop k r (by omega) h0 h1 i1 (by omega)
  | succ d ih =>
    intro k r hk h0 h1 h2 i1
    by_cases hc : q - 1 - 3 * r ≤ r * r + 2 * r
    · exact stop k r (by omega) h0 h1 i1 hc
    · obtain ⟨k, rfl⟩ : ∃ m, k = m + 1 := ⟨k - 1, by omega⟩
      have hb := mul_bd h0 (show r ≤ 262143 by omega) h0 (show r ≤ 262143 by omega)
      have hexp : (r + 1) * (r + 1) = r * r + 2 * r + 1 := by grind
      have step : p_spyref3_Meant_l0 L q (k + 1) r = p_spyref3_Meant_l0 L q k (r + 1) := by
        rw [p_spyref3_Meant_l0]
        generalize hM : r * r = M at *
        rw [w64 (x := M) (by omega), w64 (x := 2 * r) (by omega), w64 (x := M + 2 * r) (by omega), w64 (x := q - 1) (by omega), w64 (x := 3 * r) (by omega), w64 (x := q - 1 - 3 * r) (by omega), w64 (x := r + 1) (by omega), max_v, if_neg (by omega)]
      rw [step]
      exact ih k (r + 1) (by omega) (by omega) (by omega) (by omega) (fun w hw0 hw => by
        by_cases hw1 : w < r * r
        · exact i1 w hw0 hw1
        · rw [isqrt_eq (show IsRoot r w from ⟨h0, by omega, by omega⟩)]; omega)
theorem ref_least (L : Nat) (hL : 300000 < L) (q : Int) (h1 : 1 < q) (h2 : q ≤ 34359738368) : ∃ l, p_spyref3_Meant_l0 L q L (maxI 0 (i64.wrap (isqrt q - 5))) = some l ∧ IsLeast q l ∧ l ≤ 34359738368 := by
  have hR := rt (n := q) (by omega)
  generalize isqrt q = t at hR
  have ht0 := hR.1
  have htb : t < 262144 := rt_lt hR (by omega) (by omega)
  rw [w64 (x := t - 5) (by omega), max_v]
  refine meant_loop L q t hR h2 (t - max 0 (t - 5)).toNat L (max 0 (t - 5)) (by omega) (by omega) (by omega) (by omega) ?_
  intro w hw0 hw
  by_cases ct : 0 < t - 5
  · rw [Int.max_eq_right (by omega)] at hw
    have hr1 : isqrt w < t - 5 := rt_lt (rt hw0) (by omega) hw
    have e : (t - 5) * (t - 5) = t * t - 10 * t + 25 := by grind
    have := hR.2.1
    omega
  · rw [Int.max_eq_left (by omega)] at hw; omega
noncomputable def rr (q : Int) : Int := (3 + isqrt (9 + 4 * q)) / 2
noncomputable def mo (q : Int) : Int := min (rr q * rr q + 2 * rr q) (q + 3 * rr q)
theorem rr_bd (q : Int) (h0 : 0 ≤ q) (h1 : q ≤ 34359738368) : 3 ≤ rr q ∧ rr q ≤ isqrt q + 4 ∧ isqrt q < 262144 ∧ 0 ≤ isqrt q ∧ isqrt q ≤ rr q ∧ rr q * rr q ≤ q + 3 * rr q ∧ (∀ x, rr q < x → q + 3 * x < x * x) := by
  have hs := rt h0
  have hR := rt (n := 9 + 4 * q) (by omega)
  unfold rr
  generalize isqrt q = s at *
  generalize isqrt (9 + 4 * q) = R at *
  have hsb : s < 262144 := rt_lt hs (by omega) (by omega)
  have hs0 := hs.1
  have hR0 := hR.1
  have hR3 : 3 ≤ R := by
    rcases Int.lt_or_le R 3 with h | h
    · have := sq_mono (show 0 ≤ R + 1 by omega) (show R + 1 ≤ 3 by omega); have := hR.2.2; omega
    · exact h
  have hup : R < 2 * s + 5 := rt_lt hR (by omega) (by
    have := hs.2.2
    have e1 : (s + 1) * (s + 1) = s * s + 2 * s + 1 := by grind
    have e2 : (2 * s + 5) * (2 * s + 5) = 4 * (s * s) + 20 * s + 25 := by grind
    omega)
  have hdown : 2 * s ≤ R := by
    rcases Int.lt_or_le R (2 * s) with h | h
    · have a := sq_mono (show 0 ≤ R + 1 by omega) (show R + 1 ≤ 2 * s by omega)
      have e2 : (2 * s) * (2 * s) = 4 * (s * s) := by grind
      have := hR.2.2; have := hs.2.1; omega
    · exact h
  obtain ⟨r, hr⟩ : ∃ r, (3 + R) / 2 = r := ⟨_, rfl⟩
  rw [hr]
  refine ⟨by omega, by omega, hsb, hs0, by omega, ?_, ?_⟩
  · have a := sq_mono (show 0 ≤ 2 * r - 3 by omega) (show 2 * r - 3 ≤ R by omega)
    have e : (2 * r - 3) * (2 * r - 3) = 4 * (r * r) - 12 * r + 9 := by grind
    have := hR.2.1; omega
  · intro x hx
    have a := sq_mono (show 0 ≤ R + 1 by omega) (show R + 1 ≤ 2 * x - 3 by omega)
    have e : (2 * x - 3) * (2 * x - 3) = 4 * (x * x) - 12 * x + 9 := by grind
    have := hR.2.2; omega
theorem mo_bd (q : Int) (h0 : 0 ≤ q) (h1 : q ≤ 34359738368) : 0 ≤ mo q ∧ mo q ≤ 34360738368 := by
  obtain ⟨b1, b2, b3, b4, b5, b6, b7⟩ := rr_bd q h0 h1
  have := Int.mul_nonneg (show 0 ≤ rr q by omega) (show 0 ≤ rr q by omega)
  unfold mo
  generalize rr q * rr q = M at *
  omega
theorem most_eq (L : Nat) (q : Int) (h0 : 0 ≤ q) (h1 : q ≤ 34359738368) : p_quanta_most L q = some (mo q + 1) := by
  have hm := mo_bd q h0 h1
  have hr := rr_bd q h0 h1
  have hr3 : isqrt (9 + 4 * q) < 524288 := rt_lt (rt (by omega)) (by omega) (by omega)
  have hr0 := (rt (n := 9 + 4 * q) (by omega)).1
  unfold p_quanta_most
  rw [w64 (x := 4 * q) (by omega), w64 (x := 9 + 4 * q) (by omega), root_eq L _ (by omega) (by omega), bnd_s]
  rw [w64 (x := 3 + isqrt (9 + 4 * q)) (by omega), Int.tdiv_eq_ediv_of_nonneg (by omega), show (3 + isqrt (9 + 4 * q)) / 2 = rr q from rfl, w64 (x := rr q) (by omega)]
  have hb := mul_bd (show 0 ≤ rr q by omega) (show rr q ≤ 300000 by omega) (show 0 ≤ rr q by omega) (show rr q ≤ 300000 by omega)
  unfold mo at hm ⊢
  generalize rr q * rr q = M at *
  rw [w64 (x := M) (by omega), w64 (x := 2 * rr q) (by omega), w64 (x := M + 2 * rr q) (by omega), w64 (x := 3 * rr q) (by omega), w64 (x := q + 3 * rr q) (by omega), min_v, w64 (by omega)]
theorem l2_eq (L : Nat) (q : Int) : ∀ (n : Nat) (x : Int), p_spyref3_Meant_l2 L q n x = p_spyref3_Meant_l1 L q n x := by
  intro n
  induction n with
  | zero => intro x; rfl
  | succ n ih => intro x; rw [p_spyref3_Meant_l2, p_spyref3_Meant_l1, ih]
theorem ref_most (L : Nat) (q : Int) (h0 : 0 ≤ q) (h1 : q ≤ 34359738368) (hL : 300000 < L) : p_spyref3_Meant_l1 L q L (i64.wrap (isqrt q + 5)) = some (mo q) := by
  obtain ⟨b1, b2, b3, b4, b5, b6, b7⟩ := rr_bd q h0 h1
  rw [w64 (by omega)]
  have go : ∀ (d k : Nat) (x : Int), d + 1 ≤ k → x - rr q = d → x ≤ isqrt q + 5 → p_spyref3_Meant_l1 L q k x = some (mo q) := by
    intro d
    induction d with
    | zero =>
      intro k x hk hx hxs
      obtain ⟨k, rfl⟩ : ∃ m, k = m + 1 := ⟨k - 1, by omega⟩
      obtain rfl : x = rr q := by omega
      have hb := mul_bd (show 0 ≤ rr q by omega) (show rr q ≤ 300000 by omega) (show 0 ≤ rr q by omega) (show rr q ≤ 300000 by omega)
      rw [p_spyref3_Meant_l1]
      unfold mo
      generalize rr q * rr q = M at *
      rw [if_pos (by omega), w64 (x := M) (by omega), w64 (x := 2 * rr q) (by omega), w64 (x := M + 2 * rr q) (by omega), w64 (x := 3 * rr q) (by omega), w64 (x := q + 3 * rr q) (by omega), min_v, if_pos (by omega)]
    | succ d ih =>
      intro k x hk hx hxs
      obtain ⟨k, rfl⟩ : ∃ m, k = m + 1 := ⟨k - 1, by omega⟩
      have hb := mul_bd (show 0 ≤ x by omega) (show x ≤ 300000 by omega) (show 0 ≤ x by omega) (show x ≤ 300000 by omega)
      have hms := b7 x (by omega)
      have r1 := ih k (x - 1) (by omega) (by omega) (by omega)
      rw [p_spyref3_Meant_l1]
      generalize x * x = M at *
      rw [if_pos (by omega), w64 (x := M) (by omega), w64 (x := 2 * x) (by omega), w64 (x := M + 2 * x) (by omega), w64 (x := 3 * x) (by omega), w64 (x := q + 3 * x) (by omega), min_v, if_neg (by omega), w64 (x := x - 1) (by omega)]
      exact r1
  exact go (isqrt q + 5 - rr q).toNat L (isqrt q + 5) (by omega) (by omega) (by omega)
theorem rbad_eq (L : Nat) (a b : Int) (u : Bool) : p_spyref3_Bad_Quanta L a b u = some (bad (a, b, u, ())) := by
  unfold p_spyref3_Bad_Quanta bad
  cases u
  · simp only [cb_f, Bool.false_or]
    by_cases c1 : a > b
    · rw [if_pos c1, decide_eq_true c1]; rfl
    · rw [if_neg c1, decide_eq_false c1]
      by_cases c2 : a < -1152921504606846976
      · rw [if_pos c2, decide_eq_true c2]; rfl
      · rw [if_neg c2, decide_eq_false c2]; rfl
  · rfl
theorem bad_0 {a b : Int} {u : Bool} (h : bad (a, b, u, ()) = false) : u = false ∧ -1152921504606846976 ≤ a ∧ a ≤ b ∧ b ≤ 1152921504606846976 := by
  unfold bad at h
  simp only [Bool.or_eq_false_iff, decide_eq_false_iff_not] at h
  exact ⟨h.1.1.1, by omega, by omega, by omega⟩
/-- Where the two answer that nothing is known. -/
theorem means_out (L : Nat) (lo hi : Int) (u : Bool) (h : bad (lo, hi, u, ()) = true ∨ hi < 0 ∨ hi > 34359738368) : p_quanta_Means L lo hi u = some none_ ∧ p_spyref3_Meant L lo hi u = some none_ := by
  unfold p_quanta_Means p_spyref3_Meant
  rw [norm_eq, bnd_s, norm_vague, rbad_eq, bnd_s]
  simp only [none_eq, bnd_s]
  cases hb : bad (lo, hi, u, ())
  · rw [norm_good hb, cb_f, cb_f]
    simp only
    by_cases c : hi < 0
    · rw [if_pos c, if_pos c]; exact ⟨rfl, rfl⟩
    · have c2 : hi > 34359738368 := by rcases h with h | h | h; rw [hb] at h; cases h; exact absurd h c; exact h
      rw [if_neg c, if_neg c, if_pos c2, if_pos c2]; exact ⟨rfl, rfl⟩
  · rw [cb_t, cb_t]; exact ⟨rfl, rfl⟩
theorem means_in (L : Nat) (hL : 300000 < L) (lo hi : Int) (u : Bool) (hb : bad (lo, hi, u, ()) = false) (h0 : 0 ≤ hi) (h1 : hi ≤ 34359738368) :
    ∃ l, p_quanta_Means L lo hi u = some (l, mo hi + 1, false) ∧ p_spyref3_Meant L lo hi u = some (l, mo hi + 1, false) ∧ IsLeast lo l ∧ l ≤ 34359738368 := by
  have hq := bad_0 hb
  obtain ⟨l, e, hl, hl2⟩ := least_some L hL lo (by omega)
  have hm := mo_bd hi h0 h1
  refine ⟨l, ?_, ?_, hl, hl2⟩
  · unfold p_quanta_Means
    rw [norm_eq, bnd_s, norm_vague, hb, cb_f, norm_good hb]
    simp only
    rw [if_neg (by omega), if_neg (by omega), e, bnd_s, most_eq L hi h0 h1, bnd_s]
  · unfold p_spyref3_Meant
    rw [rbad_eq, bnd_s, hb, cb_f, if_neg (by omega), if_neg (by omega), ref_eq L hi h0 (by omega), bnd_s]
    by_cases c : lo > 1
    · obtain ⟨l', e', hl', _⟩ := ref_least L hL lo (by omega) (by omega)
      have := least_uniq hl hl'
      subst this
      rw [if_pos c, ref_eq L lo (by omega) (by omega), bnd_s, e', bnd_s, bnd_s, ref_most L hi h0 h1 hL, bnd_s, w64 (by omega)]
    · have z : l = 0 := least_uniq hl ⟨by omega, fun w h0 h1 => by omega, by have := (rt (n := 0) (by omega)).1; omega⟩
      subst z
      rw [if_neg c, l2_eq, ref_most L hi h0 h1 hL, bnd_s, w64 (by omega)]
end Go.Proofs.Ytnojehmbiceceaa.PlMeans
end
section
set_option linter.unusedVariables false
set_option linter.unusedSimpArgs false
set_option maxRecDepth 100000
namespace Go.Proofs.Ytnojehmbiceceaa.E
open Go.Ev
noncomputable def en4 : Entry := ⟨Try.f4, [(1000000, mb 23 0 [8])]⟩
theorem dw4_1 (lv : Nat) (env : List V) (st : Store) (o : Option (List V × Store)) : drawR en4.ms 1 lv env st o = if lv < 1000000000000000000000000000000 then (o) else none := nr rfl
theorem kl4_1 (lv : Nat) (st : Store) : killR en4.ms 1 lv st = st := nr rfl
theorem nc4_1 : ncOf en4.ms 1 = false := nr rfl
theorem mk4_1000000 (vs : List V) : mask (maskOf en4.ms 1000000) vs = km 23 0 [8] vs := mask_mb _ _ _ _
end Go.Proofs.Ytnojehmbiceceaa.E
end
section
set_option linter.unusedVariables false
set_option linter.unusedSimpArgs false
set_option maxRecDepth 100000
namespace Go.Proofs.Ytnojehmbiceceaa.E
open Go.Ev
noncomputable def en18 : Entry := ⟨Try.f18, [(1000000, mb 9 0 [0])]⟩
theorem mk18_1000000 (vs : List V) : mask (maskOf en18.ms 1000000) vs = km 9 0 [0] vs := mask_mb _ _ _ _
end Go.Proofs.Ytnojehmbiceceaa.E
end
section
set_option linter.unusedVariables false
set_option linter.unusedSimpArgs false
set_option maxRecDepth 100000
namespace Go.Proofs.Ytnojehmbiceceaa.E
open Go.Ev
noncomputable def en19 : Entry := ⟨Try.f19, [(1000000, mb 78 0 [8]), (5000005, mb 78 0 [10])]⟩
theorem dw19_5 (lv : Nat) (env : List V) (st : Store) (o : Option (List V × Store)) : drawR en19.ms 5 lv env st o = if lv < 1000000000000000000000000000000 then (if (!(st (lv, 10)).live && true) = true then (o) else none) else none := nr rfl
theorem kl19_5 (lv : Nat) (st : Store) : killR en19.ms 5 lv st = killAt (st) (lv, 10) := nr rfl
theorem nc19_5 : ncOf en19.ms 5 = false := nr rfl
theorem mk19_1000000 (vs : List V) : mask (maskOf en19.ms 1000000) vs = km 78 0 [8] vs := mask_mb _ _ _ _
end Go.Proofs.Ytnojehmbiceceaa.E
end
section
set_option linter.unusedVariables false
set_option linter.unusedSimpArgs false
set_option maxRecDepth 100000
namespace Go.Proofs.Ytnojehmbiceceaa.E
open Go.Ev
noncomputable def en72 : Entry := ⟨Try.f72, [(1000000, mb 12 0 [6])]⟩
theorem dw72_1 (lv : Nat) (env : List V) (st : Store) (o : Option (List V × Store)) : drawR en72.ms 1 lv env st o = if lv < 1000000000000000000000000000000 then (o) else none := nr rfl
theorem kl72_1 (lv : Nat) (st : Store) : killR en72.ms 1 lv st = st := nr rfl
theorem nc72_1 : ncOf en72.ms 1 = false := nr rfl
theorem mk72_1000000 (vs : List V) : mask (maskOf en72.ms 1000000) vs = km 12 0 [6] vs := mask_mb _ _ _ _
end Go.Proofs.Ytnojehmbiceceaa.E
end
section
set_option linter.unusedVariables false
set_option linter.unusedSimpArgs false
set_option maxRecDepth 100000
namespace Go.Proofs.Ytnojehmbiceceaa.E
open Go.Ev
noncomputable def en160 : Entry := ⟨Try.f160, [(1000000, mb 20 0 [6])]⟩
theorem mk160_1000000 (vs : List V) : mask (maskOf en160.ms 1000000) vs = km 20 0 [6] vs := mask_mb _ _ _ _
end Go.Proofs.Ytnojehmbiceceaa.E
end
section
set_option linter.unusedVariables false
set_option linter.unusedSimpArgs false
set_option maxRecDepth 100000
namespace Go.Proofs.Ytnojehmbiceceaa.E
open Go.Ev
noncomputable def en208 : Entry := ⟨Try.f208, [(0, mb 71 0 [2, 3, 5, 8, 9, 22, 23, 24]), (2, mb 71 0 [2, 3, 5, 8, 9, 11, 22, 23, 24, 32, 33, 34]), (1000001, mb 71 0 [8, 9]), (1000002, mb 71 0 [2, 3, 5, 8, 9, 22, 23, 24]), (1000003, mb 71 0 [2, 3, 5, 8, 9, 22, 23, 24]), (1000004, mb 71 0 [2, 3, 5, 8, 9, 11, 22, 23, 24, 32, 33, 34]), (1000000, mb 71 0 [8])]⟩
theorem mk208_0 (vs : List V) : mask (maskOf en208.ms 0) vs = km 71 0 [2, 3, 5, 8, 9, 22, 23, 24] vs := mask_mb _ _ _ _
theorem mk208_2 (vs : List V) : mask (maskOf en208.ms 2) vs = km 71 0 [2, 3, 5, 8, 9, 11, 22, 23, 24, 32, 33, 34] vs := mask_mb _ _ _ _
theorem mk208_1000001 (vs : List V) : mask (maskOf en208.ms 1000001) vs = km 71 0 [8, 9] vs := mask_mb _ _ _ _
theorem mk208_1000002 (vs : List V) : mask (maskOf en208.ms 1000002) vs = km 71 0 [2, 3, 5, 8, 9, 22, 23, 24] vs := mask_mb _ _ _ _
theorem mk208_1000003 (vs : List V) : mask (maskOf en208.ms 1000003) vs = km 71 0 [2, 3, 5, 8, 9, 22, 23, 24] vs := mask_mb _ _ _ _
theorem mk208_1000004 (vs : List V) : mask (maskOf en208.ms 1000004) vs = km 71 0 [2, 3, 5, 8, 9, 11, 22, 23, 24, 32, 33, 34] vs := mask_mb _ _ _ _
theorem mk208_1000000 (vs : List V) : mask (maskOf en208.ms 1000000) vs = km 71 0 [8] vs := mask_mb _ _ _ _
theorem fz208_0 (lv : Nat) (f : Run) : frzF en208.ms lv 0 f = f := nr rfl
theorem fz208_2 (lv : Nat) (f : Run) : frzF en208.ms lv 2 f = f := nr rfl
noncomputable def lb208_0 : Code := loopN Try.f208 0
noncomputable def lb208_2 : Code := loopN Try.f208 1
end Go.Proofs.Ytnojehmbiceceaa.E
end
section
set_option linter.unusedVariables false
set_option linter.unusedSimpArgs false
set_option maxRecDepth 100000
namespace Go.Proofs.Ytnojehmbiceceaa.E
open Go.Ev
noncomputable def en206 : Entry := ⟨Try.f206, [(1000000, mb 13 0 [4])]⟩
theorem mk206_1000000 (vs : List V) : mask (maskOf en206.ms 1000000) vs = km 13 0 [4] vs := mask_mb _ _ _ _
end Go.Proofs.Ytnojehmbiceceaa.E
end
section
set_option linter.unusedVariables false
set_option linter.unusedSimpArgs false
set_option maxRecDepth 100000
namespace Go.Proofs.Ytnojehmbiceceaa.E
open Go.Ev
noncomputable def en213 : Entry := ⟨Try.f213, [(1000000, mb 8 0 [2])]⟩
theorem mk213_1000000 (vs : List V) : mask (maskOf en213.ms 1000000) vs = km 8 0 [2] vs := mask_mb _ _ _ _
end Go.Proofs.Ytnojehmbiceceaa.E
end
section
set_option linter.unusedVariables false
set_option linter.unusedSimpArgs false
set_option maxRecDepth 100000
namespace Go.Proofs.Ytnojehmbiceceaa.E
open Go.Ev
noncomputable def en207 : Entry := ⟨Try.f207, [(1000000, mb 2 0 [0])]⟩
theorem mk207_1000000 (vs : List V) : mask (maskOf en207.ms 1000000) vs = km 2 0 [0] vs := mask_mb _ _ _ _
end Go.Proofs.Ytnojehmbiceceaa.E
end
section
set_option linter.unusedVariables false
set_option linter.unusedSimpArgs false
set_option maxRecDepth 100000
namespace Go.Proofs.Ytnojehmbiceceaa.P
open Go.Ev Go.IntKind Go.Proofs.Ytnojehmbiceceaa Go.Proofs.Ytnojehmbiceceaa.Ty Go.Proofs.Ytnojehmbiceceaa.E
def p_bound_None_Light (L : Nat)  : Option (Int × Int × Bool) := some (0, 0, true)
attribute [local go_sem] Ev.putR_s Ev.putR_0 Ev.thenO_s Ev.thenO_0 Ev.seqR_n Ev.seqR_e Ev.seqR_r Ev.seqR_0 Ev.blkR_e Ev.blkR_n Ev.blkR_r Ev.blkR_0 Ev.normR_s Ev.normR_0 Ev.outR_r Ev.outR_n Ev.outR_0 Ev.retS_s Ev.retS_0 Ev.pureO_s Ev.pureO_0 Ev.topR_0 Ev.topR_t Ev.topR_t0 Ev.oneL_0 Ev.oneL_s Ev.topR_d Ev.topR_nils Ev.topR_agg Ev.topR_rs Ev.evOp_move Ev.evOp_assign Ev.evOp_pick Ev.evOp_alloc Ev.evOp_box Ev.evOp_build Ev.evOp_buildSlice Ev.evOp_load Ev.evOp_store Ev.evOp_makeMap Ev.evOp_lookup Ev.evOp_mapUpdate Ev.evOp_insert Ev.evOp_nilCheck Ev.evOp_binOp Ev.evOp_unOp Ev.evOp_convert Ev.evOp_makeFunc Ev.evOp_makeSlice Ev.evOp_slice Ev.evOp_fieldAddr Ev.evOp_field Ev.evOp_indexAddr Ev.evOp_index Ev.evOp_extract Ev.evOp_call Ev.evOp_append Ev.evOp_clear Ev.evOp_len Ev.evOp_min Ev.evOp_max Ev.condR_b Ev.condR_t Ev.evOps_nil Ev.evOps_plain Ev.evOps_guard Ev.runG_eq Ev.skipG_eq Ev.condL_tt Ev.condL_ff Ev.condL_tf Ev.condL_ft Ev.condL_u Ev.condC_t Ev.condC_f Ev.evC_skip Ev.evC_ret Ev.evC_exit Ev.evC_label Ev.evC_region Ev.evC_draw Ev.evC_seq Ev.evC_cond Ev.evC_block Ev.evC_loop Ev.fin_d Ev.fin_nils Ev.fin_agg_ Ev.fin_rs Ev.finS_s Ev.mapO_fin Ev.upd_upd Ev.argv_d Ev.argv_nils Ev.argv_agg Ev.argv_rs Ev.argv_p Ev.fk_low Ev.appendTo_nils Ev.appendTo_rs Ev.consV_d Ev.consV_agg Ev.consV_p Ev.consV_rs Ev.consV_nils Ev.consV_fn Ev.consV_und Ev.consV_jk Ev.consV_grown Ev.topR_grown Ev.len_grown Ev.consV_mp Ev.sameK_i Ev.sameK_s Ev.mget_0 Ev.mget_hit Ev.mget_miss Ev.mput_0 Ev.mput_hit Ev.mput_miss Ev.apartAll Ev.apartL Ev.apartV Ev.freeAll Ev.sel Ev.keyOfV Ev.evLookup Ev.evPut Ev.hintOk Ev.keyOk Ev.consP Ev.lookV Ev.guardV Ev.dstAt Ev.evPure Ev.evStore Ev.evBin Ev.evBinO Ev.evNil Ev.isNilC Ev.evUn Ev.evConv Ev.evSlice Ev.optI Ev.foldI Ev.capsOk Ev.noTup Ev.nth Ev.setN Ev.killAt Ev.pad Ev.V.get Ev.V.put Ev.putD Ev.newBlk Ev.upd Ev.keq Ev.empty Ev.evCall Ev.V.args Ev.argP Ev.callOf Ev.evNilP Ev.isNilP Ev.look Ev.V.view.views Ev.V.view Ev.V.toD Ev.V.toD.V.toDs Ev.V.pure.pures Ev.V.pure Ev.D.flat.flats Ev.D.flat Ev.mkAgg Ev.allD Ev.aggParts Ev.setParts Ev.setElems Ev.getPath Ev.setPath Ev.subL Ev.eqD Ev.eqD.eqDs Ev.and2 Ev.strCut Ev.evalT Ev.constT Ev.evArgs Ev.mask Ev.maskOf Ev.tableOf Ev.compT Ev.resV Ev.retV Ev.mapO Ev.frzO_n Ev.frzO_e Ev.frzO_r Ev.frzO_0 Ev.mb_z Ev.mb_0 Ev.mb_s Ev.frzL_t Ev.frzL_f Ev.frzL_0 Ev.frzT_nils Ev.frzT_rs Ev.frzT_p Ev.frzK_i Ev.keyIn_i Ev.rI_nil Ev.rI_cons Ev.rI_row Ev.rI_app Ev.r_d Ev.r_nils Ev.r_agg Ev.r_rs Ev.r_gl Ev.vw_row Ev.vw_app Ev.appO_s Ev.frzT_gl Ev.allD_gl Ev.killAt_i Ev.tkOne_i Ev.hT_agg Ev.hT_vagg Ev.hT_int Ev.hT_bool Ev.hT_str Ev.hT_sl Ev.hT_ptr Ev.hT_np Ev.hT_p Ev.hT_rs Ev.hT_mp Ev.hT_nils Ev.hT_fn Ev.hT_jk Ev.hT_gl Ev.eO_sl Ev.eO_nils Ev.eO_rs Ev.eT_sl Ev.eT_rs Ev.pL_str Ev.pL_sl Ev.pL_rs Ev.pL_nils Ev.pL_min Ev.pL_max Ev.len_glB Ev.noTup_gl Ev.rowV_len Ev.rowV_nil Ev.rowV_cons Ev.rowV_append Ev.rowV_set Ev.rowV_replicate Ev.nth_row Ev.row_take Ev.row_drop Ev.toDs_row Ev.fin_row Ev.map_row Ev.map_take_ Ev.map_drop_ Ev.Bk_i Ev.GlB_0 Ev.GlB_mk Ev.gl_nil Ev.gl_cons Ev.gl_snoc Ev.gl_setN Ev.appendTo_gl Ev.consV_gl Ev.elems_gl Ev.fin_gl Ev.view_gl Ev.argv_gl Ev.topR_gl Ev.sp_z Ev.sp_0 Ev.sp_s Ev.km_z Ev.km_0 Ev.km_s Ev.beq_toList Ev.nc0 Ev.bq_t Ev.bq_f Ev.bodyN Ev.le_maxRow Int.cast_ofNat_Int IntWalk.i64_in IntWalk.u64_in IntWalk.u8_in beq_self_eq_true Bool.true_beq Bool.false_beq Bool.and_true Bool.true_and Bool.false_and Bool.and_false Bool.and_self Bool.not_true Bool.not_false Bool.not_eq_true cond_true cond_false if_true if_false and_true true_and and_self decide_true decide_false Bool.or_true Bool.true_or Bool.or_false Bool.false_or List.isEmpty List.isEmpty_nil List.size_toArray List.map List.length_map List.length_cons List.length_nil Option.map Option.bind Option.getD Option.isSome List.replicate Bool.false_eq_true implies_true false_implies forall_const Array.toList Array.isEmpty List.append List.nil_append List.cons_append List.drop_zero List.take_length List.take_succ_cons List.take_zero List.take_nil List.getElem?_map List.getElem?_cons_zero List.getElem?_cons_succ List.getElem?_nil List.append_nil eq_self Int.toNat_natCast List.length_append Nat.zero_add Nat.add_zero List.length_replicate Nat.sub_zero Option.map_some Option.map_none Int.le_refl Nat.le_refl Int.natCast_nonneg List.map_append
noncomputable def G_bound_None_Light (L : Nat) : Specs := []
noncomputable def T_bound_None_Light : Table := tableOf [(207, en207)]
theorem Go_bound_None_Light (L : Nat) (hL : L ≤ 4611686018427387904) : ∀ g s, Ev.look (G_bound_None_Light L) g = some s → SpecOk Try.prog g s := specs_nil
theorem To_bound_None_Light (L : Nat) : TableOk Try.prog ((G_bound_None_Light L).map (·.1)) T_bound_None_Light := (table_cons Try.func207 (by kernel_rfl) (by kernel_rfl) table_nil)
attribute [local go_sem] Ty.tk4 Ty.ub4 Ty.ek4 Ty.zv4 Ty.by4 Ty.so4 Ty.tk32 Ty.ik32 Ty.ek32 Ty.zv32 Ty.by32 Ty.so32 Ty.tk37 Ty.ct37 Ty.ek37 Ty.zv37 Ty.by37 Ty.so37 Ty.k37_e E.mk207_1000000 loopN loops Try.f207
theorem e_bound_None_Light (L : Nat) (hL : L ≤ 4611686018427387904)  (res : Int × Int × Bool) (h : p_bound_None_Light L  = some res) : evTop Try.prog (G_bound_None_Light L) T_bound_None_Light L 1 207 [] = some [.agg 37 [.int .i64 res.1, .int .i64 res.2.1, .bool res.2.2]] := by
  revert h
  unfold p_bound_None_Light evTop
  simp only [List.map]
  rw [evF_s (fn := Try.f207) (msk := en207.ms) (hT := by rfl) (hb := by rfl)]
  rintro ⟨⟩
  simp only [go_sem, Nat.reduceAdd, Nat.reduceSub, Nat.reduceMul, Nat.reduceEqDiff, Nat.reduceBEq, Nat.reduceLT, Nat.reduceLeDiff, Nat.reducePow, Int.reduceToNat, Int.reduceLT, Int.reduceLE, Int.reduceGT, Int.reduceGE, Int.reduceEq, Int.reduceNeg, Int.reduceAdd, Int.reduceSub, Int.reduceMul, ↓reduceIte, reduceCtorEq, *]
noncomputable def s_bound_None_Light (L : Nat) : Ev.Spec := specP cNil (fun x => p_bound_None_Light L ) (fun r => [.agg 37 [.int .i64 r.1, .int .i64 r.2.1, .bool r.2.2]])
theorem s_bound_None_Light_run (L : Nat)  : (s_bound_None_Light L).run [] = (p_bound_None_Light L ).map fun r => [.agg 37 [.int .i64 r.1, .int .i64 r.2.1, .bool r.2.2]] := specP_run cNil (fun x => p_bound_None_Light L ) (fun r => [.agg 37 [.int .i64 r.1, .int .i64 r.2.1, .bool r.2.2]]) (())
theorem ok_bound_None_Light (L : Nat) (hL : L ≤ 4611686018427387904) : SpecOk Try.prog 207 (s_bound_None_Light L) := specP_ok mixed (Go_bound_None_Light L hL) (To_bound_None_Light L) fun x r h => ⟨L, 1, e_bound_None_Light L hL  r h⟩
end Go.Proofs.Ytnojehmbiceceaa.P
end
section
set_option linter.unusedVariables false
set_option linter.unusedSimpArgs false
set_option maxRecDepth 100000
namespace Go.Proofs.Ytnojehmbiceceaa.E
open Go.Ev
noncomputable def en249 : Entry := ⟨Try.f249, [(1000001, mb 37 0 []), (1000000, mb 37 0 [2])]⟩
theorem mk249_1000001 (vs : List V) : mask (maskOf en249.ms 1000001) vs = km 37 0 [] vs := mask_mb _ _ _ _
theorem mk249_1000000 (vs : List V) : mask (maskOf en249.ms 1000000) vs = km 37 0 [2] vs := mask_mb _ _ _ _
end Go.Proofs.Ytnojehmbiceceaa.E
end
section
set_option linter.unusedVariables false
set_option linter.unusedSimpArgs false
set_option maxRecDepth 100000
namespace Go.Proofs.Ytnojehmbiceceaa.P
open Go.Ev Go.IntKind Go.Proofs.Ytnojehmbiceceaa Go.Proofs.Ytnojehmbiceceaa.Ty Go.Proofs.Ytnojehmbiceceaa.E
def p_bound_Check_Light (L : Nat) (a0_0 : Int) (a0_1 : Int) (a0_2 : Bool) : Option Int := cb a0_2 (cb (decide (a0_0 = 0)) (cb (decide (a0_1 = 0)) (if (minI a0_0 a0_1) < (-1152921504606846976) then (some 4) else (if (maxI a0_0 a0_1) > 1152921504606846976 then (some 4) else (if a0_0 > a0_1 then (some 11) else (some 0)))) (some 3)) (some 3)) (if (minI a0_0 a0_1) < (-1152921504606846976) then (some 4) else (if (maxI a0_0 a0_1) > 1152921504606846976 then (some 4) else (if a0_0 > a0_1 then (some 11) else (some 0))))
attribute [local go_sem] Ev.putR_s Ev.putR_0 Ev.thenO_s Ev.thenO_0 Ev.seqR_n Ev.seqR_e Ev.seqR_r Ev.seqR_0 Ev.blkR_e Ev.blkR_n Ev.blkR_r Ev.blkR_0 Ev.normR_s Ev.normR_0 Ev.outR_r Ev.outR_n Ev.outR_0 Ev.retS_s Ev.retS_0 Ev.pureO_s Ev.pureO_0 Ev.topR_0 Ev.topR_t Ev.topR_t0 Ev.oneL_0 Ev.oneL_s Ev.topR_d Ev.topR_nils Ev.topR_agg Ev.topR_rs Ev.evOp_move Ev.evOp_assign Ev.evOp_pick Ev.evOp_alloc Ev.evOp_box Ev.evOp_build Ev.evOp_buildSlice Ev.evOp_load Ev.evOp_store Ev.evOp_makeMap Ev.evOp_lookup Ev.evOp_mapUpdate Ev.evOp_insert Ev.evOp_nilCheck Ev.evOp_binOp Ev.evOp_unOp Ev.evOp_convert Ev.evOp_makeFunc Ev.evOp_makeSlice Ev.evOp_slice Ev.evOp_fieldAddr Ev.evOp_field Ev.evOp_indexAddr Ev.evOp_index Ev.evOp_extract Ev.evOp_call Ev.evOp_append Ev.evOp_clear Ev.evOp_len Ev.evOp_min Ev.evOp_max Ev.condR_b Ev.condR_t Ev.evOps_nil Ev.evOps_plain Ev.evOps_guard Ev.runG_eq Ev.skipG_eq Ev.condL_tt Ev.condL_ff Ev.condL_tf Ev.condL_ft Ev.condL_u Ev.condC_t Ev.condC_f Ev.evC_skip Ev.evC_ret Ev.evC_exit Ev.evC_label Ev.evC_region Ev.evC_draw Ev.evC_seq Ev.evC_cond Ev.evC_block Ev.evC_loop Ev.fin_d Ev.fin_nils Ev.fin_agg_ Ev.fin_rs Ev.finS_s Ev.mapO_fin Ev.upd_upd Ev.argv_d Ev.argv_nils Ev.argv_agg Ev.argv_rs Ev.argv_p Ev.fk_low Ev.appendTo_nils Ev.appendTo_rs Ev.consV_d Ev.consV_agg Ev.consV_p Ev.consV_rs Ev.consV_nils Ev.consV_fn Ev.consV_und Ev.consV_jk Ev.consV_grown Ev.topR_grown Ev.len_grown Ev.consV_mp Ev.sameK_i Ev.sameK_s Ev.mget_0 Ev.mget_hit Ev.mget_miss Ev.mput_0 Ev.mput_hit Ev.mput_miss Ev.apartAll Ev.apartL Ev.apartV Ev.freeAll Ev.sel Ev.keyOfV Ev.evLookup Ev.evPut Ev.hintOk Ev.keyOk Ev.consP Ev.lookV Ev.guardV Ev.dstAt Ev.evPure Ev.evStore Ev.evBin Ev.evBinO Ev.evNil Ev.isNilC Ev.evUn Ev.evConv Ev.evSlice Ev.optI Ev.foldI Ev.capsOk Ev.noTup Ev.nth Ev.setN Ev.killAt Ev.pad Ev.V.get Ev.V.put Ev.putD Ev.newBlk Ev.upd Ev.keq Ev.empty Ev.evCall Ev.V.args Ev.argP Ev.callOf Ev.evNilP Ev.isNilP Ev.look Ev.V.view.views Ev.V.view Ev.V.toD Ev.V.toD.V.toDs Ev.V.pure.pures Ev.V.pure Ev.D.flat.flats Ev.D.flat Ev.mkAgg Ev.allD Ev.aggParts Ev.setParts Ev.setElems Ev.getPath Ev.setPath Ev.subL Ev.eqD Ev.eqD.eqDs Ev.and2 Ev.strCut Ev.evalT Ev.constT Ev.evArgs Ev.mask Ev.maskOf Ev.tableOf Ev.compT Ev.resV Ev.retV Ev.mapO Ev.frzO_n Ev.frzO_e Ev.frzO_r Ev.frzO_0 Ev.mb_z Ev.mb_0 Ev.mb_s Ev.frzL_t Ev.frzL_f Ev.frzL_0 Ev.frzT_nils Ev.frzT_rs Ev.frzT_p Ev.frzK_i Ev.keyIn_i Ev.rI_nil Ev.rI_cons Ev.rI_row Ev.rI_app Ev.r_d Ev.r_nils Ev.r_agg Ev.r_rs Ev.r_gl Ev.vw_row Ev.vw_app Ev.appO_s Ev.frzT_gl Ev.allD_gl Ev.killAt_i Ev.tkOne_i Ev.hT_agg Ev.hT_vagg Ev.hT_int Ev.hT_bool Ev.hT_str Ev.hT_sl Ev.hT_ptr Ev.hT_np Ev.hT_p Ev.hT_rs Ev.hT_mp Ev.hT_nils Ev.hT_fn Ev.hT_jk Ev.hT_gl Ev.eO_sl Ev.eO_nils Ev.eO_rs Ev.eT_sl Ev.eT_rs Ev.pL_str Ev.pL_sl Ev.pL_rs Ev.pL_nils Ev.pL_min Ev.pL_max Ev.len_glB Ev.noTup_gl Ev.rowV_len Ev.rowV_nil Ev.rowV_cons Ev.rowV_append Ev.rowV_set Ev.rowV_replicate Ev.nth_row Ev.row_take Ev.row_drop Ev.toDs_row Ev.fin_row Ev.map_row Ev.map_take_ Ev.map_drop_ Ev.Bk_i Ev.GlB_0 Ev.GlB_mk Ev.gl_nil Ev.gl_cons Ev.gl_snoc Ev.gl_setN Ev.appendTo_gl Ev.consV_gl Ev.elems_gl Ev.fin_gl Ev.view_gl Ev.argv_gl Ev.topR_gl Ev.sp_z Ev.sp_0 Ev.sp_s Ev.km_z Ev.km_0 Ev.km_s Ev.beq_toList Ev.nc0 Ev.bq_t Ev.bq_f Ev.bodyN Ev.le_maxRow Int.cast_ofNat_Int IntWalk.i64_in IntWalk.u64_in IntWalk.u8_in beq_self_eq_true Bool.true_beq Bool.false_beq Bool.and_true Bool.true_and Bool.false_and Bool.and_false Bool.and_self Bool.not_true Bool.not_false Bool.not_eq_true cond_true cond_false if_true if_false and_true true_and and_self decide_true decide_false Bool.or_true Bool.true_or Bool.or_false Bool.false_or List.isEmpty List.isEmpty_nil List.size_toArray List.map List.length_map List.length_cons List.length_nil Option.map Option.bind Option.getD Option.isSome List.replicate Bool.false_eq_true implies_true false_implies forall_const Array.toList Array.isEmpty List.append List.nil_append List.cons_append List.drop_zero List.take_length List.take_succ_cons List.take_zero List.take_nil List.getElem?_map List.getElem?_cons_zero List.getElem?_cons_succ List.getElem?_nil List.append_nil eq_self Int.toNat_natCast List.length_append Nat.zero_add Nat.add_zero List.length_replicate Nat.sub_zero Option.map_some Option.map_none Int.le_refl Nat.le_refl Int.natCast_nonneg List.map_append
noncomputable def G_bound_Check_Light (L : Nat) : Specs := []
noncomputable def T_bound_Check_Light : Table := tableOf [(249, en249)]
theorem Go_bound_Check_Light (L : Nat) (hL : L ≤ 4611686018427387904) : ∀ g s, Ev.look (G_bound_Check_Light L) g = some s → SpecOk Try.prog g s := specs_nil
theorem To_bound_Check_Light (L : Nat) : TableOk Try.prog ((G_bound_Check_Light L).map (·.1)) T_bound_Check_Light := (table_cons Try.func249 (by kernel_rfl) (by kernel_rfl) table_nil)
attribute [local go_sem] Ty.tk4 Ty.ub4 Ty.ek4 Ty.zv4 Ty.by4 Ty.so4 Ty.tk27 Ty.ik27 Ty.ek27 Ty.zv27 Ty.by27 Ty.so27 Ty.tk32 Ty.ik32 Ty.ek32 Ty.zv32 Ty.by32 Ty.so32 Ty.tk37 Ty.ct37 Ty.ek37 Ty.zv37 Ty.by37 Ty.so37 Ty.k37_e E.mk249_1000001 E.mk249_1000000 loopN loops Try.f249
theorem e_bound_Check_Light (L : Nat) (hL : L ≤ 4611686018427387904) (a0_0 : Int) (a0_1 : Int) (a0_2 : Bool) (res : Int) (h : p_bound_Check_Light L a0_0 a0_1 a0_2 = some res) : evTop Try.prog (G_bound_Check_Light L) T_bound_Check_Light L 1 249 [.agg 37 [.int .i64 a0_0, .int .i64 a0_1, .bool a0_2]] = some [.int .i64 res] := by
  revert h
  unfold p_bound_Check_Light evTop
  simp only [List.map]
  rw [evF_s (fn := Try.f249) (msk := en249.ms) (hT := by rfl) (hb := by rfl)]
  refine cb_i (fun c1 => ?_) (fun c1 => ?_)
  · refine cb_i (fun c2 => ?_) (fun c2 => ?_)
    · refine cb_i (fun c3 => ?_) (fun c3 => ?_)
      · refine ite_i (fun c4 => ?_) (fun c4 => ?_)
        · rintro ⟨⟩
          simp only [go_sem, Nat.reduceAdd, Nat.reduceSub, Nat.reduceMul, Nat.reduceEqDiff, Nat.reduceBEq, Nat.reduceLT, Nat.reduceLeDiff, Nat.reducePow, Int.reduceToNat, Int.reduceLT, Int.reduceLE, Int.reduceGT, Int.reduceGE, Int.reduceEq, Int.reduceNeg, Int.reduceAdd, Int.reduceSub, Int.reduceMul, ↓reduceIte, reduceCtorEq, *]
        · refine ite_i (fun c5 => ?_) (fun c5 => ?_)
          · rintro ⟨⟩
            simp only [go_sem, Nat.reduceAdd, Nat.reduceSub, Nat.reduceMul, Nat.reduceEqDiff, Nat.reduceBEq, Nat.reduceLT, Nat.reduceLeDiff, Nat.reducePow, Int.reduceToNat, Int.reduceLT, Int.reduceLE, Int.reduceGT, Int.reduceGE, Int.reduceEq, Int.reduceNeg, Int.reduceAdd, Int.reduceSub, Int.reduceMul, ↓reduceIte, reduceCtorEq, *]
          · refine ite_i (fun c6 => ?_) (fun c6 => ?_)
            · rintro ⟨⟩
              simp only [go_sem, Nat.reduceAdd, Nat.reduceSub, Nat.reduceMul, Nat.reduceEqDiff, Nat.reduceBEq, Nat.reduceLT, Nat.reduceLeDiff, Nat.reducePow, Int.reduceToNat, Int.reduceLT, Int.reduceLE, Int.reduceGT, Int.reduceGE, Int.reduceEq, Int.reduceNeg, Int.reduceAdd, Int.reduceSub, Int.reduceMul, ↓reduceIte, reduceCtorEq, *]
            · rintro ⟨⟩
              simp only [go_sem, Nat.reduceAdd, Nat.reduceSub, Nat.reduceMul, Nat.reduceEqDiff, Nat.reduceBEq, Nat.reduceLT, Nat.reduceLeDiff, Nat.reducePow, Int.reduceToNat, Int.reduceLT, Int.reduceLE, Int.reduceGT, Int.reduceGE, Int.reduceEq, Int.reduceNeg, Int.reduceAdd, Int.reduceSub, Int.reduceMul, ↓reduceIte, reduceCtorEq, *]
      · rintro ⟨⟩
        simp only [go_sem, Nat.reduceAdd, Nat.reduceSub, Nat.reduceMul, Nat.reduceEqDiff, Nat.reduceBEq, Nat.reduceLT, Nat.reduceLeDiff, Nat.reducePow, Int.reduceToNat, Int.reduceLT, Int.reduceLE, Int.reduceGT, Int.reduceGE, Int.reduceEq, Int.reduceNeg, Int.reduceAdd, Int.reduceSub, Int.reduceMul, ↓reduceIte, reduceCtorEq, *]
    · rintro ⟨⟩
      simp only [go_sem, Nat.reduceAdd, Nat.reduceSub, Nat.reduceMul, Nat.reduceEqDiff, Nat.reduceBEq, Nat.reduceLT, Nat.reduceLeDiff, Nat.reducePow, Int.reduceToNat, Int.reduceLT, Int.reduceLE, Int.reduceGT, Int.reduceGE, Int.reduceEq, Int.reduceNeg, Int.reduceAdd, Int.reduceSub, Int.reduceMul, ↓reduceIte, reduceCtorEq, *]
  · refine ite_i (fun c7 => ?_) (fun c7 => ?_)
    · rintro ⟨⟩
      simp only [go_sem, Nat.reduceAdd, Nat.reduceSub, Nat.reduceMul, Nat.reduceEqDiff, Nat.reduceBEq, Nat.reduceLT, Nat.reduceLeDiff, Nat.reducePow, Int.reduceToNat, Int.reduceLT, Int.reduceLE, Int.reduceGT, Int.reduceGE, Int.reduceEq, Int.reduceNeg, Int.reduceAdd, Int.reduceSub, Int.reduceMul, ↓reduceIte, reduceCtorEq, *]
    · refine ite_i (fun c8 => ?_) (fun c8 => ?_)
      · rintro ⟨⟩
        simp only [go_sem, Nat.reduceAdd, Nat.reduceSub, Nat.reduceMul, Nat.reduceEqDiff, Nat.reduceBEq, Nat.reduceLT, Nat.reduceLeDiff, Nat.reducePow, Int.reduceToNat, Int.reduceLT, Int.reduceLE, Int.reduceGT, Int.reduceGE, Int.reduceEq, Int.reduceNeg, Int.reduceAdd, Int.reduceSub, Int.reduceMul, ↓reduceIte, reduceCtorEq, *]
      · refine ite_i (fun c9 => ?_) (fun c9 => ?_)
        · rintro ⟨⟩
          simp only [go_sem, Nat.reduceAdd, Nat.reduceSub, Nat.reduceMul, Nat.reduceEqDiff, Nat.reduceBEq, Nat.reduceLT, Nat.reduceLeDiff, Nat.reducePow, Int.reduceToNat, Int.reduceLT, Int.reduceLE, Int.reduceGT, Int.reduceGE, Int.reduceEq, Int.reduceNeg, Int.reduceAdd, Int.reduceSub, Int.reduceMul, ↓reduceIte, reduceCtorEq, *]
        · rintro ⟨⟩
          simp only [go_sem, Nat.reduceAdd, Nat.reduceSub, Nat.reduceMul, Nat.reduceEqDiff, Nat.reduceBEq, Nat.reduceLT, Nat.reduceLeDiff, Nat.reducePow, Int.reduceToNat, Int.reduceLT, Int.reduceLE, Int.reduceGT, Int.reduceGE, Int.reduceEq, Int.reduceNeg, Int.reduceAdd, Int.reduceSub, Int.reduceMul, ↓reduceIte, reduceCtorEq, *]
noncomputable def s_bound_Check_Light (L : Nat) : Ev.Spec := specP (cCons k37 cNil) (fun x => p_bound_Check_Light L x.1.1 x.1.2.1 x.1.2.2.1) (fun r => [.int .i64 r])
theorem s_bound_Check_Light_run (L : Nat) (a0_0 : Int) (a0_1 : Int) (a0_2 : Bool) : (s_bound_Check_Light L).run [.agg 37 [.int .i64 a0_0, .int .i64 a0_1, .bool a0_2]] = (p_bound_Check_Light L a0_0 a0_1 a0_2).map fun r => [.int .i64 r] := specP_run (cCons k37 cNil) (fun x => p_bound_Check_Light L x.1.1 x.1.2.1 x.1.2.2.1) (fun r => [.int .i64 r]) ((a0_0, a0_1, a0_2, ()), ())
theorem ok_bound_Check_Light (L : Nat) (hL : L ≤ 4611686018427387904) : SpecOk Try.prog 249 (s_bound_Check_Light L) := specP_ok mixed (Go_bound_Check_Light L hL) (To_bound_Check_Light L) fun x r h => ⟨L, 1, e_bound_Check_Light L hL x.1.1 x.1.2.1 x.1.2.2.1 r h⟩
end Go.Proofs.Ytnojehmbiceceaa.P
end
section
set_option linter.unusedVariables false
set_option linter.unusedSimpArgs false
set_option maxRecDepth 100000
namespace Go.Proofs.Ytnojehmbiceceaa.P
open Go.Ev Go.IntKind Go.Proofs.Ytnojehmbiceceaa Go.Proofs.Ytnojehmbiceceaa.Ty Go.Proofs.Ytnojehmbiceceaa.E
def p_bound_Norm_Light (L : Nat) (a0_0 : Int) (a0_1 : Int) (a0_2 : Bool) : Option (Int × Int × Bool) := bnd (p_bound_Check_Light L a0_0 a0_1 a0_2) fun r1 => cb (decide (r1 = 0)) (some (a0_0, a0_1, a0_2)) (bnd (p_bound_None_Light L) fun r2 => some (r2.1, r2.2.1, r2.2.2))
attribute [local go_sem] Ev.putR_s Ev.putR_0 Ev.thenO_s Ev.thenO_0 Ev.seqR_n Ev.seqR_e Ev.seqR_r Ev.seqR_0 Ev.blkR_e Ev.blkR_n Ev.blkR_r Ev.blkR_0 Ev.normR_s Ev.normR_0 Ev.outR_r Ev.outR_n Ev.outR_0 Ev.retS_s Ev.retS_0 Ev.pureO_s Ev.pureO_0 Ev.topR_0 Ev.topR_t Ev.topR_t0 Ev.oneL_0 Ev.oneL_s Ev.topR_d Ev.topR_nils Ev.topR_agg Ev.topR_rs Ev.evOp_move Ev.evOp_assign Ev.evOp_pick Ev.evOp_alloc Ev.evOp_box Ev.evOp_build Ev.evOp_buildSlice Ev.evOp_load Ev.evOp_store Ev.evOp_makeMap Ev.evOp_lookup Ev.evOp_mapUpdate Ev.evOp_insert Ev.evOp_nilCheck Ev.evOp_binOp Ev.evOp_unOp Ev.evOp_convert Ev.evOp_makeFunc Ev.evOp_makeSlice Ev.evOp_slice Ev.evOp_fieldAddr Ev.evOp_field Ev.evOp_indexAddr Ev.evOp_index Ev.evOp_extract Ev.evOp_call Ev.evOp_append Ev.evOp_clear Ev.evOp_len Ev.evOp_min Ev.evOp_max Ev.condR_b Ev.condR_t Ev.evOps_nil Ev.evOps_plain Ev.evOps_guard Ev.runG_eq Ev.skipG_eq Ev.condL_tt Ev.condL_ff Ev.condL_tf Ev.condL_ft Ev.condL_u Ev.condC_t Ev.condC_f Ev.evC_skip Ev.evC_ret Ev.evC_exit Ev.evC_label Ev.evC_region Ev.evC_draw Ev.evC_seq Ev.evC_cond Ev.evC_block Ev.evC_loop Ev.fin_d Ev.fin_nils Ev.fin_agg_ Ev.fin_rs Ev.finS_s Ev.mapO_fin Ev.upd_upd Ev.argv_d Ev.argv_nils Ev.argv_agg Ev.argv_rs Ev.argv_p Ev.fk_low Ev.appendTo_nils Ev.appendTo_rs Ev.consV_d Ev.consV_agg Ev.consV_p Ev.consV_rs Ev.consV_nils Ev.consV_fn Ev.consV_und Ev.consV_jk Ev.consV_grown Ev.topR_grown Ev.len_grown Ev.consV_mp Ev.sameK_i Ev.sameK_s Ev.mget_0 Ev.mget_hit Ev.mget_miss Ev.mput_0 Ev.mput_hit Ev.mput_miss Ev.apartAll Ev.apartL Ev.apartV Ev.freeAll Ev.sel Ev.keyOfV Ev.evLookup Ev.evPut Ev.hintOk Ev.keyOk Ev.consP Ev.lookV Ev.guardV Ev.dstAt Ev.evPure Ev.evStore Ev.evBin Ev.evBinO Ev.evNil Ev.isNilC Ev.evUn Ev.evConv Ev.evSlice Ev.optI Ev.foldI Ev.capsOk Ev.noTup Ev.nth Ev.setN Ev.killAt Ev.pad Ev.V.get Ev.V.put Ev.putD Ev.newBlk Ev.upd Ev.keq Ev.empty Ev.evCall Ev.V.args Ev.argP Ev.callOf Ev.evNilP Ev.isNilP Ev.look Ev.V.view.views Ev.V.view Ev.V.toD Ev.V.toD.V.toDs Ev.V.pure.pures Ev.V.pure Ev.D.flat.flats Ev.D.flat Ev.mkAgg Ev.allD Ev.aggParts Ev.setParts Ev.setElems Ev.getPath Ev.setPath Ev.subL Ev.eqD Ev.eqD.eqDs Ev.and2 Ev.strCut Ev.evalT Ev.constT Ev.evArgs Ev.mask Ev.maskOf Ev.tableOf Ev.compT Ev.resV Ev.retV Ev.mapO Ev.frzO_n Ev.frzO_e Ev.frzO_r Ev.frzO_0 Ev.mb_z Ev.mb_0 Ev.mb_s Ev.frzL_t Ev.frzL_f Ev.frzL_0 Ev.frzT_nils Ev.frzT_rs Ev.frzT_p Ev.frzK_i Ev.keyIn_i Ev.rI_nil Ev.rI_cons Ev.rI_row Ev.rI_app Ev.r_d Ev.r_nils Ev.r_agg Ev.r_rs Ev.r_gl Ev.vw_row Ev.vw_app Ev.appO_s Ev.frzT_gl Ev.allD_gl Ev.killAt_i Ev.tkOne_i Ev.hT_agg Ev.hT_vagg Ev.hT_int Ev.hT_bool Ev.hT_str Ev.hT_sl Ev.hT_ptr Ev.hT_np Ev.hT_p Ev.hT_rs Ev.hT_mp Ev.hT_nils Ev.hT_fn Ev.hT_jk Ev.hT_gl Ev.eO_sl Ev.eO_nils Ev.eO_rs Ev.eT_sl Ev.eT_rs Ev.pL_str Ev.pL_sl Ev.pL_rs Ev.pL_nils Ev.pL_min Ev.pL_max Ev.len_glB Ev.noTup_gl Ev.rowV_len Ev.rowV_nil Ev.rowV_cons Ev.rowV_append Ev.rowV_set Ev.rowV_replicate Ev.nth_row Ev.row_take Ev.row_drop Ev.toDs_row Ev.fin_row Ev.map_row Ev.map_take_ Ev.map_drop_ Ev.Bk_i Ev.GlB_0 Ev.GlB_mk Ev.gl_nil Ev.gl_cons Ev.gl_snoc Ev.gl_setN Ev.appendTo_gl Ev.consV_gl Ev.elems_gl Ev.fin_gl Ev.view_gl Ev.argv_gl Ev.topR_gl Ev.sp_z Ev.sp_0 Ev.sp_s Ev.km_z Ev.km_0 Ev.km_s Ev.beq_toList Ev.nc0 Ev.bq_t Ev.bq_f Ev.bodyN Ev.le_maxRow Int.cast_ofNat_Int IntWalk.i64_in IntWalk.u64_in IntWalk.u8_in beq_self_eq_true Bool.true_beq Bool.false_beq Bool.and_true Bool.true_and Bool.false_and Bool.and_false Bool.and_self Bool.not_true Bool.not_false Bool.not_eq_true cond_true cond_false if_true if_false and_true true_and and_self decide_true decide_false Bool.or_true Bool.true_or Bool.or_false Bool.false_or List.isEmpty List.isEmpty_nil List.size_toArray List.map List.length_map List.length_cons List.length_nil Option.map Option.bind Option.getD Option.isSome List.replicate Bool.false_eq_true implies_true false_implies forall_const Array.toList Array.isEmpty List.append List.nil_append List.cons_append List.drop_zero List.take_length List.take_succ_cons List.take_zero List.take_nil List.getElem?_map List.getElem?_cons_zero List.getElem?_cons_succ List.getElem?_nil List.append_nil eq_self Int.toNat_natCast List.length_append Nat.zero_add Nat.add_zero List.length_replicate Nat.sub_zero Option.map_some Option.map_none Int.le_refl Nat.le_refl Int.natCast_nonneg List.map_append
noncomputable def G_bound_Norm_Light (L : Nat) : Specs := [(207, s_bound_None_Light L), (249, s_bound_Check_Light L)]
noncomputable def T_bound_Norm_Light : Table := tableOf [(213, en213)]
theorem Go_bound_Norm_Light (L : Nat) (hL : L ≤ 4611686018427387904) : ∀ g s, Ev.look (G_bound_Norm_Light L) g = some s → SpecOk Try.prog g s := (specs_cons (ok_bound_None_Light L hL) (specs_cons (ok_bound_Check_Light L hL) specs_nil))
theorem To_bound_Norm_Light (L : Nat) : TableOk Try.prog ((G_bound_Norm_Light L).map (·.1)) T_bound_Norm_Light := (table_cons Try.func213 (by kernel_rfl) (by kernel_rfl) table_nil)
theorem lk_bound_Norm_Light_207 (L : Nat) : Ev.look (G_bound_Norm_Light L) 207 = some (s_bound_None_Light L) := nr rfl
theorem lk_bound_Norm_Light_249 (L : Nat) : Ev.look (G_bound_Norm_Light L) 249 = some (s_bound_Check_Light L) := nr rfl
attribute [local go_sem] Ty.tk4 Ty.ub4 Ty.ek4 Ty.zv4 Ty.by4 Ty.so4 Ty.tk27 Ty.ik27 Ty.ek27 Ty.zv27 Ty.by27 Ty.so27 Ty.tk32 Ty.ik32 Ty.ek32 Ty.zv32 Ty.by32 Ty.so32 Ty.tk37 Ty.ct37 Ty.ek37 Ty.zv37 Ty.by37 Ty.so37 Ty.k37_e E.mk213_1000000 lk_bound_Norm_Light_207 lk_bound_Norm_Light_249 s_bound_None_Light_run s_bound_Check_Light_run loopN loops Try.f213
theorem e_bound_Norm_Light (L : Nat) (hL : L ≤ 4611686018427387904) (a0_0 : Int) (a0_1 : Int) (a0_2 : Bool) (res : Int × Int × Bool) (h : p_bound_Norm_Light L a0_0 a0_1 a0_2 = some res) : evTop Try.prog (G_bound_Norm_Light L) T_bound_Norm_Light L 1 213 [.agg 37 [.int .i64 a0_0, .int .i64 a0_1, .bool a0_2]] = some [.agg 37 [.int .i64 res.1, .int .i64 res.2.1, .bool res.2.2]] := by
  revert h
  unfold p_bound_Norm_Light evTop
  simp only [List.map]
  rw [evF_s (fn := Try.f213) (msk := en213.ms) (hT := by rfl) (hb := by rfl)]
  refine bnd_i fun r1 c1 => ?_
  refine cb_i (fun c2 => ?_) (fun c2 => ?_)
  · rintro ⟨⟩
    simp only [go_sem, Nat.reduceAdd, Nat.reduceSub, Nat.reduceMul, Nat.reduceEqDiff, Nat.reduceBEq, Nat.reduceLT, Nat.reduceLeDiff, Nat.reducePow, Int.reduceToNat, Int.reduceLT, Int.reduceLE, Int.reduceGT, Int.reduceGE, Int.reduceEq, Int.reduceNeg, Int.reduceAdd, Int.reduceSub, Int.reduceMul, ↓reduceIte, reduceCtorEq, *]
  · refine bnd_i fun r2 c3 => ?_
    rintro ⟨⟩
    simp only [go_sem, Nat.reduceAdd, Nat.reduceSub, Nat.reduceMul, Nat.reduceEqDiff, Nat.reduceBEq, Nat.reduceLT, Nat.reduceLeDiff, Nat.reducePow, Int.reduceToNat, Int.reduceLT, Int.reduceLE, Int.reduceGT, Int.reduceGE, Int.reduceEq, Int.reduceNeg, Int.reduceAdd, Int.reduceSub, Int.reduceMul, ↓reduceIte, reduceCtorEq, *]
noncomputable def s_bound_Norm_Light (L : Nat) : Ev.Spec := specP (cCons k37 cNil) (fun x => p_bound_Norm_Light L x.1.1 x.1.2.1 x.1.2.2.1) (fun r => [.agg 37 [.int .i64 r.1, .int .i64 r.2.1, .bool r.2.2]])
theorem s_bound_Norm_Light_run (L : Nat) (a0_0 : Int) (a0_1 : Int) (a0_2 : Bool) : (s_bound_Norm_Light L).run [.agg 37 [.int .i64 a0_0, .int .i64 a0_1, .bool a0_2]] = (p_bound_Norm_Light L a0_0 a0_1 a0_2).map fun r => [.agg 37 [.int .i64 r.1, .int .i64 r.2.1, .bool r.2.2]] := specP_run (cCons k37 cNil) (fun x => p_bound_Norm_Light L x.1.1 x.1.2.1 x.1.2.2.1) (fun r => [.agg 37 [.int .i64 r.1, .int .i64 r.2.1, .bool r.2.2]]) ((a0_0, a0_1, a0_2, ()), ())
theorem ok_bound_Norm_Light (L : Nat) (hL : L ≤ 4611686018427387904) : SpecOk Try.prog 213 (s_bound_Norm_Light L) := specP_ok mixed (Go_bound_Norm_Light L hL) (To_bound_Norm_Light L) fun x r h => ⟨L, 1, e_bound_Norm_Light L hL x.1.1 x.1.2.1 x.1.2.2.1 r h⟩
end Go.Proofs.Ytnojehmbiceceaa.P
end
section
set_option linter.unusedVariables false
set_option linter.unusedSimpArgs false
set_option maxRecDepth 100000
namespace Go.Proofs.Ytnojehmbiceceaa.P
open Go.Ev Go.IntKind Go.Proofs.Ytnojehmbiceceaa Go.Proofs.Ytnojehmbiceceaa.Ty Go.Proofs.Ytnojehmbiceceaa.E
def p_bound_vague_Light (L : Nat) (a0_0 : Int) (a0_1 : Int) (a0_2 : Bool) (a1_0 : Int) (a1_1 : Int) (a1_2 : Bool) : Option Bool := bnd (p_bound_Norm_Light L a0_0 a0_1 a0_2) fun r1 => cb r1.2.2 (some true) (bnd (p_bound_Norm_Light L a1_0 a1_1 a1_2) fun r2 => some r2.2.2)
attribute [local go_sem] Ev.putR_s Ev.putR_0 Ev.thenO_s Ev.thenO_0 Ev.seqR_n Ev.seqR_e Ev.seqR_r Ev.seqR_0 Ev.blkR_e Ev.blkR_n Ev.blkR_r Ev.blkR_0 Ev.normR_s Ev.normR_0 Ev.outR_r Ev.outR_n Ev.outR_0 Ev.retS_s Ev.retS_0 Ev.pureO_s Ev.pureO_0 Ev.topR_0 Ev.topR_t Ev.topR_t0 Ev.oneL_0 Ev.oneL_s Ev.topR_d Ev.topR_nils Ev.topR_agg Ev.topR_rs Ev.evOp_move Ev.evOp_assign Ev.evOp_pick Ev.evOp_alloc Ev.evOp_box Ev.evOp_build Ev.evOp_buildSlice Ev.evOp_load Ev.evOp_store Ev.evOp_makeMap Ev.evOp_lookup Ev.evOp_mapUpdate Ev.evOp_insert Ev.evOp_nilCheck Ev.evOp_binOp Ev.evOp_unOp Ev.evOp_convert Ev.evOp_makeFunc Ev.evOp_makeSlice Ev.evOp_slice Ev.evOp_fieldAddr Ev.evOp_field Ev.evOp_indexAddr Ev.evOp_index Ev.evOp_extract Ev.evOp_call Ev.evOp_append Ev.evOp_clear Ev.evOp_len Ev.evOp_min Ev.evOp_max Ev.condR_b Ev.condR_t Ev.evOps_nil Ev.evOps_plain Ev.evOps_guard Ev.runG_eq Ev.skipG_eq Ev.condL_tt Ev.condL_ff Ev.condL_tf Ev.condL_ft Ev.condL_u Ev.condC_t Ev.condC_f Ev.evC_skip Ev.evC_ret Ev.evC_exit Ev.evC_label Ev.evC_region Ev.evC_draw Ev.evC_seq Ev.evC_cond Ev.evC_block Ev.evC_loop Ev.fin_d Ev.fin_nils Ev.fin_agg_ Ev.fin_rs Ev.finS_s Ev.mapO_fin Ev.upd_upd Ev.argv_d Ev.argv_nils Ev.argv_agg Ev.argv_rs Ev.argv_p Ev.fk_low Ev.appendTo_nils Ev.appendTo_rs Ev.consV_d Ev.consV_agg Ev.consV_p Ev.consV_rs Ev.consV_nils Ev.consV_fn Ev.consV_und Ev.consV_jk Ev.consV_grown Ev.topR_grown Ev.len_grown Ev.consV_mp Ev.sameK_i Ev.sameK_s Ev.mget_0 Ev.mget_hit Ev.mget_miss Ev.mput_0 Ev.mput_hit Ev.mput_miss Ev.apartAll Ev.apartL Ev.apartV Ev.freeAll Ev.sel Ev.keyOfV Ev.evLookup Ev.evPut Ev.hintOk Ev.keyOk Ev.consP Ev.lookV Ev.guardV Ev.dstAt Ev.evPure Ev.evStore Ev.evBin Ev.evBinO Ev.evNil Ev.isNilC Ev.evUn Ev.evConv Ev.evSlice Ev.optI Ev.foldI Ev.capsOk Ev.noTup Ev.nth Ev.setN Ev.killAt Ev.pad Ev.V.get Ev.V.put Ev.putD Ev.newBlk Ev.upd Ev.keq Ev.empty Ev.evCall Ev.V.args Ev.argP Ev.callOf Ev.evNilP Ev.isNilP Ev.look Ev.V.view.views Ev.V.view Ev.V.toD Ev.V.toD.V.toDs Ev.V.pure.pures Ev.V.pure Ev.D.flat.flats Ev.D.flat Ev.mkAgg Ev.allD Ev.aggParts Ev.setParts Ev.setElems Ev.getPath Ev.setPath Ev.subL Ev.eqD Ev.eqD.eqDs Ev.and2 Ev.strCut Ev.evalT Ev.constT Ev.evArgs Ev.mask Ev.maskOf Ev.tableOf Ev.compT Ev.resV Ev.retV Ev.mapO Ev.frzO_n Ev.frzO_e Ev.frzO_r Ev.frzO_0 Ev.mb_z Ev.mb_0 Ev.mb_s Ev.frzL_t Ev.frzL_f Ev.frzL_0 Ev.frzT_nils Ev.frzT_rs Ev.frzT_p Ev.frzK_i Ev.keyIn_i Ev.rI_nil Ev.rI_cons Ev.rI_row Ev.rI_app Ev.r_d Ev.r_nils Ev.r_agg Ev.r_rs Ev.r_gl Ev.vw_row Ev.vw_app Ev.appO_s Ev.frzT_gl Ev.allD_gl Ev.killAt_i Ev.tkOne_i Ev.hT_agg Ev.hT_vagg Ev.hT_int Ev.hT_bool Ev.hT_str Ev.hT_sl Ev.hT_ptr Ev.hT_np Ev.hT_p Ev.hT_rs Ev.hT_mp Ev.hT_nils Ev.hT_fn Ev.hT_jk Ev.hT_gl Ev.eO_sl Ev.eO_nils Ev.eO_rs Ev.eT_sl Ev.eT_rs Ev.pL_str Ev.pL_sl Ev.pL_rs Ev.pL_nils Ev.pL_min Ev.pL_max Ev.len_glB Ev.noTup_gl Ev.rowV_len Ev.rowV_nil Ev.rowV_cons Ev.rowV_append Ev.rowV_set Ev.rowV_replicate Ev.nth_row Ev.row_take Ev.row_drop Ev.toDs_row Ev.fin_row Ev.map_row Ev.map_take_ Ev.map_drop_ Ev.Bk_i Ev.GlB_0 Ev.GlB_mk Ev.gl_nil Ev.gl_cons Ev.gl_snoc Ev.gl_setN Ev.appendTo_gl Ev.consV_gl Ev.elems_gl Ev.fin_gl Ev.view_gl Ev.argv_gl Ev.topR_gl Ev.sp_z Ev.sp_0 Ev.sp_s Ev.km_z Ev.km_0 Ev.km_s Ev.beq_toList Ev.nc0 Ev.bq_t Ev.bq_f Ev.bodyN Ev.le_maxRow Int.cast_ofNat_Int IntWalk.i64_in IntWalk.u64_in IntWalk.u8_in beq_self_eq_true Bool.true_beq Bool.false_beq Bool.and_true Bool.true_and Bool.false_and Bool.and_false Bool.and_self Bool.not_true Bool.not_false Bool.not_eq_true cond_true cond_false if_true if_false and_true true_and and_self decide_true decide_false Bool.or_true Bool.true_or Bool.or_false Bool.false_or List.isEmpty List.isEmpty_nil List.size_toArray List.map List.length_map List.length_cons List.length_nil Option.map Option.bind Option.getD Option.isSome List.replicate Bool.false_eq_true implies_true false_implies forall_const Array.toList Array.isEmpty List.append List.nil_append List.cons_append List.drop_zero List.take_length List.take_succ_cons List.take_zero List.take_nil List.getElem?_map List.getElem?_cons_zero List.getElem?_cons_succ List.getElem?_nil List.append_nil eq_self Int.toNat_natCast List.length_append Nat.zero_add Nat.add_zero List.length_replicate Nat.sub_zero Option.map_some Option.map_none Int.le_refl Nat.le_refl Int.natCast_nonneg List.map_append
noncomputable def G_bound_vague_Light (L : Nat) : Specs := [(213, s_bound_Norm_Light L)]
noncomputable def T_bound_vague_Light : Table := tableOf [(206, en206)]
theorem Go_bound_vague_Light (L : Nat) (hL : L ≤ 4611686018427387904) : ∀ g s, Ev.look (G_bound_vague_Light L) g = some s → SpecOk Try.prog g s := (specs_cons (ok_bound_Norm_Light L hL) specs_nil)
theorem To_bound_vague_Light (L : Nat) : TableOk Try.prog ((G_bound_vague_Light L).map (·.1)) T_bound_vague_Light := (table_cons Try.func206 (by kernel_rfl) (by kernel_rfl) table_nil)
theorem lk_bound_vague_Light_213 (L : Nat) : Ev.look (G_bound_vague_Light L) 213 = some (s_bound_Norm_Light L) := nr rfl
attribute [local go_sem] Ty.tk4 Ty.ub4 Ty.ek4 Ty.zv4 Ty.by4 Ty.so4 Ty.tk32 Ty.ik32 Ty.ek32 Ty.zv32 Ty.by32 Ty.so32 Ty.tk37 Ty.ct37 Ty.ek37 Ty.zv37 Ty.by37 Ty.so37 Ty.k37_e E.mk206_1000000 lk_bound_vague_Light_213 s_bound_Norm_Light_run loopN loops Try.f206
theorem e_bound_vague_Light (L : Nat) (hL : L ≤ 4611686018427387904) (a0_0 : Int) (a0_1 : Int) (a0_2 : Bool) (a1_0 : Int) (a1_1 : Int) (a1_2 : Bool) (res : Bool) (h : p_bound_vague_Light L a0_0 a0_1 a0_2 a1_0 a1_1 a1_2 = some res) : evTop Try.prog (G_bound_vague_Light L) T_bound_vague_Light L 1 206 [.agg 37 [.int .i64 a0_0, .int .i64 a0_1, .bool a0_2], .agg 37 [.int .i64 a1_0, .int .i64 a1_1, .bool a1_2]] = some [.bool res] := by
  revert h
  unfold p_bound_vague_Light evTop
  simp only [List.map]
  rw [evF_s (fn := Try.f206) (msk := en206.ms) (hT := by rfl) (hb := by rfl)]
  refine bnd_i fun r1 c1 => ?_
  refine cb_i (fun c2 => ?_) (fun c2 => ?_)
  · rintro ⟨⟩
    simp only [go_sem, Nat.reduceAdd, Nat.reduceSub, Nat.reduceMul, Nat.reduceEqDiff, Nat.reduceBEq, Nat.reduceLT, Nat.reduceLeDiff, Nat.reducePow, Int.reduceToNat, Int.reduceLT, Int.reduceLE, Int.reduceGT, Int.reduceGE, Int.reduceEq, Int.reduceNeg, Int.reduceAdd, Int.reduceSub, Int.reduceMul, ↓reduceIte, reduceCtorEq, *]
  · refine bnd_i fun r2 c3 => ?_
    rintro ⟨⟩
    simp only [go_sem, Nat.reduceAdd, Nat.reduceSub, Nat.reduceMul, Nat.reduceEqDiff, Nat.reduceBEq, Nat.reduceLT, Nat.reduceLeDiff, Nat.reducePow, Int.reduceToNat, Int.reduceLT, Int.reduceLE, Int.reduceGT, Int.reduceGE, Int.reduceEq, Int.reduceNeg, Int.reduceAdd, Int.reduceSub, Int.reduceMul, ↓reduceIte, reduceCtorEq, *]
noncomputable def s_bound_vague_Light (L : Nat) : Ev.Spec := specP (cCons k37 (cCons k37 cNil)) (fun x => p_bound_vague_Light L x.1.1 x.1.2.1 x.1.2.2.1 x.2.1.1 x.2.1.2.1 x.2.1.2.2.1) (fun r => [.bool r])
theorem s_bound_vague_Light_run (L : Nat) (a0_0 : Int) (a0_1 : Int) (a0_2 : Bool) (a1_0 : Int) (a1_1 : Int) (a1_2 : Bool) : (s_bound_vague_Light L).run [.agg 37 [.int .i64 a0_0, .int .i64 a0_1, .bool a0_2], .agg 37 [.int .i64 a1_0, .int .i64 a1_1, .bool a1_2]] = (p_bound_vague_Light L a0_0 a0_1 a0_2 a1_0 a1_1 a1_2).map fun r => [.bool r] := specP_run (cCons k37 (cCons k37 cNil)) (fun x => p_bound_vague_Light L x.1.1 x.1.2.1 x.1.2.2.1 x.2.1.1 x.2.1.2.1 x.2.1.2.2.1) (fun r => [.bool r]) ((a0_0, a0_1, a0_2, ()), (a1_0, a1_1, a1_2, ()), ())
theorem ok_bound_vague_Light (L : Nat) (hL : L ≤ 4611686018427387904) : SpecOk Try.prog 206 (s_bound_vague_Light L) := specP_ok mixed (Go_bound_vague_Light L hL) (To_bound_vague_Light L) fun x r h => ⟨L, 1, e_bound_vague_Light L hL x.1.1 x.1.2.1 x.1.2.2.1 x.2.1.1 x.2.1.2.1 x.2.1.2.2.1 r h⟩
end Go.Proofs.Ytnojehmbiceceaa.P
end
section
set_option linter.unusedVariables false
set_option linter.unusedSimpArgs false
set_option maxRecDepth 100000
namespace Go.Proofs.Ytnojehmbiceceaa.E
open Go.Ev
noncomputable def en209 : Entry := ⟨Try.f209, [(1000000, mb 13 0 [5, 6])]⟩
theorem mk209_1000000 (vs : List V) : mask (maskOf en209.ms 1000000) vs = km 13 0 [5, 6] vs := mask_mb _ _ _ _
end Go.Proofs.Ytnojehmbiceceaa.E
end
section
set_option linter.unusedVariables false
set_option linter.unusedSimpArgs false
set_option maxRecDepth 100000
namespace Go.Proofs.Ytnojehmbiceceaa.P
open Go.Ev Go.IntKind Go.Proofs.Ytnojehmbiceceaa Go.Proofs.Ytnojehmbiceceaa.Ty Go.Proofs.Ytnojehmbiceceaa.E
def p_bound_Mul_Light_1 (L : Nat) (a0 : Int) (a1 : Int) (a2 : Int) : Option (Int × Int) := bnd (p_num_MulDiv L a0 a1 a2) fun r1 => some (r1.1, r1.2)
attribute [local go_sem] Ev.putR_s Ev.putR_0 Ev.thenO_s Ev.thenO_0 Ev.seqR_n Ev.seqR_e Ev.seqR_r Ev.seqR_0 Ev.blkR_e Ev.blkR_n Ev.blkR_r Ev.blkR_0 Ev.normR_s Ev.normR_0 Ev.outR_r Ev.outR_n Ev.outR_0 Ev.retS_s Ev.retS_0 Ev.pureO_s Ev.pureO_0 Ev.topR_0 Ev.topR_t Ev.topR_t0 Ev.oneL_0 Ev.oneL_s Ev.topR_d Ev.topR_nils Ev.topR_agg Ev.topR_rs Ev.evOp_move Ev.evOp_assign Ev.evOp_pick Ev.evOp_alloc Ev.evOp_box Ev.evOp_build Ev.evOp_buildSlice Ev.evOp_load Ev.evOp_store Ev.evOp_makeMap Ev.evOp_lookup Ev.evOp_mapUpdate Ev.evOp_insert Ev.evOp_nilCheck Ev.evOp_binOp Ev.evOp_unOp Ev.evOp_convert Ev.evOp_makeFunc Ev.evOp_makeSlice Ev.evOp_slice Ev.evOp_fieldAddr Ev.evOp_field Ev.evOp_indexAddr Ev.evOp_index Ev.evOp_extract Ev.evOp_call Ev.evOp_append Ev.evOp_clear Ev.evOp_len Ev.evOp_min Ev.evOp_max Ev.condR_b Ev.condR_t Ev.evOps_nil Ev.evOps_plain Ev.evOps_guard Ev.runG_eq Ev.skipG_eq Ev.condL_tt Ev.condL_ff Ev.condL_tf Ev.condL_ft Ev.condL_u Ev.condC_t Ev.condC_f Ev.evC_skip Ev.evC_ret Ev.evC_exit Ev.evC_label Ev.evC_region Ev.evC_draw Ev.evC_seq Ev.evC_cond Ev.evC_block Ev.evC_loop Ev.fin_d Ev.fin_nils Ev.fin_agg_ Ev.fin_rs Ev.finS_s Ev.mapO_fin Ev.upd_upd Ev.argv_d Ev.argv_nils Ev.argv_agg Ev.argv_rs Ev.argv_p Ev.fk_low Ev.appendTo_nils Ev.appendTo_rs Ev.consV_d Ev.consV_agg Ev.consV_p Ev.consV_rs Ev.consV_nils Ev.consV_fn Ev.consV_und Ev.consV_jk Ev.consV_grown Ev.topR_grown Ev.len_grown Ev.consV_mp Ev.sameK_i Ev.sameK_s Ev.mget_0 Ev.mget_hit Ev.mget_miss Ev.mput_0 Ev.mput_hit Ev.mput_miss Ev.apartAll Ev.apartL Ev.apartV Ev.freeAll Ev.sel Ev.keyOfV Ev.evLookup Ev.evPut Ev.hintOk Ev.keyOk Ev.consP Ev.lookV Ev.guardV Ev.dstAt Ev.evPure Ev.evStore Ev.evBin Ev.evBinO Ev.evNil Ev.isNilC Ev.evUn Ev.evConv Ev.evSlice Ev.optI Ev.foldI Ev.capsOk Ev.noTup Ev.nth Ev.setN Ev.killAt Ev.pad Ev.V.get Ev.V.put Ev.putD Ev.newBlk Ev.upd Ev.keq Ev.empty Ev.evCall Ev.V.args Ev.argP Ev.callOf Ev.evNilP Ev.isNilP Ev.look Ev.V.view.views Ev.V.view Ev.V.toD Ev.V.toD.V.toDs Ev.V.pure.pures Ev.V.pure Ev.D.flat.flats Ev.D.flat Ev.mkAgg Ev.allD Ev.aggParts Ev.setParts Ev.setElems Ev.getPath Ev.setPath Ev.subL Ev.eqD Ev.eqD.eqDs Ev.and2 Ev.strCut Ev.evalT Ev.constT Ev.evArgs Ev.mask Ev.maskOf Ev.tableOf Ev.compT Ev.resV Ev.retV Ev.mapO Ev.frzO_n Ev.frzO_e Ev.frzO_r Ev.frzO_0 Ev.mb_z Ev.mb_0 Ev.mb_s Ev.frzL_t Ev.frzL_f Ev.frzL_0 Ev.frzT_nils Ev.frzT_rs Ev.frzT_p Ev.frzK_i Ev.keyIn_i Ev.rI_nil Ev.rI_cons Ev.rI_row Ev.rI_app Ev.r_d Ev.r_nils Ev.r_agg Ev.r_rs Ev.r_gl Ev.vw_row Ev.vw_app Ev.appO_s Ev.frzT_gl Ev.allD_gl Ev.killAt_i Ev.tkOne_i Ev.hT_agg Ev.hT_vagg Ev.hT_int Ev.hT_bool Ev.hT_str Ev.hT_sl Ev.hT_ptr Ev.hT_np Ev.hT_p Ev.hT_rs Ev.hT_mp Ev.hT_nils Ev.hT_fn Ev.hT_jk Ev.hT_gl Ev.eO_sl Ev.eO_nils Ev.eO_rs Ev.eT_sl Ev.eT_rs Ev.pL_str Ev.pL_sl Ev.pL_rs Ev.pL_nils Ev.pL_min Ev.pL_max Ev.len_glB Ev.noTup_gl Ev.rowV_len Ev.rowV_nil Ev.rowV_cons Ev.rowV_append Ev.rowV_set Ev.rowV_replicate Ev.nth_row Ev.row_take Ev.row_drop Ev.toDs_row Ev.fin_row Ev.map_row Ev.map_take_ Ev.map_drop_ Ev.Bk_i Ev.GlB_0 Ev.GlB_mk Ev.gl_nil Ev.gl_cons Ev.gl_snoc Ev.gl_setN Ev.appendTo_gl Ev.consV_gl Ev.elems_gl Ev.fin_gl Ev.view_gl Ev.argv_gl Ev.topR_gl Ev.sp_z Ev.sp_0 Ev.sp_s Ev.km_z Ev.km_0 Ev.km_s Ev.beq_toList Ev.nc0 Ev.bq_t Ev.bq_f Ev.bodyN Ev.le_maxRow Int.cast_ofNat_Int IntWalk.i64_in IntWalk.u64_in IntWalk.u8_in beq_self_eq_true Bool.true_beq Bool.false_beq Bool.and_true Bool.true_and Bool.false_and Bool.and_false Bool.and_self Bool.not_true Bool.not_false Bool.not_eq_true cond_true cond_false if_true if_false and_true true_and and_self decide_true decide_false Bool.or_true Bool.true_or Bool.or_false Bool.false_or List.isEmpty List.isEmpty_nil List.size_toArray List.map List.length_map List.length_cons List.length_nil Option.map Option.bind Option.getD Option.isSome List.replicate Bool.false_eq_true implies_true false_implies forall_const Array.toList Array.isEmpty List.append List.nil_append List.cons_append List.drop_zero List.take_length List.take_succ_cons List.take_zero List.take_nil List.getElem?_map List.getElem?_cons_zero List.getElem?_cons_succ List.getElem?_nil List.append_nil eq_self Int.toNat_natCast List.length_append Nat.zero_add Nat.add_zero List.length_replicate Nat.sub_zero Option.map_some Option.map_none Int.le_refl Nat.le_refl Int.natCast_nonneg List.map_append
noncomputable def G_bound_Mul_Light_1 (L : Nat) : Specs := [(66, s_num_MulDiv L)]
noncomputable def T_bound_Mul_Light_1 : Table := tableOf [(209, en209)]
theorem Go_bound_Mul_Light_1 (L : Nat) (hL : L ≤ 4611686018427387904) : ∀ g s, Ev.look (G_bound_Mul_Light_1 L) g = some s → SpecOk Try.prog g s := (specs_cons (ok_num_MulDiv L hL) specs_nil)
theorem To_bound_Mul_Light_1 (L : Nat) : TableOk Try.prog ((G_bound_Mul_Light_1 L).map (·.1)) T_bound_Mul_Light_1 := (table_cons Try.func209 (by kernel_rfl) (by kernel_rfl) table_nil)
theorem lk_bound_Mul_Light_1_66 (L : Nat) : Ev.look (G_bound_Mul_Light_1 L) 66 = some (s_num_MulDiv L) := nr rfl
attribute [local go_sem] Ty.tk2 Ty.ik2 Ty.ek2 Ty.zv2 Ty.by2 Ty.so2 Ty.tk27 Ty.ik27 Ty.ek27 Ty.zv27 Ty.by27 Ty.so27 E.mk209_1000000 lk_bound_Mul_Light_1_66 s_num_MulDiv_run loopN loops Try.f209
theorem e_bound_Mul_Light_1 (L : Nat) (hL : L ≤ 4611686018427387904) (a0 : Int) (a1 : Int) (a2 : Int) (res : Int × Int) (h : p_bound_Mul_Light_1 L a0 a1 a2 = some res) : evTop Try.prog (G_bound_Mul_Light_1 L) T_bound_Mul_Light_1 L 1 209 [.int .i64 a0, .int .i64 a1, .ptr (.int .i64 a2)] = some [.int .i64 res.1, .int .i64 res.2] := by
  revert h
  unfold p_bound_Mul_Light_1 evTop
  simp only [List.map]
  rw [evF_s (fn := Try.f209) (msk := en209.ms) (hT := by rfl) (hb := by rfl)]
  refine bnd_i fun r1 c1 => ?_
  rintro ⟨⟩
  simp only [go_sem, Nat.reduceAdd, Nat.reduceSub, Nat.reduceMul, Nat.reduceEqDiff, Nat.reduceBEq, Nat.reduceLT, Nat.reduceLeDiff, Nat.reducePow, Int.reduceToNat, Int.reduceLT, Int.reduceLE, Int.reduceGT, Int.reduceGE, Int.reduceEq, Int.reduceNeg, Int.reduceAdd, Int.reduceSub, Int.reduceMul, ↓reduceIte, reduceCtorEq, *]
noncomputable def s_bound_Mul_Light_1 (L : Nat) : Ev.Spec := specP (cCons (cI .i64) (cCons (cI .i64) (cCons (cP (cI .i64)) cNil))) (fun x => p_bound_Mul_Light_1 L x.1 x.2.1 x.2.2.1) (fun r => [.int .i64 r.1, .int .i64 r.2])
theorem s_bound_Mul_Light_1_run (L : Nat) (a0 : Int) (a1 : Int) (a2 : Int) : (s_bound_Mul_Light_1 L).run [.int .i64 a0, .int .i64 a1, .ptr (.int .i64 a2)] = (p_bound_Mul_Light_1 L a0 a1 a2).map fun r => [.int .i64 r.1, .int .i64 r.2] := specP_run (cCons (cI .i64) (cCons (cI .i64) (cCons (cP (cI .i64)) cNil))) (fun x => p_bound_Mul_Light_1 L x.1 x.2.1 x.2.2.1) (fun r => [.int .i64 r.1, .int .i64 r.2]) (a0, a1, a2, ())
theorem ok_bound_Mul_Light_1 (L : Nat) (hL : L ≤ 4611686018427387904) : SpecOk Try.prog 209 (s_bound_Mul_Light_1 L) := specP_ok mixed (Go_bound_Mul_Light_1 L hL) (To_bound_Mul_Light_1 L) fun x r h => ⟨L, 1, e_bound_Mul_Light_1 L hL x.1 x.2.1 x.2.2.1 r h⟩
end Go.Proofs.Ytnojehmbiceceaa.P
end
section
set_option linter.unusedVariables false
set_option linter.unusedSimpArgs false
set_option maxRecDepth 100000
namespace Go.Proofs.Ytnojehmbiceceaa.E
open Go.Ev
noncomputable def en210 : Entry := ⟨Try.f210, [(1000000, mb 13 0 [5, 6])]⟩
theorem mk210_1000000 (vs : List V) : mask (maskOf en210.ms 1000000) vs = km 13 0 [5, 6] vs := mask_mb _ _ _ _
end Go.Proofs.Ytnojehmbiceceaa.E
end
section
set_option linter.unusedVariables false
set_option linter.unusedSimpArgs false
set_option maxRecDepth 100000
namespace Go.Proofs.Ytnojehmbiceceaa.E
open Go.Ev
noncomputable def en79 : Entry := ⟨Try.f79, [(1000000, mb 34 0 [6, 7])]⟩
theorem mk79_1000000 (vs : List V) : mask (maskOf en79.ms 1000000) vs = km 34 0 [6, 7] vs := mask_mb _ _ _ _
end Go.Proofs.Ytnojehmbiceceaa.E
end
section
set_option linter.unusedVariables false
set_option linter.unusedSimpArgs false
set_option maxRecDepth 100000
namespace Go.Proofs.Ytnojehmbiceceaa.E
open Go.Ev
noncomputable def en168 : Entry := ⟨Try.f168, [(1000000, mb 43 0 [4])]⟩
theorem dw168_6 (lv : Nat) (env : List V) (st : Store) (o : Option (List V × Store)) : drawR en168.ms 6 lv env st o = if lv < 1000000000000000000000000000000 then (o) else none := nr rfl
theorem kl168_6 (lv : Nat) (st : Store) : killR en168.ms 6 lv st = st := nr rfl
theorem nc168_6 : ncOf en168.ms 6 = false := nr rfl
theorem mk168_1000000 (vs : List V) : mask (maskOf en168.ms 1000000) vs = km 43 0 [4] vs := mask_mb _ _ _ _
end Go.Proofs.Ytnojehmbiceceaa.E
end
section
set_option linter.unusedVariables false
set_option linter.unusedSimpArgs false
set_option maxRecDepth 100000
namespace Go.Proofs.Ytnojehmbiceceaa.P
open Go.Ev Go.IntKind Go.Proofs.Ytnojehmbiceceaa Go.Proofs.Ytnojehmbiceceaa.Ty Go.Proofs.Ytnojehmbiceceaa.E
def p_num_Wide_Mod (L : Nat) (a0_0 : Int) (a0_1 : Int) (a1 : Int) : Option Int := if a1 < 1 then (some 0) else (if a0_0 < 0 then (bnd (p_num_Wide_Neg L a0_0 a0_1) fun r1 => rq (¬ (u64.wrap a1) = 0) <| bnd (p_bits_Div64 L ((u64.wrap r1.1).tmod (u64.wrap a1)) r1.2 (u64.wrap a1)) fun r2 => if r2.2 > 0 then (some (i64.wrap (u64.wrap ((u64.wrap a1) - r2.2)))) else (some (i64.wrap r2.2))) else (rq (¬ (u64.wrap a1) = 0) <| bnd (p_bits_Div64 L ((u64.wrap a0_0).tmod (u64.wrap a1)) a0_1 (u64.wrap a1)) fun r3 => some (i64.wrap r3.2)))
attribute [local go_sem] Ev.putR_s Ev.putR_0 Ev.thenO_s Ev.thenO_0 Ev.seqR_n Ev.seqR_e Ev.seqR_r Ev.seqR_0 Ev.blkR_e Ev.blkR_n Ev.blkR_r Ev.blkR_0 Ev.normR_s Ev.normR_0 Ev.outR_r Ev.outR_n Ev.outR_0 Ev.retS_s Ev.retS_0 Ev.pureO_s Ev.pureO_0 Ev.topR_0 Ev.topR_t Ev.topR_t0 Ev.oneL_0 Ev.oneL_s Ev.topR_d Ev.topR_nils Ev.topR_agg Ev.topR_rs Ev.evOp_move Ev.evOp_assign Ev.evOp_pick Ev.evOp_alloc Ev.evOp_box Ev.evOp_build Ev.evOp_buildSlice Ev.evOp_load Ev.evOp_store Ev.evOp_makeMap Ev.evOp_lookup Ev.evOp_mapUpdate Ev.evOp_insert Ev.evOp_nilCheck Ev.evOp_binOp Ev.evOp_unOp Ev.evOp_convert Ev.evOp_makeFunc Ev.evOp_makeSlice Ev.evOp_slice Ev.evOp_fieldAddr Ev.evOp_field Ev.evOp_indexAddr Ev.evOp_index Ev.evOp_extract Ev.evOp_call Ev.evOp_append Ev.evOp_clear Ev.evOp_len Ev.evOp_min Ev.evOp_max Ev.condR_b Ev.condR_t Ev.evOps_nil Ev.evOps_plain Ev.evOps_guard Ev.runG_eq Ev.skipG_eq Ev.condL_tt Ev.condL_ff Ev.condL_tf Ev.condL_ft Ev.condL_u Ev.condC_t Ev.condC_f Ev.evC_skip Ev.evC_ret Ev.evC_exit Ev.evC_label Ev.evC_region Ev.evC_draw Ev.evC_seq Ev.evC_cond Ev.evC_block Ev.evC_loop Ev.fin_d Ev.fin_nils Ev.fin_agg_ Ev.fin_rs Ev.finS_s Ev.mapO_fin Ev.upd_upd Ev.argv_d Ev.argv_nils Ev.argv_agg Ev.argv_rs Ev.argv_p Ev.fk_low Ev.appendTo_nils Ev.appendTo_rs Ev.consV_d Ev.consV_agg Ev.consV_p Ev.consV_rs Ev.consV_nils Ev.consV_fn Ev.consV_und Ev.consV_jk Ev.consV_grown Ev.topR_grown Ev.len_grown Ev.consV_mp Ev.sameK_i Ev.sameK_s Ev.mget_0 Ev.mget_hit Ev.mget_miss Ev.mput_0 Ev.mput_hit Ev.mput_miss Ev.apartAll Ev.apartL Ev.apartV Ev.freeAll Ev.sel Ev.keyOfV Ev.evLookup Ev.evPut Ev.hintOk Ev.keyOk Ev.consP Ev.lookV Ev.guardV Ev.dstAt Ev.evPure Ev.evStore Ev.evBin Ev.evBinO Ev.evNil Ev.isNilC Ev.evUn Ev.evConv Ev.evSlice Ev.optI Ev.foldI Ev.capsOk Ev.noTup Ev.nth Ev.setN Ev.killAt Ev.pad Ev.V.get Ev.V.put Ev.putD Ev.newBlk Ev.upd Ev.keq Ev.empty Ev.evCall Ev.V.args Ev.argP Ev.callOf Ev.evNilP Ev.isNilP Ev.look Ev.V.view.views Ev.V.view Ev.V.toD Ev.V.toD.V.toDs Ev.V.pure.pures Ev.V.pure Ev.D.flat.flats Ev.D.flat Ev.mkAgg Ev.allD Ev.aggParts Ev.setParts Ev.setElems Ev.getPath Ev.setPath Ev.subL Ev.eqD Ev.eqD.eqDs Ev.and2 Ev.strCut Ev.evalT Ev.constT Ev.evArgs Ev.mask Ev.maskOf Ev.tableOf Ev.compT Ev.resV Ev.retV Ev.mapO Ev.frzO_n Ev.frzO_e Ev.frzO_r Ev.frzO_0 Ev.mb_z Ev.mb_0 Ev.mb_s Ev.frzL_t Ev.frzL_f Ev.frzL_0 Ev.frzT_nils Ev.frzT_rs Ev.frzT_p Ev.frzK_i Ev.keyIn_i Ev.rI_nil Ev.rI_cons Ev.rI_row Ev.rI_app Ev.r_d Ev.r_nils Ev.r_agg Ev.r_rs Ev.r_gl Ev.vw_row Ev.vw_app Ev.appO_s Ev.frzT_gl Ev.allD_gl Ev.killAt_i Ev.tkOne_i Ev.hT_agg Ev.hT_vagg Ev.hT_int Ev.hT_bool Ev.hT_str Ev.hT_sl Ev.hT_ptr Ev.hT_np Ev.hT_p Ev.hT_rs Ev.hT_mp Ev.hT_nils Ev.hT_fn Ev.hT_jk Ev.hT_gl Ev.eO_sl Ev.eO_nils Ev.eO_rs Ev.eT_sl Ev.eT_rs Ev.pL_str Ev.pL_sl Ev.pL_rs Ev.pL_nils Ev.pL_min Ev.pL_max Ev.len_glB Ev.noTup_gl Ev.rowV_len Ev.rowV_nil Ev.rowV_cons Ev.rowV_append Ev.rowV_set Ev.rowV_replicate Ev.nth_row Ev.row_take Ev.row_drop Ev.toDs_row Ev.fin_row Ev.map_row Ev.map_take_ Ev.map_drop_ Ev.Bk_i Ev.GlB_0 Ev.GlB_mk Ev.gl_nil Ev.gl_cons Ev.gl_snoc Ev.gl_setN Ev.appendTo_gl Ev.consV_gl Ev.elems_gl Ev.fin_gl Ev.view_gl Ev.argv_gl Ev.topR_gl Ev.sp_z Ev.sp_0 Ev.sp_s Ev.km_z Ev.km_0 Ev.km_s Ev.beq_toList Ev.nc0 Ev.bq_t Ev.bq_f Ev.bodyN Ev.le_maxRow Int.cast_ofNat_Int IntWalk.i64_in IntWalk.u64_in IntWalk.u8_in beq_self_eq_true Bool.true_beq Bool.false_beq Bool.and_true Bool.true_and Bool.false_and Bool.and_false Bool.and_self Bool.not_true Bool.not_false Bool.not_eq_true cond_true cond_false if_true if_false and_true true_and and_self decide_true decide_false Bool.or_true Bool.true_or Bool.or_false Bool.false_or List.isEmpty List.isEmpty_nil List.size_toArray List.map List.length_map List.length_cons List.length_nil Option.map Option.bind Option.getD Option.isSome List.replicate Bool.false_eq_true implies_true false_implies forall_const Array.toList Array.isEmpty List.append List.nil_append List.cons_append List.drop_zero List.take_length List.take_succ_cons List.take_zero List.take_nil List.getElem?_map List.getElem?_cons_zero List.getElem?_cons_succ List.getElem?_nil List.append_nil eq_self Int.toNat_natCast List.length_append Nat.zero_add Nat.add_zero List.length_replicate Nat.sub_zero Option.map_some Option.map_none Int.le_refl Nat.le_refl Int.natCast_nonneg List.map_append
noncomputable def G_num_Wide_Mod (L : Nat) : Specs := [(183, s_num_Wide_Neg L), (203, s_bits_Div64 L)]
noncomputable def T_num_Wide_Mod : Table := tableOf [(168, en168)]
theorem Go_num_Wide_Mod (L : Nat) (hL : L ≤ 4611686018427387904) : ∀ g s, Ev.look (G_num_Wide_Mod L) g = some s → SpecOk Try.prog g s := (specs_cons (ok_num_Wide_Neg L hL) (specs_cons (ok_bits_Div64 L hL) specs_nil))
theorem To_num_Wide_Mod (L : Nat) : TableOk Try.prog ((G_num_Wide_Mod L).map (·.1)) T_num_Wide_Mod := (table_cons Try.func168 (by kernel_rfl) (by kernel_rfl) table_nil)
theorem lk_num_Wide_Mod_183 (L : Nat) : Ev.look (G_num_Wide_Mod L) 183 = some (s_num_Wide_Neg L) := nr rfl
theorem lk_num_Wide_Mod_203 (L : Nat) : Ev.look (G_num_Wide_Mod L) 203 = some (s_bits_Div64 L) := nr rfl
attribute [local go_sem] Ty.tk2 Ty.ik2 Ty.ek2 Ty.zv2 Ty.by2 Ty.so2 Ty.tk4 Ty.ub4 Ty.ek4 Ty.zv4 Ty.by4 Ty.so4 Ty.tk133 Ty.ik133 Ty.ek133 Ty.zv133 Ty.by133 Ty.so133 Ty.tk176 Ty.ct176 Ty.ek176 Ty.zv176 Ty.by176 Ty.so176 Ty.k176_e E.dw168_6 E.kl168_6 E.nc168_6 E.mk168_1000000 lk_num_Wide_Mod_183 lk_num_Wide_Mod_203 s_num_Wide_Neg_run s_bits_Div64_run loopN loops Try.f168
theorem e_num_Wide_Mod (L : Nat) (hL : L ≤ 4611686018427387904) (a0_0 : Int) (a0_1 : Int) (a1 : Int) (res : Int) (h : p_num_Wide_Mod L a0_0 a0_1 a1 = some res) : evTop Try.prog (G_num_Wide_Mod L) T_num_Wide_Mod L 1 168 [.agg 176 [.int .i64 a0_0, .int .u64 a0_1], .int .i64 a1] = some [.int .i64 res] := by
  revert h
  unfold p_num_Wide_Mod evTop
  simp only [List.map]
  rw [evF_s (fn := Try.f168) (msk := en168.ms) (hT := by rfl) (hb := by rfl)]
  refine ite_i (fun c1 => ?_) (fun c1 => ?_)
  · rintro ⟨⟩
    simp only [go_sem, Nat.reduceAdd, Nat.reduceSub, Nat.reduceMul, Nat.reduceEqDiff, Nat.reduceBEq, Nat.reduceLT, Nat.reduceLeDiff, Nat.reducePow, Int.reduceToNat, Int.reduceLT, Int.reduceLE, Int.reduceGT, Int.reduceGE, Int.reduceEq, Int.reduceNeg, Int.reduceAdd, Int.reduceSub, Int.reduceMul, ↓reduceIte, reduceCtorEq, *]
  · refine ite_i (fun c2 => ?_) (fun c2 => ?_)
    · refine bnd_i fun r1 c3 => ?_
      refine rq_i fun c4 => ?_
      refine bnd_i fun r2 c5 => ?_
      refine ite_i (fun c6 => ?_) (fun c6 => ?_)
      · rintro ⟨⟩
        simp only [go_sem, Nat.reduceAdd, Nat.reduceSub, Nat.reduceMul, Nat.reduceEqDiff, Nat.reduceBEq, Nat.reduceLT, Nat.reduceLeDiff, Nat.reducePow, Int.reduceToNat, Int.reduceLT, Int.reduceLE, Int.reduceGT, Int.reduceGE, Int.reduceEq, Int.reduceNeg, Int.reduceAdd, Int.reduceSub, Int.reduceMul, ↓reduceIte, reduceCtorEq, *]
      · rintro ⟨⟩
        simp only [go_sem, Nat.reduceAdd, Nat.reduceSub, Nat.reduceMul, Nat.reduceEqDiff, Nat.reduceBEq, Nat.reduceLT, Nat.reduceLeDiff, Nat.reducePow, Int.reduceToNat, Int.reduceLT, Int.reduceLE, Int.reduceGT, Int.reduceGE, Int.reduceEq, Int.reduceNeg, Int.reduceAdd, Int.reduceSub, Int.reduceMul, ↓reduceIte, reduceCtorEq, *]
    · refine rq_i fun c7 => ?_
      refine bnd_i fun r3 c8 => ?_
      rintro ⟨⟩
      simp only [go_sem, Nat.reduceAdd, Nat.reduceSub, Nat.reduceMul, Nat.reduceEqDiff, Nat.reduceBEq, Nat.reduceLT, Nat.reduceLeDiff, Nat.reducePow, Int.reduceToNat, Int.reduceLT, Int.reduceLE, Int.reduceGT, Int.reduceGE, Int.reduceEq, Int.reduceNeg, Int.reduceAdd, Int.reduceSub, Int.reduceMul, ↓reduceIte, reduceCtorEq, *]
noncomputable def s_num_Wide_Mod (L : Nat) : Ev.Spec := specP (cCons k176 (cCons (cI .i64) cNil)) (fun x => p_num_Wide_Mod L x.1.1 x.1.2.1 x.2.1) (fun r => [.int .i64 r])
theorem s_num_Wide_Mod_run (L : Nat) (a0_0 : Int) (a0_1 : Int) (a1 : Int) : (s_num_Wide_Mod L).run [.agg 176 [.int .i64 a0_0, .int .u64 a0_1], .int .i64 a1] = (p_num_Wide_Mod L a0_0 a0_1 a1).map fun r => [.int .i64 r] := specP_run (cCons k176 (cCons (cI .i64) cNil)) (fun x => p_num_Wide_Mod L x.1.1 x.1.2.1 x.2.1) (fun r => [.int .i64 r]) ((a0_0, a0_1, ()), a1, ())
theorem ok_num_Wide_Mod (L : Nat) (hL : L ≤ 4611686018427387904) : SpecOk Try.prog 168 (s_num_Wide_Mod L) := specP_ok mixed (Go_num_Wide_Mod L hL) (To_num_Wide_Mod L) fun x r h => ⟨L, 1, e_num_Wide_Mod L hL x.1.1 x.1.2.1 x.2.1 r h⟩
end Go.Proofs.Ytnojehmbiceceaa.P
end
section
set_option linter.unusedVariables false
set_option linter.unusedSimpArgs false
set_option maxRecDepth 100000
namespace Go.Proofs.Ytnojehmbiceceaa.P
open Go.Ev Go.IntKind Go.Proofs.Ytnojehmbiceceaa Go.Proofs.Ytnojehmbiceceaa.Ty Go.Proofs.Ytnojehmbiceceaa.E
def p_num_MulDivUp (L : Nat) (a0 : Int) (a1 : Int) (a2 : Int) : Option (Int × Int) := bnd (p_num_Product L a0 a1) fun r1 => bnd (p_num_Wide_Div L r1.1 r1.2 a2) fun r2 => cb (decide (r2.2 = 0)) (bnd (p_num_Wide_Mod L r1.1 r1.2 a2) fun r3 => cb (decide (r3 = 0)) (some (r2.1, r2.2)) (cb (decide (r2.1 = 9223372036854775807)) (some (0, 2)) (some ((i64.wrap (r2.1 + 1)), 0)))) (some (r2.1, r2.2))
attribute [local go_sem] Ev.putR_s Ev.putR_0 Ev.thenO_s Ev.thenO_0 Ev.seqR_n Ev.seqR_e Ev.seqR_r Ev.seqR_0 Ev.blkR_e Ev.blkR_n Ev.blkR_r Ev.blkR_0 Ev.normR_s Ev.normR_0 Ev.outR_r Ev.outR_n Ev.outR_0 Ev.retS_s Ev.retS_0 Ev.pureO_s Ev.pureO_0 Ev.topR_0 Ev.topR_t Ev.topR_t0 Ev.oneL_0 Ev.oneL_s Ev.topR_d Ev.topR_nils Ev.topR_agg Ev.topR_rs Ev.evOp_move Ev.evOp_assign Ev.evOp_pick Ev.evOp_alloc Ev.evOp_box Ev.evOp_build Ev.evOp_buildSlice Ev.evOp_load Ev.evOp_store Ev.evOp_makeMap Ev.evOp_lookup Ev.evOp_mapUpdate Ev.evOp_insert Ev.evOp_nilCheck Ev.evOp_binOp Ev.evOp_unOp Ev.evOp_convert Ev.evOp_makeFunc Ev.evOp_makeSlice Ev.evOp_slice Ev.evOp_fieldAddr Ev.evOp_field Ev.evOp_indexAddr Ev.evOp_index Ev.evOp_extract Ev.evOp_call Ev.evOp_append Ev.evOp_clear Ev.evOp_len Ev.evOp_min Ev.evOp_max Ev.condR_b Ev.condR_t Ev.evOps_nil Ev.evOps_plain Ev.evOps_guard Ev.runG_eq Ev.skipG_eq Ev.condL_tt Ev.condL_ff Ev.condL_tf Ev.condL_ft Ev.condL_u Ev.condC_t Ev.condC_f Ev.evC_skip Ev.evC_ret Ev.evC_exit Ev.evC_label Ev.evC_region Ev.evC_draw Ev.evC_seq Ev.evC_cond Ev.evC_block Ev.evC_loop Ev.fin_d Ev.fin_nils Ev.fin_agg_ Ev.fin_rs Ev.finS_s Ev.mapO_fin Ev.upd_upd Ev.argv_d Ev.argv_nils Ev.argv_agg Ev.argv_rs Ev.argv_p Ev.fk_low Ev.appendTo_nils Ev.appendTo_rs Ev.consV_d Ev.consV_agg Ev.consV_p Ev.consV_rs Ev.consV_nils Ev.consV_fn Ev.consV_und Ev.consV_jk Ev.consV_grown Ev.topR_grown Ev.len_grown Ev.consV_mp Ev.sameK_i Ev.sameK_s Ev.mget_0 Ev.mget_hit Ev.mget_miss Ev.mput_0 Ev.mput_hit Ev.mput_miss Ev.apartAll Ev.apartL Ev.apartV Ev.freeAll Ev.sel Ev.keyOfV Ev.evLookup Ev.evPut Ev.hintOk Ev.keyOk Ev.consP Ev.lookV Ev.guardV Ev.dstAt Ev.evPure Ev.evStore Ev.evBin Ev.evBinO Ev.evNil Ev.isNilC Ev.evUn Ev.evConv Ev.evSlice Ev.optI Ev.foldI Ev.capsOk Ev.noTup Ev.nth Ev.setN Ev.killAt Ev.pad Ev.V.get Ev.V.put Ev.putD Ev.newBlk Ev.upd Ev.keq Ev.empty Ev.evCall Ev.V.args Ev.argP Ev.callOf Ev.evNilP Ev.isNilP Ev.look Ev.V.view.views Ev.V.view Ev.V.toD Ev.V.toD.V.toDs Ev.V.pure.pures Ev.V.pure Ev.D.flat.flats Ev.D.flat Ev.mkAgg Ev.allD Ev.aggParts Ev.setParts Ev.setElems Ev.getPath Ev.setPath Ev.subL Ev.eqD Ev.eqD.eqDs Ev.and2 Ev.strCut Ev.evalT Ev.constT Ev.evArgs Ev.mask Ev.maskOf Ev.tableOf Ev.compT Ev.resV Ev.retV Ev.mapO Ev.frzO_n Ev.frzO_e Ev.frzO_r Ev.frzO_0 Ev.mb_z Ev.mb_0 Ev.mb_s Ev.frzL_t Ev.frzL_f Ev.frzL_0 Ev.frzT_nils Ev.frzT_rs Ev.frzT_p Ev.frzK_i Ev.keyIn_i Ev.rI_nil Ev.rI_cons Ev.rI_row Ev.rI_app Ev.r_d Ev.r_nils Ev.r_agg Ev.r_rs Ev.r_gl Ev.vw_row Ev.vw_app Ev.appO_s Ev.frzT_gl Ev.allD_gl Ev.killAt_i Ev.tkOne_i Ev.hT_agg Ev.hT_vagg Ev.hT_int Ev.hT_bool Ev.hT_str Ev.hT_sl Ev.hT_ptr Ev.hT_np Ev.hT_p Ev.hT_rs Ev.hT_mp Ev.hT_nils Ev.hT_fn Ev.hT_jk Ev.hT_gl Ev.eO_sl Ev.eO_nils Ev.eO_rs Ev.eT_sl Ev.eT_rs Ev.pL_str Ev.pL_sl Ev.pL_rs Ev.pL_nils Ev.pL_min Ev.pL_max Ev.len_glB Ev.noTup_gl Ev.rowV_len Ev.rowV_nil Ev.rowV_cons Ev.rowV_append Ev.rowV_set Ev.rowV_replicate Ev.nth_row Ev.row_take Ev.row_drop Ev.toDs_row Ev.fin_row Ev.map_row Ev.map_take_ Ev.map_drop_ Ev.Bk_i Ev.GlB_0 Ev.GlB_mk Ev.gl_nil Ev.gl_cons Ev.gl_snoc Ev.gl_setN Ev.appendTo_gl Ev.consV_gl Ev.elems_gl Ev.fin_gl Ev.view_gl Ev.argv_gl Ev.topR_gl Ev.sp_z Ev.sp_0 Ev.sp_s Ev.km_z Ev.km_0 Ev.km_s Ev.beq_toList Ev.nc0 Ev.bq_t Ev.bq_f Ev.bodyN Ev.le_maxRow Int.cast_ofNat_Int IntWalk.i64_in IntWalk.u64_in IntWalk.u8_in beq_self_eq_true Bool.true_beq Bool.false_beq Bool.and_true Bool.true_and Bool.false_and Bool.and_false Bool.and_self Bool.not_true Bool.not_false Bool.not_eq_true cond_true cond_false if_true if_false and_true true_and and_self decide_true decide_false Bool.or_true Bool.true_or Bool.or_false Bool.false_or List.isEmpty List.isEmpty_nil List.size_toArray List.map List.length_map List.length_cons List.length_nil Option.map Option.bind Option.getD Option.isSome List.replicate Bool.false_eq_true implies_true false_implies forall_const Array.toList Array.isEmpty List.append List.nil_append List.cons_append List.drop_zero List.take_length List.take_succ_cons List.take_zero List.take_nil List.getElem?_map List.getElem?_cons_zero List.getElem?_cons_succ List.getElem?_nil List.append_nil eq_self Int.toNat_natCast List.length_append Nat.zero_add Nat.add_zero List.length_replicate Nat.sub_zero Option.map_some Option.map_none Int.le_refl Nat.le_refl Int.natCast_nonneg List.map_append
noncomputable def G_num_MulDivUp (L : Nat) : Specs := [(110, s_num_Product L), (150, s_num_Wide_Div L), (168, s_num_Wide_Mod L)]
noncomputable def T_num_MulDivUp : Table := tableOf [(79, en79)]
theorem Go_num_MulDivUp (L : Nat) (hL : L ≤ 4611686018427387904) : ∀ g s, Ev.look (G_num_MulDivUp L) g = some s → SpecOk Try.prog g s := (specs_cons (ok_num_Product L hL) (specs_cons (ok_num_Wide_Div L hL) (specs_cons (ok_num_Wide_Mod L hL) specs_nil)))
theorem To_num_MulDivUp (L : Nat) : TableOk Try.prog ((G_num_MulDivUp L).map (·.1)) T_num_MulDivUp := (table_cons Try.func79 (by kernel_rfl) (by kernel_rfl) table_nil)
theorem lk_num_MulDivUp_110 (L : Nat) : Ev.look (G_num_MulDivUp L) 110 = some (s_num_Product L) := nr rfl
theorem lk_num_MulDivUp_150 (L : Nat) : Ev.look (G_num_MulDivUp L) 150 = some (s_num_Wide_Div L) := nr rfl
theorem lk_num_MulDivUp_168 (L : Nat) : Ev.look (G_num_MulDivUp L) 168 = some (s_num_Wide_Mod L) := nr rfl
attribute [local go_sem] Ty.tk2 Ty.ik2 Ty.ek2 Ty.zv2 Ty.by2 Ty.so2 Ty.tk4 Ty.ub4 Ty.ek4 Ty.zv4 Ty.by4 Ty.so4 Ty.tk27 Ty.ik27 Ty.ek27 Ty.zv27 Ty.by27 Ty.so27 Ty.tk133 Ty.ik133 Ty.ek133 Ty.zv133 Ty.by133 Ty.so133 Ty.tk176 Ty.ct176 Ty.ek176 Ty.zv176 Ty.by176 Ty.so176 Ty.k176_e E.mk79_1000000 lk_num_MulDivUp_110 lk_num_MulDivUp_150 lk_num_MulDivUp_168 s_num_Product_run s_num_Wide_Div_run s_num_Wide_Mod_run loopN loops Try.f79
theorem e_num_MulDivUp (L : Nat) (hL : L ≤ 4611686018427387904) (a0 : Int) (a1 : Int) (a2 : Int) (res : Int × Int) (h : p_num_MulDivUp L a0 a1 a2 = some res) : evTop Try.prog (G_num_MulDivUp L) T_num_MulDivUp L 1 79 [.int .i64 a0, .int .i64 a1, .int .i64 a2] = some [.int .i64 res.1, .int .i64 res.2] := by
  revert h
  unfold p_num_MulDivUp evTop
  simp only [List.map]
  rw [evF_s (fn := Try.f79) (msk := en79.ms) (hT := by rfl) (hb := by rfl)]
  refine bnd_i fun r1 c1 => ?_
  refine bnd_i fun r2 c2 => ?_
  refine cb_i (fun c3 => ?_) (fun c3 => ?_)
  · refine bnd_i fun r3 c4 => ?_
    refine cb_i (fun c5 => ?_) (fun c5 => ?_)
    · rintro ⟨⟩
      simp only [go_sem, Nat.reduceAdd, Nat.reduceSub, Nat.reduceMul, Nat.reduceEqDiff, Nat.reduceBEq, Nat.reduceLT, Nat.reduceLeDiff, Nat.reducePow, Int.reduceToNat, Int.reduceLT, Int.reduceLE, Int.reduceGT, Int.reduceGE, Int.reduceEq, Int.reduceNeg, Int.reduceAdd, Int.reduceSub, Int.reduceMul, ↓reduceIte, reduceCtorEq, *]
    · refine cb_i (fun c6 => ?_) (fun c6 => ?_)
      · rintro ⟨⟩
        simp only [go_sem, Nat.reduceAdd, Nat.reduceSub, Nat.reduceMul, Nat.reduceEqDiff, Nat.reduceBEq, Nat.reduceLT, Nat.reduceLeDiff, Nat.reducePow, Int.reduceToNat, Int.reduceLT, Int.reduceLE, Int.reduceGT, Int.reduceGE, Int.reduceEq, Int.reduceNeg, Int.reduceAdd, Int.reduceSub, Int.reduceMul, ↓reduceIte, reduceCtorEq, *]
      · rintro ⟨⟩
        simp only [go_sem, Nat.reduceAdd, Nat.reduceSub, Nat.reduceMul, Nat.reduceEqDiff, Nat.reduceBEq, Nat.reduceLT, Nat.reduceLeDiff, Nat.reducePow, Int.reduceToNat, Int.reduceLT, Int.reduceLE, Int.reduceGT, Int.reduceGE, Int.reduceEq, Int.reduceNeg, Int.reduceAdd, Int.reduceSub, Int.reduceMul, ↓reduceIte, reduceCtorEq, *]
  · rintro ⟨⟩
    simp only [go_sem, Nat.reduceAdd, Nat.reduceSub, Nat.reduceMul, Nat.reduceEqDiff, Nat.reduceBEq, Nat.reduceLT, Nat.reduceLeDiff, Nat.reducePow, Int.reduceToNat, Int.reduceLT, Int.reduceLE, Int.reduceGT, Int.reduceGE, Int.reduceEq, Int.reduceNeg, Int.reduceAdd, Int.reduceSub, Int.reduceMul, ↓reduceIte, reduceCtorEq, *]
noncomputable def s_num_MulDivUp (L : Nat) : Ev.Spec := specP (cCons (cI .i64) (cCons (cI .i64) (cCons (cI .i64) cNil))) (fun x => p_num_MulDivUp L x.1 x.2.1 x.2.2.1) (fun r => [.int .i64 r.1, .int .i64 r.2])
theorem s_num_MulDivUp_run (L : Nat) (a0 : Int) (a1 : Int) (a2 : Int) : (s_num_MulDivUp L).run [.int .i64 a0, .int .i64 a1, .int .i64 a2] = (p_num_MulDivUp L a0 a1 a2).map fun r => [.int .i64 r.1, .int .i64 r.2] := specP_run (cCons (cI .i64) (cCons (cI .i64) (cCons (cI .i64) cNil))) (fun x => p_num_MulDivUp L x.1 x.2.1 x.2.2.1) (fun r => [.int .i64 r.1, .int .i64 r.2]) (a0, a1, a2, ())
theorem ok_num_MulDivUp (L : Nat) (hL : L ≤ 4611686018427387904) : SpecOk Try.prog 79 (s_num_MulDivUp L) := specP_ok mixed (Go_num_MulDivUp L hL) (To_num_MulDivUp L) fun x r h => ⟨L, 1, e_num_MulDivUp L hL x.1 x.2.1 x.2.2.1 r h⟩
end Go.Proofs.Ytnojehmbiceceaa.P
end
section
set_option linter.unusedVariables false
set_option linter.unusedSimpArgs false
set_option maxRecDepth 100000
namespace Go.Proofs.Ytnojehmbiceceaa.P
open Go.Ev Go.IntKind Go.Proofs.Ytnojehmbiceceaa Go.Proofs.Ytnojehmbiceceaa.Ty Go.Proofs.Ytnojehmbiceceaa.E
def p_bound_Mul_Light_2 (L : Nat) (a0 : Int) (a1 : Int) (a2 : Int) : Option (Int × Int) := bnd (p_num_MulDivUp L a0 a1 a2) fun r1 => some (r1.1, r1.2)
attribute [local go_sem] Ev.putR_s Ev.putR_0 Ev.thenO_s Ev.thenO_0 Ev.seqR_n Ev.seqR_e Ev.seqR_r Ev.seqR_0 Ev.blkR_e Ev.blkR_n Ev.blkR_r Ev.blkR_0 Ev.normR_s Ev.normR_0 Ev.outR_r Ev.outR_n Ev.outR_0 Ev.retS_s Ev.retS_0 Ev.pureO_s Ev.pureO_0 Ev.topR_0 Ev.topR_t Ev.topR_t0 Ev.oneL_0 Ev.oneL_s Ev.topR_d Ev.topR_nils Ev.topR_agg Ev.topR_rs Ev.evOp_move Ev.evOp_assign Ev.evOp_pick Ev.evOp_alloc Ev.evOp_box Ev.evOp_build Ev.evOp_buildSlice Ev.evOp_load Ev.evOp_store Ev.evOp_makeMap Ev.evOp_lookup Ev.evOp_mapUpdate Ev.evOp_insert Ev.evOp_nilCheck Ev.evOp_binOp Ev.evOp_unOp Ev.evOp_convert Ev.evOp_makeFunc Ev.evOp_makeSlice Ev.evOp_slice Ev.evOp_fieldAddr Ev.evOp_field Ev.evOp_indexAddr Ev.evOp_index Ev.evOp_extract Ev.evOp_call Ev.evOp_append Ev.evOp_clear Ev.evOp_len Ev.evOp_min Ev.evOp_max Ev.condR_b Ev.condR_t Ev.evOps_nil Ev.evOps_plain Ev.evOps_guard Ev.runG_eq Ev.skipG_eq Ev.condL_tt Ev.condL_ff Ev.condL_tf Ev.condL_ft Ev.condL_u Ev.condC_t Ev.condC_f Ev.evC_skip Ev.evC_ret Ev.evC_exit Ev.evC_label Ev.evC_region Ev.evC_draw Ev.evC_seq Ev.evC_cond Ev.evC_block Ev.evC_loop Ev.fin_d Ev.fin_nils Ev.fin_agg_ Ev.fin_rs Ev.finS_s Ev.mapO_fin Ev.upd_upd Ev.argv_d Ev.argv_nils Ev.argv_agg Ev.argv_rs Ev.argv_p Ev.fk_low Ev.appendTo_nils Ev.appendTo_rs Ev.consV_d Ev.consV_agg Ev.consV_p Ev.consV_rs Ev.consV_nils Ev.consV_fn Ev.consV_und Ev.consV_jk Ev.consV_grown Ev.topR_grown Ev.len_grown Ev.consV_mp Ev.sameK_i Ev.sameK_s Ev.mget_0 Ev.mget_hit Ev.mget_miss Ev.mput_0 Ev.mput_hit Ev.mput_miss Ev.apartAll Ev.apartL Ev.apartV Ev.freeAll Ev.sel Ev.keyOfV Ev.evLookup Ev.evPut Ev.hintOk Ev.keyOk Ev.consP Ev.lookV Ev.guardV Ev.dstAt Ev.evPure Ev.evStore Ev.evBin Ev.evBinO Ev.evNil Ev.isNilC Ev.evUn Ev.evConv Ev.evSlice Ev.optI Ev.foldI Ev.capsOk Ev.noTup Ev.nth Ev.setN Ev.killAt Ev.pad Ev.V.get Ev.V.put Ev.putD Ev.newBlk Ev.upd Ev.keq Ev.empty Ev.evCall Ev.V.args Ev.argP Ev.callOf Ev.evNilP Ev.isNilP Ev.look Ev.V.view.views Ev.V.view Ev.V.toD Ev.V.toD.V.toDs Ev.V.pure.pures Ev.V.pure Ev.D.flat.flats Ev.D.flat Ev.mkAgg Ev.allD Ev.aggParts Ev.setParts Ev.setElems Ev.getPath Ev.setPath Ev.subL Ev.eqD Ev.eqD.eqDs Ev.and2 Ev.strCut Ev.evalT Ev.constT Ev.evArgs Ev.mask Ev.maskOf Ev.tableOf Ev.compT Ev.resV Ev.retV Ev.mapO Ev.frzO_n Ev.frzO_e Ev.frzO_r Ev.frzO_0 Ev.mb_z Ev.mb_0 Ev.mb_s Ev.frzL_t Ev.frzL_f Ev.frzL_0 Ev.frzT_nils Ev.frzT_rs Ev.frzT_p Ev.frzK_i Ev.keyIn_i Ev.rI_nil Ev.rI_cons Ev.rI_row Ev.rI_app Ev.r_d Ev.r_nils Ev.r_agg Ev.r_rs Ev.r_gl Ev.vw_row Ev.vw_app Ev.appO_s Ev.frzT_gl Ev.allD_gl Ev.killAt_i Ev.tkOne_i Ev.hT_agg Ev.hT_vagg Ev.hT_int Ev.hT_bool Ev.hT_str Ev.hT_sl Ev.hT_ptr Ev.hT_np Ev.hT_p Ev.hT_rs Ev.hT_mp Ev.hT_nils Ev.hT_fn Ev.hT_jk Ev.hT_gl Ev.eO_sl Ev.eO_nils Ev.eO_rs Ev.eT_sl Ev.eT_rs Ev.pL_str Ev.pL_sl Ev.pL_rs Ev.pL_nils Ev.pL_min Ev.pL_max Ev.len_glB Ev.noTup_gl Ev.rowV_len Ev.rowV_nil Ev.rowV_cons Ev.rowV_append Ev.rowV_set Ev.rowV_replicate Ev.nth_row Ev.row_take Ev.row_drop Ev.toDs_row Ev.fin_row Ev.map_row Ev.map_take_ Ev.map_drop_ Ev.Bk_i Ev.GlB_0 Ev.GlB_mk Ev.gl_nil Ev.gl_cons Ev.gl_snoc Ev.gl_setN Ev.appendTo_gl Ev.consV_gl Ev.elems_gl Ev.fin_gl Ev.view_gl Ev.argv_gl Ev.topR_gl Ev.sp_z Ev.sp_0 Ev.sp_s Ev.km_z Ev.km_0 Ev.km_s Ev.beq_toList Ev.nc0 Ev.bq_t Ev.bq_f Ev.bodyN Ev.le_maxRow Int.cast_ofNat_Int IntWalk.i64_in IntWalk.u64_in IntWalk.u8_in beq_self_eq_true Bool.true_beq Bool.false_beq Bool.and_true Bool.true_and Bool.false_and Bool.and_false Bool.and_self Bool.not_true Bool.not_false Bool.not_eq_true cond_true cond_false if_true if_false and_true true_and and_self decide_true decide_false Bool.or_true Bool.true_or Bool.or_false Bool.false_or List.isEmpty List.isEmpty_nil List.size_toArray List.map List.length_map List.length_cons List.length_nil Option.map Option.bind Option.getD Option.isSome List.replicate Bool.false_eq_true implies_true false_implies forall_const Array.toList Array.isEmpty List.append List.nil_append List.cons_append List.drop_zero List.take_length List.take_succ_cons List.take_zero List.take_nil List.getElem?_map List.getElem?_cons_zero List.getElem?_cons_succ List.getElem?_nil List.append_nil eq_self Int.toNat_natCast List.length_append Nat.zero_add Nat.add_zero List.length_replicate Nat.sub_zero Option.map_some Option.map_none Int.le_refl Nat.le_refl Int.natCast_nonneg List.map_append
noncomputable def G_bound_Mul_Light_2 (L : Nat) : Specs := [(79, s_num_MulDivUp L)]
noncomputable def T_bound_Mul_Light_2 : Table := tableOf [(210, en210)]
theorem Go_bound_Mul_Light_2 (L : Nat) (hL : L ≤ 4611686018427387904) : ∀ g s, Ev.look (G_bound_Mul_Light_2 L) g = some s → SpecOk Try.prog g s := (specs_cons (ok_num_MulDivUp L hL) specs_nil)
theorem To_bound_Mul_Light_2 (L : Nat) : TableOk Try.prog ((G_bound_Mul_Light_2 L).map (·.1)) T_bound_Mul_Light_2 := (table_cons Try.func210 (by kernel_rfl) (by kernel_rfl) table_nil)
theorem lk_bound_Mul_Light_2_79 (L : Nat) : Ev.look (G_bound_Mul_Light_2 L) 79 = some (s_num_MulDivUp L) := nr rfl
attribute [local go_sem] Ty.tk2 Ty.ik2 Ty.ek2 Ty.zv2 Ty.by2 Ty.so2 Ty.tk27 Ty.ik27 Ty.ek27 Ty.zv27 Ty.by27 Ty.so27 E.mk210_1000000 lk_bound_Mul_Light_2_79 s_num_MulDivUp_run loopN loops Try.f210
theorem e_bound_Mul_Light_2 (L : Nat) (hL : L ≤ 4611686018427387904) (a0 : Int) (a1 : Int) (a2 : Int) (res : Int × Int) (h : p_bound_Mul_Light_2 L a0 a1 a2 = some res) : evTop Try.prog (G_bound_Mul_Light_2 L) T_bound_Mul_Light_2 L 1 210 [.int .i64 a0, .int .i64 a1, .ptr (.int .i64 a2)] = some [.int .i64 res.1, .int .i64 res.2] := by
  revert h
  unfold p_bound_Mul_Light_2 evTop
  simp only [List.map]
  rw [evF_s (fn := Try.f210) (msk := en210.ms) (hT := by rfl) (hb := by rfl)]
  refine bnd_i fun r1 c1 => ?_
  rintro ⟨⟩
  simp only [go_sem, Nat.reduceAdd, Nat.reduceSub, Nat.reduceMul, Nat.reduceEqDiff, Nat.reduceBEq, Nat.reduceLT, Nat.reduceLeDiff, Nat.reducePow, Int.reduceToNat, Int.reduceLT, Int.reduceLE, Int.reduceGT, Int.reduceGE, Int.reduceEq, Int.reduceNeg, Int.reduceAdd, Int.reduceSub, Int.reduceMul, ↓reduceIte, reduceCtorEq, *]
noncomputable def s_bound_Mul_Light_2 (L : Nat) : Ev.Spec := specP (cCons (cI .i64) (cCons (cI .i64) (cCons (cP (cI .i64)) cNil))) (fun x => p_bound_Mul_Light_2 L x.1 x.2.1 x.2.2.1) (fun r => [.int .i64 r.1, .int .i64 r.2])
theorem s_bound_Mul_Light_2_run (L : Nat) (a0 : Int) (a1 : Int) (a2 : Int) : (s_bound_Mul_Light_2 L).run [.int .i64 a0, .int .i64 a1, .ptr (.int .i64 a2)] = (p_bound_Mul_Light_2 L a0 a1 a2).map fun r => [.int .i64 r.1, .int .i64 r.2] := specP_run (cCons (cI .i64) (cCons (cI .i64) (cCons (cP (cI .i64)) cNil))) (fun x => p_bound_Mul_Light_2 L x.1 x.2.1 x.2.2.1) (fun r => [.int .i64 r.1, .int .i64 r.2]) (a0, a1, a2, ())
theorem ok_bound_Mul_Light_2 (L : Nat) (hL : L ≤ 4611686018427387904) : SpecOk Try.prog 210 (s_bound_Mul_Light_2 L) := specP_ok mixed (Go_bound_Mul_Light_2 L hL) (To_bound_Mul_Light_2 L) fun x r h => ⟨L, 1, e_bound_Mul_Light_2 L hL x.1 x.2.1 x.2.2.1 r h⟩
end Go.Proofs.Ytnojehmbiceceaa.P
end
section
set_option linter.unusedVariables false
set_option linter.unusedSimpArgs false
set_option maxRecDepth 100000
namespace Go.Proofs.Ytnojehmbiceceaa.E
open Go.Ev
noncomputable def en211 : Entry := ⟨Try.f211, [(1000000, mb 9 0 [4])]⟩
theorem mk211_1000000 (vs : List V) : mask (maskOf en211.ms 1000000) vs = km 9 0 [4] vs := mask_mb _ _ _ _
end Go.Proofs.Ytnojehmbiceceaa.E
end
section
set_option linter.unusedVariables false
set_option linter.unusedSimpArgs false
set_option maxRecDepth 100000
namespace Go.Proofs.Ytnojehmbiceceaa.P
open Go.Ev Go.IntKind Go.Proofs.Ytnojehmbiceceaa Go.Proofs.Ytnojehmbiceceaa.Ty Go.Proofs.Ytnojehmbiceceaa.E
def p_bound_Of_Light (L : Nat) (a0 : Int) (a1 : Int) : Option (Int × Int × Bool) := bnd (p_bound_Norm_Light L a0 a1 false) fun r1 => some (r1.1, r1.2.1, r1.2.2)
attribute [local go_sem] Ev.putR_s Ev.putR_0 Ev.thenO_s Ev.thenO_0 Ev.seqR_n Ev.seqR_e Ev.seqR_r Ev.seqR_0 Ev.blkR_e Ev.blkR_n Ev.blkR_r Ev.blkR_0 Ev.normR_s Ev.normR_0 Ev.outR_r Ev.outR_n Ev.outR_0 Ev.retS_s Ev.retS_0 Ev.pureO_s Ev.pureO_0 Ev.topR_0 Ev.topR_t Ev.topR_t0 Ev.oneL_0 Ev.oneL_s Ev.topR_d Ev.topR_nils Ev.topR_agg Ev.topR_rs Ev.evOp_move Ev.evOp_assign Ev.evOp_pick Ev.evOp_alloc Ev.evOp_box Ev.evOp_build Ev.evOp_buildSlice Ev.evOp_load Ev.evOp_store Ev.evOp_makeMap Ev.evOp_lookup Ev.evOp_mapUpdate Ev.evOp_insert Ev.evOp_nilCheck Ev.evOp_binOp Ev.evOp_unOp Ev.evOp_convert Ev.evOp_makeFunc Ev.evOp_makeSlice Ev.evOp_slice Ev.evOp_fieldAddr Ev.evOp_field Ev.evOp_indexAddr Ev.evOp_index Ev.evOp_extract Ev.evOp_call Ev.evOp_append Ev.evOp_clear Ev.evOp_len Ev.evOp_min Ev.evOp_max Ev.condR_b Ev.condR_t Ev.evOps_nil Ev.evOps_plain Ev.evOps_guard Ev.runG_eq Ev.skipG_eq Ev.condL_tt Ev.condL_ff Ev.condL_tf Ev.condL_ft Ev.condL_u Ev.condC_t Ev.condC_f Ev.evC_skip Ev.evC_ret Ev.evC_exit Ev.evC_label Ev.evC_region Ev.evC_draw Ev.evC_seq Ev.evC_cond Ev.evC_block Ev.evC_loop Ev.fin_d Ev.fin_nils Ev.fin_agg_ Ev.fin_rs Ev.finS_s Ev.mapO_fin Ev.upd_upd Ev.argv_d Ev.argv_nils Ev.argv_agg Ev.argv_rs Ev.argv_p Ev.fk_low Ev.appendTo_nils Ev.appendTo_rs Ev.consV_d Ev.consV_agg Ev.consV_p Ev.consV_rs Ev.consV_nils Ev.consV_fn Ev.consV_und Ev.consV_jk Ev.consV_grown Ev.topR_grown Ev.len_grown Ev.consV_mp Ev.sameK_i Ev.sameK_s Ev.mget_0 Ev.mget_hit Ev.mget_miss Ev.mput_0 Ev.mput_hit Ev.mput_miss Ev.apartAll Ev.apartL Ev.apartV Ev.freeAll Ev.sel Ev.keyOfV Ev.evLookup Ev.evPut Ev.hintOk Ev.keyOk Ev.consP Ev.lookV Ev.guardV Ev.dstAt Ev.evPure Ev.evStore Ev.evBin Ev.evBinO Ev.evNil Ev.isNilC Ev.evUn Ev.evConv Ev.evSlice Ev.optI Ev.foldI Ev.capsOk Ev.noTup Ev.nth Ev.setN Ev.killAt Ev.pad Ev.V.get Ev.V.put Ev.putD Ev.newBlk Ev.upd Ev.keq Ev.empty Ev.evCall Ev.V.args Ev.argP Ev.callOf Ev.evNilP Ev.isNilP Ev.look Ev.V.view.views Ev.V.view Ev.V.toD Ev.V.toD.V.toDs Ev.V.pure.pures Ev.V.pure Ev.D.flat.flats Ev.D.flat Ev.mkAgg Ev.allD Ev.aggParts Ev.setParts Ev.setElems Ev.getPath Ev.setPath Ev.subL Ev.eqD Ev.eqD.eqDs Ev.and2 Ev.strCut Ev.evalT Ev.constT Ev.evArgs Ev.mask Ev.maskOf Ev.tableOf Ev.compT Ev.resV Ev.retV Ev.mapO Ev.frzO_n Ev.frzO_e Ev.frzO_r Ev.frzO_0 Ev.mb_z Ev.mb_0 Ev.mb_s Ev.frzL_t Ev.frzL_f Ev.frzL_0 Ev.frzT_nils Ev.frzT_rs Ev.frzT_p Ev.frzK_i Ev.keyIn_i Ev.rI_nil Ev.rI_cons Ev.rI_row Ev.rI_app Ev.r_d Ev.r_nils Ev.r_agg Ev.r_rs Ev.r_gl Ev.vw_row Ev.vw_app Ev.appO_s Ev.frzT_gl Ev.allD_gl Ev.killAt_i Ev.tkOne_i Ev.hT_agg Ev.hT_vagg Ev.hT_int Ev.hT_bool Ev.hT_str Ev.hT_sl Ev.hT_ptr Ev.hT_np Ev.hT_p Ev.hT_rs Ev.hT_mp Ev.hT_nils Ev.hT_fn Ev.hT_jk Ev.hT_gl Ev.eO_sl Ev.eO_nils Ev.eO_rs Ev.eT_sl Ev.eT_rs Ev.pL_str Ev.pL_sl Ev.pL_rs Ev.pL_nils Ev.pL_min Ev.pL_max Ev.len_glB Ev.noTup_gl Ev.rowV_len Ev.rowV_nil Ev.rowV_cons Ev.rowV_append Ev.rowV_set Ev.rowV_replicate Ev.nth_row Ev.row_take Ev.row_drop Ev.toDs_row Ev.fin_row Ev.map_row Ev.map_take_ Ev.map_drop_ Ev.Bk_i Ev.GlB_0 Ev.GlB_mk Ev.gl_nil Ev.gl_cons Ev.gl_snoc Ev.gl_setN Ev.appendTo_gl Ev.consV_gl Ev.elems_gl Ev.fin_gl Ev.view_gl Ev.argv_gl Ev.topR_gl Ev.sp_z Ev.sp_0 Ev.sp_s Ev.km_z Ev.km_0 Ev.km_s Ev.beq_toList Ev.nc0 Ev.bq_t Ev.bq_f Ev.bodyN Ev.le_maxRow Int.cast_ofNat_Int IntWalk.i64_in IntWalk.u64_in IntWalk.u8_in beq_self_eq_true Bool.true_beq Bool.false_beq Bool.and_true Bool.true_and Bool.false_and Bool.and_false Bool.and_self Bool.not_true Bool.not_false Bool.not_eq_true cond_true cond_false if_true if_false and_true true_and and_self decide_true decide_false Bool.or_true Bool.true_or Bool.or_false Bool.false_or List.isEmpty List.isEmpty_nil List.size_toArray List.map List.length_map List.length_cons List.length_nil Option.map Option.bind Option.getD Option.isSome List.replicate Bool.false_eq_true implies_true false_implies forall_const Array.toList Array.isEmpty List.append List.nil_append List.cons_append List.drop_zero List.take_length List.take_succ_cons List.take_zero List.take_nil List.getElem?_map List.getElem?_cons_zero List.getElem?_cons_succ List.getElem?_nil List.append_nil eq_self Int.toNat_natCast List.length_append Nat.zero_add Nat.add_zero List.length_replicate Nat.sub_zero Option.map_some Option.map_none Int.le_refl Nat.le_refl Int.natCast_nonneg List.map_append
noncomputable def G_bound_Of_Light (L : Nat) : Specs := [(213, s_bound_Norm_Light L)]
noncomputable def T_bound_Of_Light : Table := tableOf [(211, en211)]
theorem Go_bound_Of_Light (L : Nat) (hL : L ≤ 4611686018427387904) : ∀ g s, Ev.look (G_bound_Of_Light L) g = some s → SpecOk Try.prog g s := (specs_cons (ok_bound_Norm_Light L hL) specs_nil)
theorem To_bound_Of_Light (L : Nat) : TableOk Try.prog ((G_bound_Of_Light L).map (·.1)) T_bound_Of_Light := (table_cons Try.func211 (by kernel_rfl) (by kernel_rfl) table_nil)
theorem lk_bound_Of_Light_213 (L : Nat) : Ev.look (G_bound_Of_Light L) 213 = some (s_bound_Norm_Light L) := nr rfl
attribute [local go_sem] Ty.tk4 Ty.ub4 Ty.ek4 Ty.zv4 Ty.by4 Ty.so4 Ty.tk32 Ty.ik32 Ty.ek32 Ty.zv32 Ty.by32 Ty.so32 Ty.tk37 Ty.ct37 Ty.ek37 Ty.zv37 Ty.by37 Ty.so37 Ty.k37_e E.mk211_1000000 lk_bound_Of_Light_213 s_bound_Norm_Light_run loopN loops Try.f211
theorem e_bound_Of_Light (L : Nat) (hL : L ≤ 4611686018427387904) (a0 : Int) (a1 : Int) (res : Int × Int × Bool) (h : p_bound_Of_Light L a0 a1 = some res) : evTop Try.prog (G_bound_Of_Light L) T_bound_Of_Light L 1 211 [.int .i64 a0, .int .i64 a1] = some [.agg 37 [.int .i64 res.1, .int .i64 res.2.1, .bool res.2.2]] := by
  revert h
  unfold p_bound_Of_Light evTop
  simp only [List.map]
  rw [evF_s (fn := Try.f211) (msk := en211.ms) (hT := by rfl) (hb := by rfl)]
  refine bnd_i fun r1 c1 => ?_
  rintro ⟨⟩
  simp only [go_sem, Nat.reduceAdd, Nat.reduceSub, Nat.reduceMul, Nat.reduceEqDiff, Nat.reduceBEq, Nat.reduceLT, Nat.reduceLeDiff, Nat.reducePow, Int.reduceToNat, Int.reduceLT, Int.reduceLE, Int.reduceGT, Int.reduceGE, Int.reduceEq, Int.reduceNeg, Int.reduceAdd, Int.reduceSub, Int.reduceMul, ↓reduceIte, reduceCtorEq, *]
noncomputable def s_bound_Of_Light (L : Nat) : Ev.Spec := specP (cCons (cI .i64) (cCons (cI .i64) cNil)) (fun x => p_bound_Of_Light L x.1 x.2.1) (fun r => [.agg 37 [.int .i64 r.1, .int .i64 r.2.1, .bool r.2.2]])
theorem s_bound_Of_Light_run (L : Nat) (a0 : Int) (a1 : Int) : (s_bound_Of_Light L).run [.int .i64 a0, .int .i64 a1] = (p_bound_Of_Light L a0 a1).map fun r => [.agg 37 [.int .i64 r.1, .int .i64 r.2.1, .bool r.2.2]] := specP_run (cCons (cI .i64) (cCons (cI .i64) cNil)) (fun x => p_bound_Of_Light L x.1 x.2.1) (fun r => [.agg 37 [.int .i64 r.1, .int .i64 r.2.1, .bool r.2.2]]) (a0, a1, ())
theorem ok_bound_Of_Light (L : Nat) (hL : L ≤ 4611686018427387904) : SpecOk Try.prog 211 (s_bound_Of_Light L) := specP_ok mixed (Go_bound_Of_Light L hL) (To_bound_Of_Light L) fun x r h => ⟨L, 1, e_bound_Of_Light L hL x.1 x.2.1 r h⟩
end Go.Proofs.Ytnojehmbiceceaa.P
end
section
set_option linter.unusedVariables false
set_option linter.unusedSimpArgs false
set_option maxRecDepth 100000
namespace Go.Proofs.Ytnojehmbiceceaa.E
open Go.Ev
noncomputable def en246 : Entry := ⟨Try.f246, [(0, mb 25 0 [0, 3, 4]), (1000001, mb 25 0 [3]), (1000002, mb 25 0 [0, 3, 4]), (1000000, mb 25 0 [2])]⟩
theorem mk246_0 (vs : List V) : mask (maskOf en246.ms 0) vs = km 25 0 [0, 3, 4] vs := mask_mb _ _ _ _
theorem mk246_1000001 (vs : List V) : mask (maskOf en246.ms 1000001) vs = km 25 0 [3] vs := mask_mb _ _ _ _
theorem mk246_1000002 (vs : List V) : mask (maskOf en246.ms 1000002) vs = km 25 0 [0, 3, 4] vs := mask_mb _ _ _ _
theorem mk246_1000000 (vs : List V) : mask (maskOf en246.ms 1000000) vs = km 25 0 [2] vs := mask_mb _ _ _ _
theorem fz246_0 (lv : Nat) (f : Run) : frzF en246.ms lv 0 f = f := nr rfl
noncomputable def lb246_0 : Code := loopN Try.f246 0
end Go.Proofs.Ytnojehmbiceceaa.E
end
