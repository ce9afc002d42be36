/- The law QuantaMeans: Means answers as the reference's Meant for all bounds. No conditions. -/
import Derived.Test.YtjplkbeolakbjaaRootQuantaMeans
import Derived.Test.YtjplkbeolakbjaaSayQuantaMeans
set_option linter.unusedVariables false
set_option linter.unusedSimpArgs false
namespace Go.Proofs.Ytjplkbeolakbjaa.Pure
open Go.RowKit Go.Proofs.Ytjplkbeolakbjaa.PQuantaMeans Go.Proofs.YtjplkbeolakbjaaW.PrintWords Go.Proofs.YtjplkbeolakbjaaW.PrintLast Go.Proofs.YtjplkbeolakbjaaW.PrintMore

theorem draws_means : spylaw3_draws.f 200 = some true := by kernel_rfl

theorem root_mono {r s a b : Int} (h : IsRoot r a) (k : IsRoot s b) (hab : a ≤ b) : r ≤ s := by
  rcases Int.lt_or_le s r with hlt | hle
  · have := sq_mono (show 0 ≤ s + 1 by have := k.1; omega) (show s + 1 ≤ r by omega)
    have := h.2.1; have := k.2.2; omega
  · exact hle
theorem root_some (k : Nat) (hk : 70 ≤ k) (a : Int) (h0 : 0 ≤ a) (h1 : a ≤ 9223372036854775807) : ∃ r, quanta_root.f k a = some r ∧ IsRoot r a := by
  obtain ⟨r, hr, hR⟩ := sqrtmul_at k hk a 1 h0 h1 (by omega) (by omega)
  refine ⟨r, ?_, by simpa using hR⟩
  unfold quanta_root.f num_Sqrt.f
  rw [hr]; rfl
theorem ref_some (k : Nat) (hk : 70 ≤ k) (a : Int) (h0 : 0 ≤ a) (h1 : a ≤ 9223372036854775807) : ∃ r, spyref3_Root.f k a 1 = some r ∧ IsRoot r a := by
  obtain ⟨r, hr, hR⟩ := refroot k hk a 1 h0 h1 (by omega) (by omega)
  exact ⟨r, hr, by simpa using hR⟩
/-- Nothing below l reaches q, and l does. -/
def IsLeast (q l : Int) : Prop := 0 ≤ l ∧ (∀ w r, 0 ≤ w → w < l → IsRoot r w → w + 1 + 3 * r < q) ∧ (∀ r, IsRoot r l → q ≤ l + 1 + 3 * r)
theorem IsLeast.uniq {q a b : Int} (ha : IsLeast q a) (hb : IsLeast q b) (ma : a ≤ 34359738368) (mb : b ≤ 34359738368) : a = b := by
  rcases Int.lt_trichotomy a b with h | h | h
  · obtain ⟨r, _, hr⟩ := ref_some 70 (by omega) a ha.1 (by omega)
    have := hb.2.1 a r ha.1 h hr; have := ha.2.2 r hr; omega
  · exact h
  · obtain ⟨r, _, hr⟩ := ref_some 70 (by omega) b hb.1 (by omega)
    have := ha.2.1 b r hb.1 h hr; have := hb.2.2 r hr; omega

theorem least_loop (q : Int) (d : Nat) : ∀ (k : Nat) (low high : Int), d + 71 ≤ k → 0 ≤ low → low ≤ high → high ≤ 34359738368 → high - low ≤ 2 ^ d - 1 →
    (∀ w r, 0 ≤ w → w < low → IsRoot r w → w + 1 + 3 * r < q) → (∀ r, IsRoot r high → q ≤ high + 1 + 3 * r) → ∃ l, quanta_least.l0 k q low high = some l ∧ IsLeast q l ∧ l ≤ high := by
  induction d with
  | zero =>
    intro k low high hk h0 h1 h2 h3 i1 i2
    obtain ⟨k, rfl⟩ : ∃ m, k = m + 1 := ⟨k - 1, by omega⟩
    obtain rfl : high = low := by simp at h3; omega
    simp only [quanta_least.l0]
    rw [if_neg (by omega)]
    exact ⟨_, rfl, ⟨h0, i1, i2⟩, by omega⟩
  | succ d ih =>
    intro k low high hk h0 h1 h2 h3 i1 i2
    obtain ⟨k, rfl⟩ : ∃ m, k = m + 1 := ⟨k - 1, by omega⟩
    simp only [quanta_least.l0]
    by_cases hlt : low < high
    · have e2 : (2 : Int) ^ (d + 1) = 2 * 2 ^ d := by rw [Int.pow_succ]; omega
      rw [e2] at h3
      rw [if_pos hlt, show wrap64 (Int.tdiv (wrap64 (low + high)) 2) = (low + high) / 2 by rw [w64_id (n := low + high) (by omega) (by omega), Int.tdiv_eq_ediv_of_nonneg (by omega), w64_id (by omega) (by omega)]]
      generalize hm : (low + high) / 2 = m
      obtain ⟨r, hr, hR⟩ := root_some k (by omega) m (by omega) (by omega)
      have hr0 := hR.1
      have hrb : r < 262144 := hR.lt (by omega) (by omega)
      rw [hr]
      simp only [ob]
      rw [w64_id (n := m + 1) (by omega) (by omega), w64_id (n := 3 * r) (by omega) (by omega), w64_id (n := m + 1 + 3 * r) (by omega) (by omega)]
      by_cases hc : m + 1 + 3 * r ≥ q
      · rw [if_pos hc]
        obtain ⟨l, e, hl, hle⟩ := ih k low m (by omega) h0 (by omega) (by omega) (by omega) i1 (fun s hs => by rw [hs.uniq hR]; omega)
        exact ⟨l, e, hl, by omega⟩
      · rw [if_neg hc]
        exact ih k (m + 1) high (by omega) (by omega) (by omega) h2 (by omega) (fun w s hw0 hw hs => by have := root_mono hs hR (by omega); omega) i2
    · obtain rfl : high = low := by omega
      rw [if_neg hlt]
      exact ⟨_, rfl, ⟨h0, i1, i2⟩, by omega⟩
theorem least_some (q : Int) (h1 : q ≤ 34359738368) : ∃ l, quanta_least.f 200 q = some l ∧ IsLeast q l ∧ l ≤ 34359738368 := by
  unfold quanta_least.f
  have hm : mx 0 q = if 0 < q then q else 0 := rfl
  obtain ⟨l, e, hl, hle⟩ := least_loop q 36 200 0 (mx 0 q) (by omega) (by omega) (by rw [hm]; split <;> omega) (by rw [hm]; split <;> omega) (by rw [hm]; split <;> omega)
    (fun w r h0 h1 _ => by omega) (fun r hr => by have := hr.1; rw [hm]; split <;> omega)
  exact ⟨l, e, hl, by rw [hm] at hle; split at hle <;> omega⟩

theorem meant_loop (q hi : Int) (u : Bool) (s : Int) (hs : IsRoot s q) (hq : q ≤ 34359738368) (d : Nat) : ∀ (k : Nat) (r : Int), d + 1 ≤ k → 0 ≤ r → r ≤ s → s - r = d → (∀ w t, 0 ≤ w → w < r * r → IsRoot t w → w + 1 + 3 * t < q) →
    ∃ l k', k' + d + 1 ≥ k ∧ spyref3_Meant.l0 k r q hi u = spyref3_Meant.j2 k' l q hi u ∧ IsLeast q l ∧ l ≤ 34359738368 := by
  have hsb : s < 262144 := hs.lt (by omega) (by omega)
  have stop : ∀ (k : Nat) (r : Int), 1 ≤ k → 0 ≤ r → r ≤ s → (∀ w t, 0 ≤ w → w < r * r → IsRoot t w → w + 1 + 3 * t < q) → q - 1 - 3 * r ≤ r * r + 2 * r →
    ∃ l, spyref3_Meant.l0 k r q hi u = spyref3_Meant.j2 (k - 1) l q hi u ∧ IsLeast q l ∧ l ≤ 34359738368 := by
    intro k r hk h0 h1 i1 hc
    obtain ⟨k, rfl⟩ : ∃ m, k = m + 1 := ⟨k - 1, by omega⟩
    have hb := mul_bd h0 (show r ≤ 262143 by omega) h0 (show r ≤ 262143 by omega)
    have hrs := sq_mono h0 h1
    have hs1 := hs.2.1
    have hexp : (r + 1) * (r + 1) = r * r + 2 * r + 1 := by grind
    simp only [spyref3_Meant.l0, Nat.add_sub_cancel]
    generalize hM : r * r = M at *
    have hq0 : 0 ≤ s * s := Int.mul_nonneg hs.1 hs.1
    rw [w64_id (n := M) (by omega) (by omega), w64_id (n := 2 * r) (by omega) (by omega), w64_id (n := M + 2 * r) (by omega) (by omega), w64_id (n := q - 1) (by omega) (by omega), w64_id (n := 3 * r) (by omega) (by omega), w64_id (n := q - 1 - 3 * r) (by omega) (by omega)]
    have hm : mx M (q - 1 - 3 * r) = if M < q - 1 - 3 * r then q - 1 - 3 * r else M := rfl
    rw [hm]
    by_cases hlt : M < q - 1 - 3 * r
    · rw [if_pos hlt, if_pos (by omega)]
      have hroot : IsRoot r (q - 1 - 3 * r) := ⟨h0, by omega, by omega⟩
      refine ⟨_, rfl, ⟨by omega, fun w t hw0 hw ht => ?_, fun t ht => by rw [ht.uniq hroot]; omega⟩, by omega⟩
      by_cases hw1 : w < M
      · exact i1 w t hw0 hw1 ht
      · rw [ht.uniq (show IsRoot r w from ⟨h0, by omega, by omega⟩)]; omega
    · rw [if_neg hlt, if_pos (by omega)]
      have hroot : IsRoot r M := ⟨h0, by omega, by omega⟩
      exact ⟨_, rfl, ⟨by omega, fun w t hw0 hw ht => i1 w t hw0 hw ht, fun t ht => by rw [ht.uniq hroot]; omega⟩, by omega⟩
  induction d with
  | zero =>
    intro k r hk h0 h1 h2 i1
    obtain rfl : r = s := by omega
    have hexp : (r + 1) * (r + 1) = r * r + 2 * r + 1 := by grind
    have := hs.2.2
    obtain ⟨l, e, h3, h4⟩ := stop k r (by omega) h0 h1 i1 (by omega)
    exact ⟨l, k - 1, by omega, e, h3, h4⟩
  | succ d ih =>
    intro k r hk h0 h1 h2 i1
    by_cases hc : q - 1 - 3 * r ≤ r * r + 2 * r
    · obtain ⟨l, e, h3, h4⟩ := stop k r (by omega) h0 h1 i1 hc
      exact ⟨l, k - 1, by omega, e, h3, h4⟩
    · obtain ⟨k, rfl⟩ : ∃ m, k = m + 1 := ⟨k - 1, by omega⟩
      have hb := mul_bd h0 (show r ≤ 262143 by omega) h0 (show r ≤ 262143 by omega)
      have hexp : (r + 1) * (r + 1) = r * r + 2 * r + 1 := by grind
      have step : spyref3_Meant.l0 (k + 1) r q hi u = spyref3_Meant.l0 k (r + 1) q hi u := by
        simp only [spyref3_Meant.l0]
        generalize hM : r * r = M at *
        rw [w64_id (n := M) (by omega) (by omega), w64_id (n := 2 * r) (by omega) (by omega), w64_id (n := M + 2 * r) (by omega) (by omega), w64_id (n := q - 1) (by omega) (by omega), w64_id (n := 3 * r) (by omega) (by omega), w64_id (n := q - 1 - 3 * r) (by omega) (by omega), w64_id (n := r + 1) (by omega) (by omega)]
        have hm : mx M (q - 1 - 3 * r) = if M < q - 1 - 3 * r then q - 1 - 3 * r else M := rfl
        have hlt : M < q - 1 - 3 * r := by omega
        rw [hm, if_pos hlt, if_neg (by omega)]
      rw [step]
      obtain ⟨l, k', h5, e, h3, h4⟩ := ih k (r + 1) (by omega) (by omega) (by omega) (by omega) (fun w t hw0 hw ht => by
        by_cases hw1 : w < r * r
        · exact i1 w t hw0 hw1 ht
        · rw [ht.uniq (show IsRoot r w from ⟨h0, by omega, by omega⟩)]; omega)
      exact ⟨l, k', by omega, e, h3, h4⟩

theorem most_some (q s : Int) (h0 : 0 ≤ q) (h1 : q ≤ 34359738368) (hs : IsRoot s q) (k : Nat) (hk : 10 ≤ k) (x3 lo : Int) (u : Bool) :
    ∃ m, quanta_most.f 200 q = some m ∧ spyref3_Meant.l1 k x3 0 (s + 5) lo q u = some (x3, m, false) := by
  have hsb : s < 262144 := hs.lt (by omega) (by omega)
  have hs0 := hs.1
  obtain ⟨R, hR1, hR⟩ := root_some 200 (by omega) (9 + 4 * q) (by omega) (by omega)
  have hR0 := hR.1
  have hRb : R < 524288 := hR.lt (by omega) (by omega)
  have hR3 : 3 ≤ R := by
    rcases Int.lt_or_le R 3 with h | h
    · have := sq_mono (show 0 ≤ R + 1 by omega) (show R + 1 ≤ 3 by omega); have := hR.2.2; omega
    · exact h
  have hup : R < 2 * s + 5 := hR.lt (by omega) (by
    have := hs.2.2
    have e1 : (s + 1) * (s + 1) = s * s + 2 * s + 1 := by grind
    have e2 : (2 * s + 5) * (2 * s + 5) = 4 * (s * s) + 20 * s + 25 := by grind
    omega)
  have hdown : 2 * s ≤ R := by
    rcases Int.lt_or_le R (2 * s) with h | h
    · have a := sq_mono (show 0 ≤ R + 1 by omega) (show R + 1 ≤ 2 * s by omega)
      have e2 : (2 * s) * (2 * s) = 4 * (s * s) := by grind
      have := hR.2.2; have := hs.2.1; omega
    · exact h
  obtain ⟨r, hr⟩ : ∃ r, (3 + R) / 2 = r := ⟨_, rfl⟩
  have hrb := mul_bd (show 0 ≤ r by omega) (show r ≤ 300000 by omega) (show 0 ≤ r by omega) (show r ≤ 300000 by omega)
  refine ⟨mn (r * r + 2 * r) (q + 3 * r) + 1, ?_, ?_⟩
  · unfold quanta_most.f
    rw [w64_id (n := 4 * q) (by omega) (by omega), w64_id (n := 9 + 4 * q) (by omega) (by omega), hR1]
    simp only [ob]
    rw [w64_id (n := 3 + R) (by omega) (by omega), Int.tdiv_eq_ediv_of_nonneg (by omega), hr, w64_id (n := r) (by omega) (by omega)]
    generalize r * r = M at *
    rw [w64_id (n := M) (by omega) (by omega), w64_id (n := 2 * r) (by omega) (by omega), w64_id (n := M + 2 * r) (by omega) (by omega), w64_id (n := 3 * r) (by omega) (by omega), w64_id (n := q + 3 * r) (by omega) (by omega), w64_id]
    · unfold mn; split <;> omega
    · unfold mn; split <;> omega
  · have hfit : r * r ≤ q + 3 * r := by
      have a := sq_mono (show 0 ≤ 2 * r - 3 by omega) (show 2 * r - 3 ≤ R by omega)
      have e : (2 * r - 3) * (2 * r - 3) = 4 * (r * r) - 12 * r + 9 := by grind
      have := hR.2.1; omega
    have hmiss : ∀ x, r < x → q + 3 * x < x * x := by
      intro x hx
      have a := sq_mono (show 0 ≤ R + 1 by omega) (show R + 1 ≤ 2 * x - 3 by omega)
      have e : (2 * x - 3) * (2 * x - 3) = 4 * (x * x) - 12 * x + 9 := by grind
      have := hR.2.2; omega
    have go : ∀ (d k : Nat) (x : Int), d + 1 ≤ k → x - r = d → x ≤ s + 5 → spyref3_Meant.l1 k x3 0 x lo q u = some (x3, mn (r * r + 2 * r) (q + 3 * r) + 1, false) := by
      intro d
      induction d with
      | zero =>
        intro k x hk hx hxs
        obtain ⟨k, rfl⟩ : ∃ m, k = m + 1 := ⟨k - 1, by omega⟩
        obtain rfl : x = r := by omega
        simp only [spyref3_Meant.l1]
        generalize x * x = M at *
        rw [if_pos (by omega), w64_id (n := M) (by omega) (by omega), w64_id (n := 2 * x) (by omega) (by omega), w64_id (n := M + 2 * x) (by omega) (by omega), w64_id (n := 3 * x) (by omega) (by omega), w64_id (n := q + 3 * x) (by omega) (by omega)]
        have hm : mn (M + 2 * x) (q + 3 * x) = if q + 3 * x < M + 2 * x then q + 3 * x else M + 2 * x := rfl
        rw [if_pos (by rw [hm]; split <;> omega), w64_id (by rw [hm]; split <;> omega) (by rw [hm]; split <;> omega)]
      | succ d ih =>
        intro k x hk hx hxs
        obtain ⟨k, rfl⟩ : ∃ m, k = m + 1 := ⟨k - 1, by omega⟩
        have hb := mul_bd (show 0 ≤ x by omega) (show x ≤ 300000 by omega) (show 0 ≤ x by omega) (show x ≤ 300000 by omega)
        have hms := hmiss x (by omega)
        have r1 := ih k (x - 1) (by omega) (by omega) (by omega)
        simp only [spyref3_Meant.l1]
        generalize x * x = M at *
        rw [if_pos (by omega), w64_id (n := M) (by omega) (by omega), w64_id (n := 2 * x) (by omega) (by omega), w64_id (n := M + 2 * x) (by omega) (by omega), w64_id (n := 3 * x) (by omega) (by omega), w64_id (n := q + 3 * x) (by omega) (by omega)]
        have hm : mn (M + 2 * x) (q + 3 * x) = if q + 3 * x < M + 2 * x then q + 3 * x else M + 2 * x := rfl
        rw [if_neg (by rw [hm]; split <;> omega), w64_id (n := x - 1) (by omega) (by omega)]
        exact r1
    exact go (s + 5 - r).toNat k (s + 5) (by omega) (by omega) (by omega)

theorem check_of (k : Nat) (lo hi : Int) (u : Bool) : ∃ e, api_Quanta_96.f (k + 2) lo hi u = some e ∧ (e = 0 ↔ (u = false ∨ lo = 0 ∧ hi = 0) ∧ -1152921504606846976 ≤ lo ∧ hi ≤ 1152921504606846976 ∧ lo ≤ hi) := by
  have main : ∀ (b : Bool), ∃ e, api_Quanta_96.j0 (k + 2) b lo hi u = some e ∧ (e = 0 ↔ b = false ∧ -1152921504606846976 ≤ lo ∧ hi ≤ 1152921504606846976 ∧ lo ≤ hi) := by
    intro b
    rw [api_Quanta_96.j0]
    cases b with
    | true => rw [if_pos rfl]; exact ⟨3, rfl, by simp⟩
    | false =>
      rw [if_neg (by decide)]
      have h1 : mn lo hi = if hi < lo then hi else lo := rfl
      have h2 : mx lo hi = if lo < hi then hi else lo := rfl
      by_cases c1 : mn lo hi < -1152921504606846976
      · rw [if_pos c1]
        rw [api_Quanta_96.j1]
        rw [if_pos rfl]
        refine ⟨4, rfl, ?_⟩
        rw [h1] at c1
        constructor
        · intro h; omega
        · intro h; split at c1 <;> omega
      · rw [if_neg c1]
        rw [api_Quanta_96.j1]
        rw [h1] at c1
        by_cases c2 : mx lo hi > 1152921504606846976
        · rw [if_pos (decide_eq_true c2)]
          rw [h2] at c2
          refine ⟨4, rfl, ?_⟩
          constructor
          · intro h; omega
          · intro h; split at c2 <;> omega
        · rw [if_neg (by simpa using c2)]
          rw [h2] at c2
          by_cases c3 : lo > hi
          · rw [if_pos c3]; exact ⟨11, rfl, by omega⟩
          · rw [if_neg c3]
            refine ⟨0, rfl, ?_⟩
            constructor
            · intro _; refine ⟨rfl, ?_, ?_, by omega⟩ <;> split at c1 <;> split at c2 <;> omega
            · intro _; rfl
  unfold api_Quanta_96.f
  cases u with
  | true =>
    rw [if_pos rfl]
    by_cases c : lo = 0
    · rw [if_pos c]
      obtain ⟨e, h1, h2⟩ := main (hi != 0)
      refine ⟨e, h1, h2.trans ?_⟩
      (simp [c]) <;> omega
    · rw [if_neg c]
      obtain ⟨e, h1, h2⟩ := main true
      refine ⟨e, h1, h2.trans ?_⟩
      simp [c]
  | false =>
    rw [if_neg (by decide)]
    obtain ⟨e, h1, h2⟩ := main false
    exact ⟨e, h1, h2.trans (by simp)⟩

theorem norm_of (k : Nat) (lo hi : Int) (u : Bool) : api_Quanta_79.f (k + 2) lo hi u = if (u = false ∨ lo = 0 ∧ hi = 0) ∧ -1152921504606846976 ≤ lo ∧ hi ≤ 1152921504606846976 ∧ lo ≤ hi then some (lo, hi, u) else some (0, 0, true) := by
  obtain ⟨e, h1, h2⟩ := check_of k lo hi u
  unfold api_Quanta_79.f
  rw [h1, ob]
  by_cases c : e = 0
  · rw [if_pos c, if_pos (h2.1 c)]
  · rw [if_neg c, if_neg (fun h => c (h2.2 h))]
    rfl

theorem bad_of (lo hi : Int) (u : Bool) : api_Quanta_82.f lo hi u = some (decide (¬ (u = false ∧ -1152921504606846976 ≤ lo ∧ hi ≤ 1152921504606846976 ∧ lo ≤ hi))) := by
  unfold api_Quanta_82.f
  cases u with
  | true => rw [if_pos rfl]; simp
  | false =>
    rw [if_neg (by decide)]
    by_cases c1 : lo > hi
    · rw [if_pos c1, decide_eq_true (by omega)]
    · rw [if_neg c1]
      by_cases c2 : lo < -1152921504606846976
      · rw [if_pos c2, decide_eq_true (by omega)]
      · rw [if_neg c2]
        congr 2
        simp
        omega

theorem means_out (k : Nat) (lo hi : Int) (u : Bool) (h : ¬ (u = false ∧ -1152921504606846976 ≤ lo ∧ hi ≤ 34359738368 ∧ lo ≤ hi ∧ 0 ≤ hi)) : quanta_Means.f (k + 2) lo hi u = some (0, 0, true) ∧ spyref3_Meant.f (k + 2) lo hi u = some (0, 0, true) := by
  constructor
  · unfold quanta_Means.f
    rw [norm_of]
    have j : ∀ x y z, quanta_Means.j0 (k + 2) true x y z = some (0, 0, true) := by
      intro x y z
      rw [quanta_Means.j0]
      rw [if_pos rfl]
      rfl
    by_cases c : (u = false ∨ lo = 0 ∧ hi = 0) ∧ -1152921504606846976 ≤ lo ∧ hi ≤ 1152921504606846976 ∧ lo ≤ hi
    · rw [if_pos c, ob]
      cases u with
      | true => dsimp only; rw [if_pos rfl, j]
      | false =>
        dsimp only
        rw [if_neg (by decide)]
        by_cases c2 : hi < 0
        · rw [if_pos c2, j]
        · rw [if_neg c2, decide_eq_true (by simp at h; omega), j]
    · rw [if_neg c, ob]
      dsimp only
      rw [if_pos rfl, j]
  · unfold spyref3_Meant.f
    rw [bad_of, ob]
    have j : ∀ x y z, spyref3_Meant.j0 (k + 2) true x y z = some (0, 0, true) := by
      intro x y z
      rw [spyref3_Meant.j0]
      rw [if_pos rfl]
    by_cases c : ¬ (u = false ∧ -1152921504606846976 ≤ lo ∧ hi ≤ 1152921504606846976 ∧ lo ≤ hi)
    · rw [if_pos (decide_eq_true c), j]
    · rw [if_neg (by simpa using c)]
      by_cases c2 : hi < 0
      · rw [if_pos c2, j]
      · rw [if_neg c2, decide_eq_true (by have c3 := Decidable.not_not.1 c; have : ¬ (hi ≤ 34359738368) := fun z => h ⟨c3.1, c3.2.1, z, c3.2.2.2, by omega⟩; omega), j]

theorem means_in (k : Nat) (hk : 400 ≤ k) (lo hi : Int) (h1 : -1152921504606846976 ≤ lo) (h2 : hi ≤ 34359738368) (h3 : lo ≤ hi) (h4 : 0 ≤ hi) : ∃ l m, quanta_Means.f k lo hi false = some (l, m, false) ∧ spyref3_Meant.f k lo hi false = some (l, m, false) := by
  obtain ⟨k, rfl⟩ : ∃ j, k = j + 1 + 1 := ⟨k - 2, by omega⟩
  obtain ⟨s, hs1, hs⟩ := ref_some 70 (by omega) hi h4 (by omega)
  obtain ⟨l, hl1, hl, hl2⟩ := least_some lo (by omega)
  obtain ⟨m, hm1, _⟩ := most_some hi s h4 h2 hs 10 (by omega) l lo false
  have hmost : ∀ j, 10 ≤ j → spyref3_Meant.l1 j l 0 (s + 5) lo hi false = some (l, m, false) := by
    intro j hj
    obtain ⟨m', e1, e2⟩ := most_some hi s h4 h2 hs j hj l lo false
    rw [hm1] at e1
    obtain rfl := Option.some.inj e1
    exact e2
  have hj2 : ∀ j, 80 ≤ j → spyref3_Meant.j2 j l lo hi false = some (l, m, false) := by
    intro j hj
    obtain ⟨j, rfl⟩ : ∃ i, j = i + 1 := ⟨j - 1, by omega⟩
    obtain ⟨s', e1, e2⟩ := ref_some j (by omega) hi h4 (by omega)
    obtain rfl := e2.uniq hs
    rw [spyref3_Meant.j2]
    rw [e1, ob, w64_id (n := s' + 5) (by have := hs.1; omega) (by have : s' < 262144 := hs.lt (by omega) (by omega); omega)]
    exact hmost j (by omega)
  refine ⟨l, m, ?_, ?_⟩
  · unfold quanta_Means.f
    rw [norm_of, if_pos ⟨.inl rfl, h1, by omega, h3⟩, ob]
    dsimp only
    rw [if_neg (by decide), if_neg (by omega), decide_eq_false (by omega)]
    rw [quanta_Means.j0]
    rw [if_neg (by decide), at_rounds (g := fun k => quanta_least.f k lo) (fun k => quanta_least.mono lo k) (by omega) hl1, ob, at_rounds (g := fun k => quanta_most.f k hi) (fun k => quanta_most.mono hi k) (by omega) hm1, ob]
  · unfold spyref3_Meant.f
    rw [bad_of, ob, if_neg (by simp; omega), if_neg (by omega), decide_eq_false (by omega)]
    rw [spyref3_Meant.j0]
    rw [if_neg (by decide)]
    by_cases c : lo > 1
    · rw [if_pos c]
      obtain ⟨t, e1, e2⟩ := ref_some k.succ (by omega) lo (by omega) (by omega)
      rw [show k + 1 = k.succ from rfl, e1, ob]
      have ht0 := e2.1
      have htb : t < 262144 := e2.lt (by omega) (by omega)
      have hmx : mx 0 (wrap64 (t - 5)) = if 0 < t - 5 then t - 5 else 0 := by rw [w64_id (by omega) (by omega)]; rfl
      have hinv : ∀ w r, 0 ≤ w → w < mx 0 (wrap64 (t - 5)) * mx 0 (wrap64 (t - 5)) → IsRoot r w → w + 1 + 3 * r < lo := by
        intro w r hw0 hw hr
        rw [hmx] at hw
        by_cases ct : 0 < t - 5
        · rw [if_pos ct] at hw
          have hr1 : r < t - 5 := hr.lt (by omega) hw
          have e : (t - 5) * (t - 5) = t * t - 10 * t + 25 := by grind
          have := e2.2.1
          omega
        · rw [if_neg ct] at hw; omega
      obtain ⟨l', k', g1, g2, g3, g4⟩ := meant_loop lo hi false t e2 (by omega) (t - mx 0 (wrap64 (t - 5))).toNat k.succ (mx 0 (wrap64 (t - 5))) (by rw [hmx]; split <;> omega) (by rw [hmx]; split <;> omega) (by rw [hmx]; split <;> omega) (by rw [hmx]; split <;> omega) hinv
      obtain rfl := g3.uniq hl g4 hl2
      rw [g2]
      exact hj2 k' (by rw [hmx] at g1; split at g1 <;> omega)
    · rw [if_neg c]
      have hl0 : l = 0 := by
        have z : IsLeast lo 0 := ⟨by omega, fun w r h0 h1 _ => by omega, fun r hr => by have := hr.1; omega⟩
        exact hl.uniq z hl2 (by omega)
      subst hl0
      exact hj2 (k + 1) (by omega)

theorem QuantaMeans : QuantaMeansPure := by
  intro lo hi u h1 h2
  have b1 := i64_of h1
  have b2 := i64_of h2
  suffices h : ∀ k, 400 ≤ k → spylaw3_QuantaMeans.f k lo hi u = some true from ⟨400, h 400 (by omega)⟩
  intro k hk
  have hd := at_rounds (g := fun k => spylaw3_draws.f k) (fun k => spylaw3_draws.mono k) (show 200 ≤ k by omega) draws_means
  unfold spylaw3_QuantaMeans.f
  rw [hd, ob, if_pos rfl]
  by_cases c : u = false ∧ -1152921504606846976 ≤ lo ∧ hi ≤ 34359738368 ∧ lo ≤ hi ∧ 0 ≤ hi
  · obtain ⟨rfl, c1, c2, c3, c4⟩ := c
    obtain ⟨l, m, e1, e2⟩ := means_in k hk lo hi c1 c2 c3 c4
    rw [e1, ob, e2, ob]
    simp
  · obtain ⟨k, rfl⟩ : ∃ j, k = j + 2 := ⟨k - 2, by omega⟩
    obtain ⟨e1, e2⟩ := means_out k lo hi u c
    rw [e1, ob, e2, ob]
    simp
end Go.Proofs.Ytjplkbeolakbjaa.Pure
