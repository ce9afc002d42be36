/- Parts of one proof, joined: PlQueryNears, E226, E75, E77, G77, G75, G226, E80, G80, E104, G104, PlBndAQuanta, E9. -/
import Derived.Test.YtnojehmbiceceaaMQueryScans12
import Derived.Test.YtnojehmbiceceaaProg
section
set_option linter.unusedVariables false
set_option linter.unusedSimpArgs false
namespace Go.Proofs.Ytnojehmbiceceaa.PlQueryNears
open Go Go.Ev Go.IntKind Go.Pl Go.Ari Go.Proofs.Ytnojehmbiceceaa.P Go.Proofs.Ytnojehmbiceceaa.Num4Num
theorem iB_t {x : Int} (h : -9223372036854775808 ≤ x ∧ x < 9223372036854775808) : iB x = true := by unfold iB; rw [decide_eq_true h.1, decide_eq_true h.2]; rfl
theorem uB_t {x : Int} (h : 0 ≤ x ∧ x < 18446744073709551616) : uB x = true := by unfold uB; rw [decide_eq_true h.1, decide_eq_true h.2]; rfl
theorem u64 {x : Int} (h : 0 ≤ x ∧ x < 18446744073709551616) : IntKind.u64.wrap x = x := wu_in h.1 h.2
/-! ### boxes -/
def g (a b : Int) (u : Bool) : Bool := !u && (decide (a ≤ b) && (decide (-1073741824 ≤ a) && decide (b ≤ 1073741824)))
theorem g_i {a b : Int} {u : Bool} (h : g a b u = true) : a ≤ b ∧ -1073741824 ≤ a ∧ b ≤ 1073741824 := by
  unfold g at h; simp only [Bool.and_eq_true, decide_eq_true_eq] at h; exact h.2
theorem chain {α : Type} (a b : Int) (u : Bool) (A B : Option α) : cb u A (if a > b then A else (if a < (-1073741824) then A else (if b > 1073741824 then A else B))) = cb (g a b u) B A := by
  unfold g
  cases u
  · rw [cb_f, Bool.not_false, Bool.true_and, cb_v]
    simp only [Bool.and_eq_true, decide_eq_true_eq]
    by_cases c1 : a > b
    · rw [if_pos c1, if_neg (by omega)]
    · rw [if_neg c1]
      by_cases c2 : a < -1073741824
      · rw [if_pos c2, if_neg (by omega)]
      · rw [if_neg c2]
        by_cases c3 : b > 1073741824
        · rw [if_pos c3, if_neg (by omega)]
        · rw [if_neg c3, if_pos (by omega)]
  · rw [cb_t, Bool.not_true, Bool.false_and, cb_f]
theorem sides_eq (L : Nat) (hL : 3 < L) (x0 x1 : Int) (x2 : Bool) (y0 y1 : Int) (y2 : Bool) (z0 z1 : Int) (z2 : Bool) :
    p_query_sides L x0 x1 x2 y0 y1 y2 z0 z1 z2 = some (x0, x1, x2, y0, y1, y2, z0, z1, z2, g x0 x1 x2 && (g y0 y1 y2 && g z0 z1 z2)) := by
  unfold p_query_sides
  rw [rq_t hL]
  simp only [p_query_sides_l0, chain]
  simp only [decide_true, show decide ((0 : Int) + 1 = 0) = false from rfl, show decide ((0 : Int) + 1 = 1) = true from rfl, show decide ((0 : Int) + 1 + 1 = 0) = false from rfl, show decide ((0 : Int) + 1 + 1 = 1) = false from rfl, show decide ((0 : Int) + 1 + 1 = 2) = true from rfl, cb_t, cb_f]
  cases g x0 x1 x2
  · rfl
  · cases g y0 y1 y2
    · rfl
    · cases g z0 z1 z2 <;> rfl
def ls (a b : Int) : List Int := if a ≤ 0 ∧ b ≥ 0 then [a, b, 0] else [a, b]
theorem ls_f {α : Type} (a b : Int) (F : List Int → α) : (if a ≤ 0 then (if b ≥ 0 then F [a, b, 0] else F [a, b]) else F [a, b]) = F (ls a b) := by
  unfold ls
  by_cases c1 : a ≤ 0
  · by_cases c2 : b ≥ 0
    · rw [if_pos c1, if_pos c2, if_pos ⟨c1, c2⟩]
    · rw [if_pos c1, if_neg c2, if_neg (fun h => c2 h.2)]
  · rw [if_neg c1, if_neg (fun h => c1 h.1)]
theorem ends_eq (L : Nat) (hL : 3 < L) (x0 x1 : Int) (x2 : Bool) (y0 y1 : Int) (y2 : Bool) (z0 z1 : Int) (z2 : Bool) :
    ∃ r, p_spyref3_ends L x0 x1 x2 y0 y1 y2 z0 z1 z2 = some r ∧ r.2.2.2 = (g x0 x1 x2 && (g y0 y1 y2 && g z0 z1 z2)) ∧ (r.2.2.2 = true → r = (ls x0 x1, ls y0 y1, ls z0 z1, true)) := by
  have t0 : ∀ k s3 s4 s5, p_spyref3_ends_l0 L x0 x1 x2 y0 y1 y2 z0 z1 z2 (k + 1) 0 s3 s4 s5 = cb (g x0 x1 x2) (p_spyref3_ends_l0 L x0 x1 x2 y0 y1 y2 z0 z1 z2 k (0 + 1) (ls x0 x1) s4 s5) (some (.inr (s3, s4, s5))) := by
    intro k s3 s4 s5
    rw [p_spyref3_ends_l0, decide_eq_true (show (0 : Int) = 0 from rfl), cb_t, ls_f x0 x1 (fun q => p_spyref3_ends_l0 L x0 x1 x2 y0 y1 y2 z0 z1 z2 k (0 + 1) q s4 s5), chain]
  have t1 : ∀ k s3 s4 s5, p_spyref3_ends_l0 L x0 x1 x2 y0 y1 y2 z0 z1 z2 (k + 1) (0 + 1) s3 s4 s5 = cb (g y0 y1 y2) (p_spyref3_ends_l0 L x0 x1 x2 y0 y1 y2 z0 z1 z2 k (0 + 1 + 1) s3 (ls y0 y1) s5) (some (.inr (s3, s4, s5))) := by
    intro k s3 s4 s5
    rw [p_spyref3_ends_l0, decide_eq_false (show ¬ ((0 : Int) + 1 = 0) by decide), cb_f, decide_eq_true (show (0 : Int) + 1 = 1 from rfl), cb_t, ls_f y0 y1 (fun q => p_spyref3_ends_l0 L x0 x1 x2 y0 y1 y2 z0 z1 z2 k (0 + 1 + 1) s3 q s5), chain]
  have t2 : ∀ k s3 s4 s5, p_spyref3_ends_l0 L x0 x1 x2 y0 y1 y2 z0 z1 z2 (k + 1) (0 + 1 + 1) s3 s4 s5 = cb (g z0 z1 z2) (p_spyref3_ends_l0 L x0 x1 x2 y0 y1 y2 z0 z1 z2 k (0 + 1 + 1 + 1) s3 s4 (ls z0 z1)) (some (.inr (s3, s4, s5))) := by
    intro k s3 s4 s5
    rw [p_spyref3_ends_l0, decide_eq_false (show ¬ ((0 : Int) + 1 + 1 = 0) by decide), cb_f, decide_eq_false (show ¬ ((0 : Int) + 1 + 1 = 1) by decide), cb_f, decide_eq_true (show (0 : Int) + 1 + 1 = 2 from rfl), cb_t, ls_f z0 z1 (fun q => p_spyref3_ends_l0 L x0 x1 x2 y0 y1 y2 z0 z1 z2 k (0 + 1 + 1 + 1) s3 s4 q), chain]
  unfold p_spyref3_ends
  rw [rq_t hL, t0 2]
  cases g x0 x1 x2
  · exact ⟨_, rfl, rfl, fun h => by cases h⟩
  · rw [cb_t, t1 1]
    cases g y0 y1 y2
    · exact ⟨_, rfl, rfl, fun h => by cases h⟩
    · rw [cb_t, t2 0]
      cases g z0 z1 z2
      · exact ⟨_, rfl, rfl, fun h => by cases h⟩
      · exact ⟨_, rfl, rfl, fun h => rfl⟩
/-! ### least and greatest -/
theorem min_l0 (L : Nat) (l : List Int) (hl : l.length < 4611686018427387904) : ∀ (r p : List Int) (k : Nat) (m : Int), l = p ++ r → r.length + 1 ≤ k → p_slices_Min_int64_l0 L l k m (p.length : Int) = some (r.foldl min m)
  | [], p, k, m, e, h => by
    obtain ⟨k, rfl⟩ : ∃ j, k = j + 1 := ⟨k - 1, by omega⟩
    subst e
    rw [p_slices_Min_int64_l0, if_neg (by simp)]; rfl
  | x :: r, p, k, m, e, h => by
    obtain ⟨k, rfl⟩ : ∃ j, k = j + 1 := ⟨k - 1, by omega⟩
    rw [List.length_cons] at h
    have ih := min_l0 L l hl r (p ++ [x]) k (min m x) (by rw [e]; simp) (by omega)
    have hn : l.length = p.length + (r.length + 1) := by rw [e]; simp
    rw [p_slices_Min_int64_l0, if_pos (by omega), show idx l (p.length : Int) = some x by rw [e]; exact idx_app p x r, bnd_s, w64 (by omega), min_v, List.foldl_cons, ← ih]
    congr 1
    simp
theorem max_l0 (L : Nat) (l : List Int) (hl : l.length < 4611686018427387904) : ∀ (r p : List Int) (k : Nat) (m : Int), l = p ++ r → r.length + 1 ≤ k → p_slices_Max_int64_l0 L l k m (p.length : Int) = some (r.foldl max m)
  | [], p, k, m, e, h => by
    obtain ⟨k, rfl⟩ : ∃ j, k = j + 1 := ⟨k - 1, by omega⟩
    subst e
    rw [p_slices_Max_int64_l0, if_neg (by simp)]; rfl
  | x :: r, p, k, m, e, h => by
    obtain ⟨k, rfl⟩ : ∃ j, k = j + 1 := ⟨k - 1, by omega⟩
    rw [List.length_cons] at h
    have ih := max_l0 L l hl r (p ++ [x]) k (max m x) (by rw [e]; simp) (by omega)
    have hn : l.length = p.length + (r.length + 1) := by rw [e]; simp
    rw [p_slices_Max_int64_l0, if_pos (by omega), show idx l (p.length : Int) = some x by rw [e]; exact idx_app p x r, bnd_s, w64 (by omega), max_v, List.foldl_cons, ← ih]
    congr 1
    simp
theorem min_eq (L : Nat) (x : Int) (r : List Int) (h : r.length < 100) (hL : 200 < L) : p_slices_Min_int64 L (x :: r) = some (r.foldl min x) := by
  have e : p_slices_Min_int64_l0 L (x :: r) L x 1 = some (r.foldl min x) := min_l0 L (x :: r) (by simp; omega) r [x] L x rfl (by omega)
  unfold p_slices_Min_int64
  rw [if_neg (by simp; omega), idx_z, bnd_s, e, bnd_s]
theorem max_eq (L : Nat) (x : Int) (r : List Int) (h : r.length < 100) (hL : 200 < L) : p_slices_Max_int64 L (x :: r) = some (r.foldl max x) := by
  have e : p_slices_Max_int64_l0 L (x :: r) L x 1 = some (r.foldl max x) := max_l0 L (x :: r) (by simp; omega) r [x] L x rfl (by omega)
  unfold p_slices_Max_int64
  rw [if_neg (by simp; omega), idx_z, bnd_s, e, bnd_s]
def In (l : List Int) : Prop := ∀ x ∈ l, -1073741824 ≤ x ∧ x ≤ 1073741824
theorem ls_in {a b : Int} (h : a ≤ b ∧ -1073741824 ≤ a ∧ b ≤ 1073741824) : In (ls a b) := by
  intro x hx
  unfold ls at hx
  split at hx <;> simp at hx <;> omega
theorem ls_len (a b : Int) : (ls a b).length ≤ 3 := by unfold ls; split <;> simp
theorem mul_in {x y : Int} (hx : -1073741824 ≤ x ∧ x ≤ 1073741824) (hy : -1073741824 ≤ y ∧ y ≤ 1073741824) : -1152921504606846976 ≤ x * y ∧ x * y ≤ 1152921504606846976 := by
  have h1 : (x * y).natAbs ≤ 1073741824 * 1073741824 := by rw [Int.natAbs_mul]; exact Nat.mul_le_mul (by omega) (by omega)
  omega
theorem l2_eq (L : Nat) (x : Int) (hx : -1073741824 ≤ x ∧ x ≤ 1073741824) : ∀ (l s : List Int), In l → s.length + l.length < 1000 → p_spyref3_Close_l2 L x l s = some (s ++ l.map fun y => x * y)
  | [], s, _, _ => by rw [p_spyref3_Close_l2]; simp
  | y :: r, s, hi, h => by
    rw [List.length_cons] at h
    have := mul_in hx (hi y (by simp))
    rw [p_spyref3_Close_l2, rq_t (by rw [maxRow_v]; omega), rq_t (by rw [maxRow_v]; omega), w64 (by omega), l2_eq L x hx r _ (fun z hz => hi z (by simp [hz])) (by simp; omega)]
    simp
theorem l3_2 (L : Nat) (x : Int) : ∀ (l s : List Int), p_spyref3_Close_l3 L x l s = p_spyref3_Close_l2 L x l s
  | [], s => by rw [p_spyref3_Close_l3, p_spyref3_Close_l2]
  | y :: r, s => by rw [p_spyref3_Close_l3, p_spyref3_Close_l2, l3_2 L x r]
theorem l4_2 (L : Nat) (x : Int) : ∀ (l s : List Int), p_spyref3_Close_l4 L x l s = p_spyref3_Close_l2 L x l s
  | [], s => by rw [p_spyref3_Close_l4, p_spyref3_Close_l2]
  | y :: r, s => by rw [p_spyref3_Close_l4, p_spyref3_Close_l2, l4_2 L x r]
theorem l6_2 (L : Nat) (x : Int) : ∀ (l s : List Int), p_spyref3_Close_l6 L x l s = p_spyref3_Close_l2 L x l s
  | [], s => by rw [p_spyref3_Close_l6, p_spyref3_Close_l2]
  | y :: r, s => by rw [p_spyref3_Close_l6, p_spyref3_Close_l2, l6_2 L x r]
theorem l7_2 (L : Nat) (x : Int) : ∀ (l s : List Int), p_spyref3_Close_l7 L x l s = p_spyref3_Close_l2 L x l s
  | [], s => by rw [p_spyref3_Close_l7, p_spyref3_Close_l2]
  | y :: r, s => by rw [p_spyref3_Close_l7, p_spyref3_Close_l2, l7_2 L x r]
theorem l8_2 (L : Nat) (x : Int) : ∀ (l s : List Int), p_spyref3_Close_l8 L x l s = p_spyref3_Close_l2 L x l s
  | [], s => by rw [p_spyref3_Close_l8, p_spyref3_Close_l2]
  | y :: r, s => by rw [p_spyref3_Close_l8, p_spyref3_Close_l2, l8_2 L x r]
theorem l10_2 (L : Nat) (x : Int) : ∀ (l s : List Int), p_spyref3_Close_l10 L x l s = p_spyref3_Close_l2 L x l s
  | [], s => by rw [p_spyref3_Close_l10, p_spyref3_Close_l2]
  | y :: r, s => by rw [p_spyref3_Close_l10, p_spyref3_Close_l2, l10_2 L x r]
theorem l11_2 (L : Nat) (x : Int) : ∀ (l s : List Int), p_spyref3_Close_l11 L x l s = p_spyref3_Close_l2 L x l s
  | [], s => by rw [p_spyref3_Close_l11, p_spyref3_Close_l2]
  | y :: r, s => by rw [p_spyref3_Close_l11, p_spyref3_Close_l2, l11_2 L x r]
theorem l12_2 (L : Nat) (x : Int) : ∀ (l s : List Int), p_spyref3_Close_l12 L x l s = p_spyref3_Close_l2 L x l s
  | [], s => by rw [p_spyref3_Close_l12, p_spyref3_Close_l2]
  | y :: r, s => by rw [p_spyref3_Close_l12, p_spyref3_Close_l2, l12_2 L x r]
theorem l1_eq (L : Nat) (hL : 200 < L) (s4 : Int) (a8 a9 a10 a : List Int) (h8 : s4 = 0 ∧ a = a8 ∨ s4 = 1 ∧ a = a9 ∨ s4 = 2 ∧ a = a10) (ha : In a) (hn : a.length ≤ 3) : ∀ (l s : List Int), In l → s.length + l.length * 3 < 900 → p_spyref3_Close_l1 L s4 a8 a9 a10 l s = some (s ++ l.flatMap fun x => a.map fun y => x * y)
  | [], s, _, _ => by rw [p_spyref3_Close_l1]; simp
  | x :: r, s, hi, h => by
    rw [List.length_cons] at h
    have hx := hi x (by simp)
    have ih := l1_eq L hL s4 a8 a9 a10 a h8 ha hn r (s ++ a.map fun y => x * y) (fun z hz => hi z (by simp [hz])) (by simp; omega)
    have hq := l2_eq L x hx a s ha (by omega)
    rw [p_spyref3_Close_l1, cb_d, cb_d, cb_d, l3_2, l4_2]
    rcases h8 with ⟨rfl, rfl⟩ | ⟨rfl, rfl⟩ | ⟨rfl, rfl⟩
    · rw [if_pos rfl, rq_t (by omega), hq, bnd_s, ih]; simp
    · rw [if_neg (by decide), if_pos rfl, rq_t (by omega), hq, bnd_s, ih]; simp
    · rw [if_neg (by decide), if_neg (by decide), if_pos rfl, rq_t (by omega), hq, bnd_s, ih]; simp
def lo4 (a b c d : Int) : Int := min (min (min (a * c) (a * d)) (b * c)) (b * d)
def hi4 (a b c d : Int) : Int := max (max (max (a * c) (a * d)) (b * c)) (b * d)
theorem zero_mid {a b c : Int} (ha : a ≤ 0) (hb : 0 ≤ b) : (a * c ≤ 0 ∧ 0 ≤ b * c) ∨ (b * c ≤ 0 ∧ 0 ≤ a * c) := by
  rcases Int.le_total 0 c with h | h
  · exact .inl ⟨Int.mul_nonpos_of_nonpos_of_nonneg ha h, Int.mul_nonneg hb h⟩
  · exact .inr ⟨Int.mul_nonpos_of_nonneg_of_nonpos hb h, Int.mul_nonneg_of_nonpos_of_nonpos ha h⟩
theorem prods (L : Nat) (hL : 200 < L) (a b c d : Int) (h1 : a ≤ b) (h2 : c ≤ d) : ∃ x r, ((ls a b).flatMap fun x => (ls c d).map fun y => x * y) = x :: r ∧ r.length < 100 ∧ r.foldl min x = lo4 a b c d ∧ r.foldl max x = hi4 a b c d := by
  unfold ls lo4 hi4
  by_cases c1 : a ≤ 0 ∧ b ≥ 0
  · rw [if_pos c1]
    have z1 := zero_mid (c := c) c1.1 c1.2
    by_cases c2 : c ≤ 0 ∧ d ≥ 0
    · rw [if_pos c2]
      simp only [List.flatMap_cons, List.flatMap_nil, List.map_cons, List.map_nil, List.cons_append, List.nil_append, Int.mul_zero, Int.zero_mul]
      refine ⟨_, _, rfl, by simp, ?_, ?_⟩
      · simp only [List.foldl]; omega
      · simp only [List.foldl]; omega
    · rw [if_neg c2]
      simp only [List.flatMap_cons, List.flatMap_nil, List.map_cons, List.map_nil, List.cons_append, List.nil_append, Int.mul_zero, Int.zero_mul]
      refine ⟨_, _, rfl, by simp, ?_, ?_⟩
      · simp only [List.foldl]; omega
      · simp only [List.foldl]; omega
  · rw [if_neg c1]
    by_cases c2 : c ≤ 0 ∧ d ≥ 0
    · rw [if_pos c2]
      have z1 := zero_mid (c := a) c2.1 c2.2
      rw [Int.mul_comm c a, Int.mul_comm d a] at z1
      simp only [List.flatMap_cons, List.flatMap_nil, List.map_cons, List.map_nil, List.cons_append, List.nil_append, Int.mul_zero, Int.zero_mul]
      refine ⟨_, _, rfl, by simp, ?_, ?_⟩
      · simp only [List.foldl]; omega
      · simp only [List.foldl]; omega
    · rw [if_neg c2]
      simp only [List.flatMap_cons, List.flatMap_nil, List.map_cons, List.map_nil, List.cons_append, List.nil_append, Int.mul_zero, Int.zero_mul]
      refine ⟨_, _, rfl, by simp, ?_, ?_⟩
      · simp only [List.foldl]
      · simp only [List.foldl]
def sqlo (a b : Int) : Int := if a > 0 ∨ b < 0 then min (a * a) (b * b) else 0
def sqhi (a b : Int) : Int := max (a * a) (b * b)
theorem sql_eq (L : Nat) : ∀ (l s : List Int), In l → s.length + l.length < 1000 → p_spyref3_squares_l1 L l s = some (s ++ l.map fun y => y * y)
  | [], s, _, _ => by rw [p_spyref3_squares_l1]; simp
  | y :: r, s, hi, h => by
    rw [List.length_cons] at h
    have := mul_in (hi y (by simp)) (hi y (by simp))
    rw [p_spyref3_squares_l1, rq_t (by rw [maxRow_v]; omega), rq_t (by rw [maxRow_v]; omega), w64 (by omega), sql_eq L r _ (fun z hz => hi z (by simp [hz])) (by simp; omega)]
    simp
theorem sqs (a b : Int) (h1 : a ≤ b) : ∃ x r, ((ls a b).map fun y => y * y) = x :: r ∧ r.length < 100 ∧ r.foldl min x = sqlo a b ∧ r.foldl max x = sqhi a b := by
  have n1 : 0 ≤ a * a := by rcases Int.le_total 0 a with h | h; exact Int.mul_nonneg h h; exact Int.mul_nonneg_of_nonpos_of_nonpos h h
  have n2 : 0 ≤ b * b := by rcases Int.le_total 0 b with h | h; exact Int.mul_nonneg h h; exact Int.mul_nonneg_of_nonpos_of_nonpos h h
  unfold ls sqlo sqhi
  by_cases c1 : a ≤ 0 ∧ b ≥ 0
  · rw [if_pos c1, if_neg (by omega)]
    simp only [List.map_cons, List.map_nil, Int.mul_zero]
    refine ⟨_, _, rfl, by simp, ?_, ?_⟩
    · simp only [List.foldl]; omega
    · simp only [List.foldl]; omega
  · rw [if_neg c1, if_pos (by omega)]
    simp only [List.map_cons, List.map_nil]
    exact ⟨_, _, rfl, by simp, rfl, rfl⟩
theorem square_eq (L : Nat) (a b : Int) (u : Bool) (h : a ≤ b ∧ -1073741824 ≤ a ∧ b ≤ 1073741824) : p_query_square L a b u = some (sqlo a b, sqhi a b) := by
  have m1 := mul_in (x := a) (y := a) (by omega) (by omega)
  have m2 := mul_in (x := b) (y := b) (by omega) (by omega)
  unfold p_query_square sqlo sqhi
  rw [w64 (by omega), w64 (by omega), min_v, max_v]
  by_cases c1 : a > 0
  · rw [if_pos c1, if_pos (.inl c1)]
  · rw [if_neg c1]
    by_cases c2 : b < 0
    · rw [if_pos c2, if_pos (.inr c2)]
    · rw [if_neg c2, if_neg (by omega)]
theorem product_eq (L : Nat) (a b : Int) (u : Bool) (c d : Int) (v : Bool) (h : a ≤ b ∧ -1073741824 ≤ a ∧ b ≤ 1073741824) (h2 : c ≤ d ∧ -1073741824 ≤ c ∧ d ≤ 1073741824) : p_query_product L a b u c d v = some (lo4 a b c d, hi4 a b c d) := by
  have m1 := mul_in (x := a) (y := c) (by omega) (by omega)
  have m2 := mul_in (x := a) (y := d) (by omega) (by omega)
  have m3 := mul_in (x := b) (y := c) (by omega) (by omega)
  have m4 := mul_in (x := b) (y := d) (by omega) (by omega)
  unfold p_query_product lo4 hi4
  rw [w64 (by omega), w64 (by omega), w64 (by omega), w64 (by omega), min_v, min_v, min_v, max_v, max_v, max_v]
theorem lo4_bd {a b c d : Int} (h : a ≤ b ∧ -1073741824 ≤ a ∧ b ≤ 1073741824) (h2 : c ≤ d ∧ -1073741824 ≤ c ∧ d ≤ 1073741824) : -1152921504606846976 ≤ lo4 a b c d ∧ lo4 a b c d ≤ 1152921504606846976 ∧ -1152921504606846976 ≤ hi4 a b c d ∧ hi4 a b c d ≤ 1152921504606846976 := by
  have m1 := mul_in (x := a) (y := c) (by omega) (by omega)
  have m2 := mul_in (x := a) (y := d) (by omega) (by omega)
  have m3 := mul_in (x := b) (y := c) (by omega) (by omega)
  have m4 := mul_in (x := b) (y := d) (by omega) (by omega)
  unfold lo4 hi4; omega
theorem sq_bd {a b : Int} (h : a ≤ b ∧ -1073741824 ≤ a ∧ b ≤ 1073741824) : 0 ≤ sqlo a b ∧ sqlo a b ≤ 1152921504606846976 ∧ 0 ≤ sqhi a b ∧ sqhi a b ≤ 1152921504606846976 := by
  have m1 := mul_in (x := a) (y := a) (by omega) (by omega)
  have m2 := mul_in (x := b) (y := b) (by omega) (by omega)
  have n1 : 0 ≤ a * a := by rcases Int.le_total 0 a with h | h; exact Int.mul_nonneg h h; exact Int.mul_nonneg_of_nonpos_of_nonpos h h
  have n2 : 0 ≤ b * b := by rcases Int.le_total 0 b with h | h; exact Int.mul_nonneg h h; exact Int.mul_nonneg_of_nonpos_of_nonpos h h
  unfold sqlo sqhi
  refine ⟨?_, ?_, by omega, by omega⟩ <;> split <;> omega
theorem l5_1 (L : Nat) (s4 : Int) (a8 a9 a10 : List Int) : ∀ (l s : List Int), p_spyref3_Close_l5 L s4 a8 a9 a10 l s = p_spyref3_Close_l1 L s4 a8 a9 a10 l s
  | [], s => by rw [p_spyref3_Close_l5, p_spyref3_Close_l1]
  | y :: r, s => by
    rw [p_spyref3_Close_l5, p_spyref3_Close_l1, l6_2, l7_2, l8_2, l3_2, l4_2]
    simp only [l5_1 L s4 a8 a9 a10 r]
theorem l9_1 (L : Nat) (s4 : Int) (a8 a9 a10 : List Int) : ∀ (l s : List Int), p_spyref3_Close_l9 L s4 a8 a9 a10 l s = p_spyref3_Close_l1 L s4 a8 a9 a10 l s
  | [], s => by rw [p_spyref3_Close_l9, p_spyref3_Close_l1]
  | y :: r, s => by
    rw [p_spyref3_Close_l9, p_spyref3_Close_l1, l10_2, l11_2, l12_2, l3_2, l4_2]
    simp only [l9_1 L s4 a8 a9 a10 r]
theorem sq2_1 (L : Nat) : ∀ (l s : List Int), p_spyref3_squares_l2 L l s = p_spyref3_squares_l1 L l s
  | [], s => by rw [p_spyref3_squares_l2, p_spyref3_squares_l1]
  | y :: r, s => by rw [p_spyref3_squares_l2, p_spyref3_squares_l1, sq2_1 L r]
theorem sq3_1 (L : Nat) : ∀ (l s : List Int), p_spyref3_squares_l3 L l s = p_spyref3_squares_l1 L l s
  | [], s => by rw [p_spyref3_squares_l3, p_spyref3_squares_l1]
  | y :: r, s => by rw [p_spyref3_squares_l3, p_spyref3_squares_l1, sq3_1 L r]
def Bx (a b : Int) : Prop := a ≤ b ∧ -1073741824 ≤ a ∧ b ≤ 1073741824
/-- The sums that both sides take. -/
theorem squares_eq (L : Nat) (hL : 200 < L) (x0 x1 y0 y1 z0 z1 : Int) (hx : Bx x0 x1) (hy : Bx y0 y1) (hz : Bx z0 z1) :
    p_spyref3_squares L (ls x0 x1) (ls y0 y1) (ls z0 z1) = some (sqlo x0 x1 + sqlo y0 y1 + sqlo z0 z1, sqhi x0 x1 + sqhi y0 y1 + sqhi z0 z1) := by
  have b1 := sq_bd hx
  have b2 := sq_bd hy
  have b3 := sq_bd hz
  have n1 := ls_len x0 x1
  have n2 := ls_len y0 y1
  have n3 := ls_len z0 z1
  obtain ⟨u1, r1, e1, f1, g1, h1⟩ := sqs x0 x1 hx.1
  obtain ⟨u2, r2, e2, f2, g2, h2⟩ := sqs y0 y1 hy.1
  obtain ⟨u3, r3, e3, f3, g3, h3⟩ := sqs z0 z1 hz.1
  have q1 := sql_eq L (ls x0 x1) [] (ls_in hx) (by simp; omega)
  have q2 := sql_eq L (ls y0 y1) [] (ls_in hy) (by simp; omega)
  have q3 := sql_eq L (ls z0 z1) [] (ls_in hz) (by simp; omega)
  rw [List.nil_append, e1] at q1
  rw [List.nil_append, e2] at q2
  rw [List.nil_append, e3] at q3
  unfold p_spyref3_squares
  rw [rq_t (by omega), p_spyref3_squares_l0, decide_eq_true (show (0 : Int) = 0 from rfl), cb_t, rq_t (by omega), q1, bnd_s, min_eq L _ _ f1 hL, bnd_s, max_eq L _ _ f1 hL, bnd_s, g1, h1, w64 (by omega), w64 (by omega)]
  rw [p_spyref3_squares_l0, decide_eq_false (show ¬ ((0 : Int) + 1 = 0) by decide), cb_f, decide_eq_true (show (0 : Int) + 1 = 1 from rfl), cb_t, rq_t (by omega), sq2_1, q2, bnd_s, min_eq L _ _ f2 hL, bnd_s, max_eq L _ _ f2 hL, bnd_s, g2, h2, w64 (by omega), w64 (by omega)]
  rw [p_spyref3_squares_l0, decide_eq_false (show ¬ ((0 : Int) + 1 + 1 = 0) by decide), cb_f, decide_eq_false (show ¬ ((0 : Int) + 1 + 1 = 1) by decide), cb_f, decide_eq_true (show (0 : Int) + 1 + 1 = 2 from rfl), cb_t, rq_t (by omega), sq3_1, q3, bnd_s, min_eq L _ _ f3 hL, bnd_s, max_eq L _ _ f3 hL, bnd_s, g3, h3, w64 (by omega), w64 (by omega), p_spyref3_squares_l0, bnd_s]
  simp only [Int.zero_add]
theorem close_sums (L : Nat) (hL : 200 < L) (x0 x1 y0 y1 z0 z1 : Int) (hx : Bx x0 x1) (hy : Bx y0 y1) (hz : Bx z0 z1) (a0 a1 b0 b1 c0 c1 : Int) (ha : Bx a0 a1) (hb : Bx b0 b1) (hc : Bx c0 c1) :
    p_spyref3_Close_l0 L (ls x0 x1) (ls y0 y1) (ls z0 z1) (ls a0 a1) (ls b0 b1) (ls c0 c1) 3 0 0 0 = some (lo4 x0 x1 a0 a1 + lo4 y0 y1 b0 b1 + lo4 z0 z1 c0 c1, hi4 x0 x1 a0 a1 + hi4 y0 y1 b0 b1 + hi4 z0 z1 c0 c1) := by
  have d1 := lo4_bd hx ha
  have d2 := lo4_bd hy hb
  have d3 := lo4_bd hz hc
  have n1 := ls_len x0 x1
  have n2 := ls_len y0 y1
  have n3 := ls_len z0 z1
  obtain ⟨u1, r1, e1, f1, g1, h1⟩ := prods L hL x0 x1 a0 a1 hx.1 ha.1
  obtain ⟨u2, r2, e2, f2, g2, h2⟩ := prods L hL y0 y1 b0 b1 hy.1 hb.1
  obtain ⟨u3, r3, e3, f3, g3, h3⟩ := prods L hL z0 z1 c0 c1 hz.1 hc.1
  have q1 := l1_eq L hL 0 (ls a0 a1) (ls b0 b1) (ls c0 c1) (ls a0 a1) (.inl ⟨rfl, rfl⟩) (ls_in ha) (ls_len _ _) (ls x0 x1) [] (ls_in hx) (by simp; omega)
  have q2 := l1_eq L hL (0 + 1) (ls a0 a1) (ls b0 b1) (ls c0 c1) (ls b0 b1) (.inr (.inl ⟨rfl, rfl⟩)) (ls_in hb) (ls_len _ _) (ls y0 y1) [] (ls_in hy) (by simp; omega)
  have q3 := l1_eq L hL (0 + 1 + 1) (ls a0 a1) (ls b0 b1) (ls c0 c1) (ls c0 c1) (.inr (.inr ⟨rfl, rfl⟩)) (ls_in hc) (ls_len _ _) (ls z0 z1) [] (ls_in hz) (by simp; omega)
  rw [List.nil_append, e1] at q1
  rw [List.nil_append, e2] at q2
  rw [List.nil_append, e3] at q3
  rw [p_spyref3_Close_l0, decide_eq_true (show (0 : Int) = 0 from rfl), cb_t, rq_t (by omega), q1, bnd_s, min_eq L _ _ f1 hL, bnd_s, max_eq L _ _ f1 hL, bnd_s, g1, h1, w64 (by omega), w64 (by omega)]
  rw [p_spyref3_Close_l0, decide_eq_false (show ¬ ((0 : Int) + 1 = 0) by decide), cb_f, decide_eq_true (show (0 : Int) + 1 = 1 from rfl), cb_t, rq_t (by omega), l5_1, q2, bnd_s, min_eq L _ _ f2 hL, bnd_s, max_eq L _ _ f2 hL, bnd_s, g2, h2, w64 (by omega), w64 (by omega)]
  rw [p_spyref3_Close_l0, decide_eq_false (show ¬ ((0 : Int) + 1 + 1 = 0) by decide), cb_f, decide_eq_false (show ¬ ((0 : Int) + 1 + 1 = 1) by decide), cb_f, decide_eq_true (show (0 : Int) + 1 + 1 = 2 from rfl), cb_t, rq_t (by omega), l9_1, q3, bnd_s, min_eq L _ _ f3 hL, bnd_s, max_eq L _ _ f3 hL, bnd_s, g3, h3, w64 (by omega), w64 (by omega), p_spyref3_Close_l0]
  simp only [Int.zero_add]
theorem near_sums (L : Nat) (x0 x1 : Int) (xu : Bool) (y0 y1 : Int) (yu : Bool) (z0 z1 : Int) (zu : Bool) (hx : Bx x0 x1) (hy : Bx y0 y1) (hz : Bx z0 z1) (a0 a1 : Int) (au : Bool) (b0 b1 : Int) (bu : Bool) (c0 c1 : Int) (cu : Bool) (ha : Bx a0 a1) (hb : Bx b0 b1) (hc : Bx c0 c1) :
    p_query_Near_l0 L x0 x1 xu y0 y1 yu z0 z1 zu a0 a1 au b0 b1 bu c0 c1 cu 3 0 0 0 0 0 0 0 = some (lo4 x0 x1 a0 a1 + lo4 y0 y1 b0 b1 + lo4 z0 z1 c0 c1, hi4 x0 x1 a0 a1 + hi4 y0 y1 b0 b1 + hi4 z0 z1 c0 c1,
      sqlo x0 x1 + sqlo y0 y1 + sqlo z0 z1, sqhi x0 x1 + sqhi y0 y1 + sqhi z0 z1, sqlo a0 a1 + sqlo b0 b1 + sqlo c0 c1, sqhi a0 a1 + sqhi b0 b1 + sqhi c0 c1) := by
  have d1 := lo4_bd hx ha
  have d2 := lo4_bd hy hb
  have d3 := lo4_bd hz hc
  have s1 := sq_bd hx
  have s2 := sq_bd hy
  have s3 := sq_bd hz
  have s4 := sq_bd ha
  have s5 := sq_bd hb
  have s6 := sq_bd hc
  rw [p_query_Near_l0, decide_eq_true (show (0 : Int) = 0 from rfl), cb_t, product_eq L _ _ _ _ _ _ hx ha, bnd_s, square_eq L _ _ _ hx, bnd_s, square_eq L _ _ _ ha, bnd_s]
  simp only
  rw [w64 (by omega), w64 (by omega), w64 (by omega), w64 (by omega), w64 (by omega), w64 (by omega)]
  rw [p_query_Near_l0, decide_eq_false (show ¬ ((0 : Int) + 1 = 0) by decide), cb_f, decide_eq_true (show (0 : Int) + 1 = 1 from rfl), cb_t, product_eq L _ _ _ _ _ _ hy hb, bnd_s, square_eq L _ _ _ hy, bnd_s, square_eq L _ _ _ hb, bnd_s]
  simp only
  rw [w64 (by omega), w64 (by omega), w64 (by omega), w64 (by omega), w64 (by omega), w64 (by omega)]
  rw [p_query_Near_l0, decide_eq_false (show ¬ ((0 : Int) + 1 + 1 = 0) by decide), cb_f, decide_eq_false (show ¬ ((0 : Int) + 1 + 1 = 1) by decide), cb_f, decide_eq_true (show (0 : Int) + 1 + 1 = 2 from rfl), cb_t, product_eq L _ _ _ _ _ _ hz hc, bnd_s, square_eq L _ _ _ hz, bnd_s, square_eq L _ _ _ hc, bnd_s]
  simp only
  rw [w64 (by omega), w64 (by omega), w64 (by omega), w64 (by omega), w64 (by omega), w64 (by omega), p_query_Near_l0]
  simp only [Int.zero_add]
/-! ### comparisons -/
def sg (x : Int) : Int := if x < 0 then -1 else if x > 0 then 1 else 0
def cm (a b : Int) : Int := if a < b then -1 else if a > b then 1 else 0
theorem cm_lt {a b : Int} : cm a b < 0 ↔ a < b := by unfold cm; split; omega; split <;> omega
theorem cm_ge {a b : Int} : cm a b ≥ 0 ↔ ¬ a < b := by unfold cm; split; omega; split <;> omega
theorem cmp1 (L : Nat) (a b : Int) : p_cmp_Compare_int64 L a b = some (cm a b) := by
  unfold p_cmp_Compare_int64 p_cmp_isNaN_int64 cm
  rw [decide_eq_true (rfl : a = a), decide_eq_true (rfl : b = b), bnd_s, bnd_s]
  simp only [Bool.not_true, cb_f]
  split; rfl; split <;> rfl
theorem cmp2 (L : Nat) (a b : Int) : p_cmp_Compare_uint64 L a b = some (cm a b) := by
  unfold p_cmp_Compare_uint64 p_cmp_isNaN_uint64 cm
  rw [decide_eq_true (rfl : a = a), decide_eq_true (rfl : b = b), bnd_s, bnd_s]
  simp only [Bool.not_true, cb_f]
  split; rfl; split <;> rfl
theorem wcmp (L : Nat) (hL : 200 < L) (n m : Int) (hn : -85070591730234615865843651857942052864 ≤ n ∧ n ≤ 85070591730234615865843651857942052864) (hm : -85070591730234615865843651857942052864 ≤ m ∧ m ≤ 85070591730234615865843651857942052864) :
    p_num_Wide_Cmp L (wideN n).1 (wideN n).2 (wideN m).1 (wideN m).2 = some (cm n m) := by
  unfold p_num_Wide_Cmp p_cmp_Or_int wideN
  simp only
  rw [w64 (x := n / 18446744073709551616) (by omega), w64 (x := m / 18446744073709551616) (by omega), cmp1, bnd_s, cmp2, bnd_s, rq_t (by simp; omega)]
  simp only [p_cmp_Or_int_l0, cb_d]
  have key : cm n m = if cm (n / 18446744073709551616) (m / 18446744073709551616) = 0 then cm (n % 18446744073709551616) (m % 18446744073709551616) else cm (n / 18446744073709551616) (m / 18446744073709551616) := by
    unfold cm
    repeat' split
    all_goals omega
  rw [key]
  by_cases c1 : cm (n / 18446744073709551616) (m / 18446744073709551616) = 0
  · rw [if_pos c1, if_pos c1]
    by_cases c2 : cm (n % 18446744073709551616) (m % 18446744073709551616) = 0
    · rw [if_pos c2, c2]; rfl
    · rw [if_neg c2]; rfl
  · rw [if_neg c1, if_neg c1]; rfl
theorem prod_eq (L : Nat) (a b : Int) (ha : -4611686018427387904 ≤ a ∧ a ≤ 4611686018427387904) (hb : -4611686018427387904 ≤ b ∧ b ≤ 4611686018427387904) : p_num_Product L a b = some (wideN (a * b)) := by
  unfold p_num_Product
  rw [iB_t (by omega), iB_t (by omega)]; rfl
theorem prod_bd {x y : Int} (hx : -4611686018427387904 ≤ x ∧ x ≤ 4611686018427387904) (hy : -4611686018427387904 ≤ y ∧ y ≤ 4611686018427387904) : -21267647932558653966460912964485513216 ≤ x * y ∧ x * y ≤ 21267647932558653966460912964485513216 := by
  have h1 : (x * y).natAbs ≤ 4611686018427387904 * 4611686018427387904 := by rw [Int.natAbs_mul]; exact Nat.mul_le_mul (by omega) (by omega)
  omega
theorem sign_eq (L : Nat) (a : Int) : p_spyref3_sign L a = some (sg a) := by
  unfold p_spyref3_sign sg
  split; rfl; split <;> rfl
theorem size_eq (L : Nat) (a : Int) (h : -4611686018427387904 ≤ a ∧ a ≤ 4611686018427387904) : p_spyref3_size L a = some (a.natAbs : Int) := by
  unfold p_spyref3_size
  by_cases c : a < 0
  · rw [if_pos c]; simp only [wu]; congr 1; omega
  · rw [if_neg c]; simp only [wu]; congr 1; omega
theorem sg_mul (a b : Int) (hb : 0 ≤ b) : i64.wrap (sg a * minI 1 b) = sg (a * b) := by
  rw [min_v]
  by_cases c : b = 0
  · subst c; rw [Int.mul_zero]
    have : min (1 : Int) 0 = 0 := by omega
    rw [this, Int.mul_zero]; rfl
  · have : min (1 : Int) b = 1 := by omega
    rw [this, Int.mul_one]
    unfold sg
    by_cases c1 : a < 0
    · have := Int.mul_neg_of_neg_of_pos c1 (show 0 < b by omega)
      rw [if_pos c1, if_pos this]; rfl
    · by_cases c2 : a > 0
      · have := Int.mul_pos c2 (show 0 < b by omega)
        rw [if_neg c1, if_pos c2, if_neg (by omega), if_pos this]; rfl
      · have : a = 0 := by omega
        subst this
        rw [Int.zero_mul]; rfl
theorem cmp_eq (L : Nat) (a b c d : Int) (ha : -4611686018427387904 ≤ a ∧ a ≤ 4611686018427387904) (hb : 0 ≤ b ∧ b ≤ 4611686018427387904) (hc : -4611686018427387904 ≤ c ∧ c ≤ 4611686018427387904) (hd : 0 ≤ d ∧ d ≤ 4611686018427387904) :
    ∃ r, p_spyref3_Cmp L a b c d = some r ∧ (r < 0 ↔ a * b < c * d) := by
  unfold p_spyref3_Cmp p_bits_Mul64
  rw [sign_eq, bnd_s, sign_eq, bnd_s, sg_mul a b hb.1, sg_mul c d hd.1, size_eq L a ha, bnd_s, size_eq L c hc, u64 (x := b) (by omega), u64 (x := d) (by omega)]
  simp only [bnd_s]
  rw [uB_t (x := (a.natAbs : Int)) (by omega), uB_t (x := (c.natAbs : Int)) (by omega), uB_t (x := b) (by omega), uB_t (x := d) (by omega)]
  simp only [Bool.and_self, cb_t, bnd_s]
  have hA : (a.natAbs : Int) * b = ((a * b).natAbs : Int) := by rw [Int.natAbs_mul, Int.natCast_mul, Int.natAbs_of_nonneg hb.1]
  have hC : (c.natAbs : Int) * d = ((c * d).natAbs : Int) := by rw [Int.natAbs_mul, Int.natCast_mul, Int.natAbs_of_nonneg hd.1]
  rw [hA, hC]
  generalize a * b = p
  generalize c * d = q
  have sp : sg p = -1 ∧ p < 0 ∨ sg p = 1 ∧ p > 0 ∨ sg p = 0 ∧ p = 0 := by unfold sg; split; omega; split <;> omega
  have sq : sg q = -1 ∧ q < 0 ∨ sg q = 1 ∧ q > 0 ∨ sg q = 0 ∧ q = 0 := by unfold sg; split; omega; split <;> omega
  simp only [cb_d]
  by_cases c1 : sg p = sg q
  · rw [if_pos c1]
    by_cases c2 : sg p = 0
    · rw [if_pos c2]
      exact ⟨_, rfl, by rw [w64 (by omega)]; omega⟩
    · rw [if_neg c2]
      by_cases c3 : (p.natAbs : Int) / 18446744073709551616 = (q.natAbs : Int) / 18446744073709551616
      · rw [if_pos c3]
        by_cases c4 : (p.natAbs : Int) % 18446744073709551616 = (q.natAbs : Int) % 18446744073709551616
        · rw [if_pos c4]; exact ⟨_, rfl, by omega⟩
        · rw [if_neg c4, if_neg (by omega)]
          by_cases c5 : sg p > 0
          · by_cases c6 : (p.natAbs : Int) % 18446744073709551616 > (q.natAbs : Int) % 18446744073709551616
            · rw [decide_eq_true c5, decide_eq_true c6]; exact ⟨1, rfl, by omega⟩
            · rw [decide_eq_true c5, decide_eq_false c6]; exact ⟨-1, rfl, by omega⟩
          · by_cases c6 : (p.natAbs : Int) % 18446744073709551616 > (q.natAbs : Int) % 18446744073709551616
            · rw [decide_eq_false c5, decide_eq_true c6]; exact ⟨-1, rfl, by omega⟩
            · rw [decide_eq_false c5, decide_eq_false c6]; exact ⟨1, rfl, by omega⟩
      · rw [if_neg c3]
        by_cases c4 : (p.natAbs : Int) / 18446744073709551616 > (q.natAbs : Int) / 18446744073709551616
        · rw [if_pos c4]
          by_cases c5 : sg p > 0
          · rw [decide_eq_true c5]; exact ⟨1, rfl, by omega⟩
          · rw [decide_eq_false c5]; exact ⟨-1, rfl, by omega⟩
        · rw [if_neg c4]
          by_cases c5 : sg p > 0
          · rw [decide_eq_true c5]; exact ⟨-1, rfl, by omega⟩
          · rw [decide_eq_false c5]; exact ⟨1, rfl, by omega⟩
  · rw [if_neg c1]
    exact ⟨_, rfl, by rw [w64 (by omega)]; omega⟩
/-! ### roots -/
def Su (x : Int) : Prop := 0 ≤ x ∧ x ≤ 3458764513820540928
theorem mul_su {a b : Int} (ha : Su a) (hb : Su b) : 0 ≤ a * b ∧ a * b ≤ 11963051962064242856134263542523101184 := ⟨Int.mul_nonneg ha.1 hb.1, Int.le_trans (Int.mul_le_mul ha.2 hb.2 hb.1 (by decide)) (by decide)⟩
theorem rt_bd {a b : Int} (ha : Su a) (hb : Su b) : IsRoot (isqrt (a * b)) (a * b) ∧ isqrt (a * b) < 4611686018427387000 := by
  have h := mul_su ha hb
  have hr := isqrt_spec h.1
  refine ⟨hr, ?_⟩
  rcases Int.lt_or_le (isqrt (a * b)) 4611686018427387000 with c | c
  · exact c
  · have := Int.mul_le_mul c c (by decide) hr.1
    have := hr.2.1
    omega
theorem sqm_eq (L : Nat) {a b : Int} (ha : Su a) (hb : Su b) : p_num_SqrtMul L a b = some (isqrt (a * b)) := by
  unfold Su at ha hb
  unfold p_num_SqrtMul
  have i1 : iB a = true := iB_t (by omega)
  have i2 : iB b = true := iB_t (by omega)
  rw [rootB_eq i1 i2, i1, i2]
  unfold rootR
  rw [if_neg (by omega), if_neg (by omega)]; rfl
theorem root_eq (L : Nat) {a b : Int} (ha : Su a) (hb : Su b) : p_spyref3_Root L a b = some (isqrt (a * b)) := by
  have h := mul_su ha hb
  unfold Su at ha hb
  unfold p_spyref3_Root p2B
  rw [decide_eq_true (by omega), decide_eq_true (by omega), decide_eq_true (by omega), decide_eq_true (by omega), rootC_ok h.1 (by omega)]; rfl
noncomputable def up (a b : Int) : Int := if isqrt (a * b) * isqrt (a * b) < a * b then isqrt (a * b) + 1 else isqrt (a * b)
theorem up_eq (L : Nat) {a b : Int} (ha : Su a) (hb : Su b) : p_spyref3_RootUp L a b = some (up a b) := by
  have h := mul_su ha hb
  obtain ⟨⟨r0, r1, r2⟩, r3⟩ := rt_bd ha hb
  unfold p_spyref3_RootUp p_bits_Mul64 up
  rw [root_eq L ha hb, bnd_s]
  unfold Su at ha hb
  have rr := Int.mul_nonneg r0 r0
  rw [u64 (x := a) (by omega), u64 (x := b) (by omega), u64 (x := isqrt (a * b)) (by omega), uB_t (x := a) (by omega), uB_t (x := b) (by omega), uB_t (x := isqrt (a * b)) (by omega)]
  simp only [Bool.and_self, cb_t, bnd_s, cb_d]
  generalize isqrt (a * b) = R at *
  generalize a * b = n at *
  generalize R * R = m at *
  by_cases c : m < n
  · rw [if_pos c]
    by_cases c1 : m / 18446744073709551616 = n / 18446744073709551616
    · rw [if_pos c1, if_neg (by omega), w64 (by omega)]
    · rw [if_neg c1, w64 (by omega)]
  · rw [if_neg c, if_pos (by omega), if_pos (by omega)]
noncomputable def fin (P0 P1 S0 T0 U R c : Int) : Int := if S0 > 0 ∧ T0 > 0 ∧ ¬ P0 * 1073741824 < c * U then 2 else if P1 * 1073741824 < c * R then 0 else 1
theorem near_eq (L : Nat) (hL : 200 < L) (x0 x1 : Int) (xu : Bool) (y0 y1 : Int) (yu : Bool) (z0 z1 : Int) (zu : Bool) (a0 a1 : Int) (au : Bool) (b0 b1 : Int) (bu : Bool) (c0 c1 : Int) (cu : Bool) (c : Int) (hx : Bx x0 x1) (hy : Bx y0 y1) (hz : Bx z0 z1) (ha : Bx a0 a1) (hb : Bx b0 b1) (hc : Bx c0 c1)
    (g1 : (g x0 x1 xu && (g y0 y1 yu && g z0 z1 zu)) = true) (g2 : (g a0 a1 au && (g b0 b1 bu && g c0 c1 cu)) = true) (k0 : ¬ c < 0) (k1 : ¬ c > 1073741824) :
    ∃ r, (0 ≤ r ∧ r ≤ 2) ∧ p_query_Near L x0 x1 xu y0 y1 yu z0 z1 zu a0 a1 au b0 b1 bu c0 c1 cu c = some r ∧ p_spyref3_Close L x0 x1 xu y0 y1 yu z0 z1 zu a0 a1 au b0 b1 bu c0 c1 cu c = some r := by
  have d1 := lo4_bd hx ha
  have d2 := lo4_bd hy hb
  have d3 := lo4_bd hz hc
  have s1 := sq_bd hx
  have s2 := sq_bd hy
  have s3 := sq_bd hz
  have s4 := sq_bd ha
  have s5 := sq_bd hb
  have s6 := sq_bd hc
  have es := near_sums L x0 x1 xu y0 y1 yu z0 z1 zu hx hy hz a0 a1 au b0 b1 bu c0 c1 cu ha hb hc
  have ec := close_sums L hL x0 x1 y0 y1 z0 z1 hx hy hz a0 a1 b0 b1 c0 c1 ha hb hc
  have q1 := squares_eq L hL x0 x1 y0 y1 z0 z1 hx hy hz
  have q2 := squares_eq L hL a0 a1 b0 b1 c0 c1 ha hb hc
  obtain ⟨P0, hP0⟩ : ∃ P, P = lo4 x0 x1 a0 a1 + lo4 y0 y1 b0 b1 + lo4 z0 z1 c0 c1 := ⟨_, rfl⟩
  obtain ⟨P1, hP1⟩ : ∃ P, P = hi4 x0 x1 a0 a1 + hi4 y0 y1 b0 b1 + hi4 z0 z1 c0 c1 := ⟨_, rfl⟩
  obtain ⟨S0, hS0⟩ : ∃ P, P = sqlo x0 x1 + sqlo y0 y1 + sqlo z0 z1 := ⟨_, rfl⟩
  obtain ⟨S1, hS1⟩ : ∃ P, P = sqhi x0 x1 + sqhi y0 y1 + sqhi z0 z1 := ⟨_, rfl⟩
  obtain ⟨T0, hT0⟩ : ∃ P, P = sqlo a0 a1 + sqlo b0 b1 + sqlo c0 c1 := ⟨_, rfl⟩
  obtain ⟨T1, hT1⟩ : ∃ P, P = sqhi a0 a1 + sqhi b0 b1 + sqhi c0 c1 := ⟨_, rfl⟩
  rw [← hP0, ← hP1, ← hS0, ← hS1, ← hT0, ← hT1] at es
  rw [← hP0, ← hP1] at ec
  rw [← hS0, ← hS1] at q1
  rw [← hT0, ← hT1] at q2
  have u1 : -3458764513820540928 ≤ P0 ∧ P0 ≤ 3458764513820540928 := by omega
  have u2 : -3458764513820540928 ≤ P1 ∧ P1 ≤ 3458764513820540928 := by omega
  have v0 : Su S0 := ⟨by omega, by omega⟩
  have v1 : Su S1 := ⟨by omega, by omega⟩
  have w0 : Su T0 := ⟨by omega, by omega⟩
  have w1 : Su T1 := ⟨by omega, by omega⟩
  clear hP0 hP1 hS0 hS1 hT0 hT1 d1 d2 d3 s1 s2 s3 s4 s5 s6
  obtain ⟨⟨r0, r1, r2⟩, r3⟩ := rt_bd v1 w1
  obtain ⟨⟨l0, l1, l2⟩, l3⟩ := rt_bd v0 w0
  have m1 := mul_su v1 w1
  have hU : 0 ≤ up S1 T1 ∧ up S1 T1 ≤ 4611686018427387000 := by unfold up; split <;> omega
  obtain ⟨f1, e1, e1'⟩ := cmp_eq L P0 1073741824 c (up S1 T1) (by omega) (by decide) (by omega) (by omega)
  obtain ⟨f2, e2, e2'⟩ := cmp_eq L P1 1073741824 c (isqrt (S0 * T0)) (by omega) (by decide) (by omega) (by omega)
  refine ⟨fin P0 P1 S0 T0 (up S1 T1) (isqrt (S0 * T0)) c, ?_, ?_, ?_⟩
  · unfold fin; split; omega; split <;> omega
  · have rr := Int.mul_nonneg r0 r0
    have p0 := prod_eq L P0 1073741824 (by omega) (by decide)
    have p1 := prod_eq L P1 1073741824 (by omega) (by decide)
    have pl := prod_eq L c (isqrt (S0 * T0)) (by omega) (by omega)
    have pu := prod_eq L c (up S1 T1) (by omega) (by omega)
    have wu := wcmp L hL (P0 * 1073741824) (c * up S1 T1) (by omega) (by have := prod_bd (x := c) (y := up S1 T1) (by omega) (by omega); omega)
    have wl := wcmp L hL (P1 * 1073741824) (c * isqrt (S0 * T0)) (by omega) (by have := prod_bd (x := c) (y := isqrt (S0 * T0)) (by omega) (by omega); omega)
    have sm := sqm_eq L v0 w0
    unfold p_query_Near
    rw [sides_eq L (by omega), bnd_s, sides_eq L (by omega), bnd_s]
    simp only
    rw [if_neg k0, if_neg k1, g1, g2, cb_t, cb_t, rq_t (by omega), es, bnd_s]
    simp only
    rw [sqm_eq L v1 w1, bnd_s, prod_eq L (isqrt (S1 * T1)) (isqrt (S1 * T1)) (by omega) (by omega), bnd_s, prod_eq L S1 T1 (by unfold Su at v1; omega) (by unfold Su at w1; omega), bnd_s, wcmp L hL _ _ (by omega) (by omega), bnd_s]
    by_cases k : isqrt (S1 * T1) * isqrt (S1 * T1) < S1 * T1
    · have hu : up S1 T1 = isqrt (S1 * T1) + 1 := by unfold up; rw [if_pos k]
      rw [if_pos (cm_lt.2 k), w64 (x := isqrt (S1 * T1) + 1) (by omega), ← hu]
      simp only [p0, p1, pl, pu, wu, wl, sm, bnd_s]
      unfold fin
      by_cases h1 : S0 > 0 <;> by_cases h2 : T0 > 0 <;> by_cases h3 : P0 * 1073741824 < c * up S1 T1 <;> by_cases h4 : P1 * 1073741824 < c * isqrt (S0 * T0) <;> simp [h1, h2, h3, h4, cm_lt, cm_ge]
    · have hu : up S1 T1 = isqrt (S1 * T1) := by unfold up; rw [if_neg k]
      rw [if_neg (fun z => k (cm_lt.1 z)), ← hu]
      simp only [p0, p1, pl, pu, wu, wl, sm, bnd_s]
      unfold fin
      by_cases h1 : S0 > 0 <;> by_cases h2 : T0 > 0 <;> by_cases h3 : P0 * 1073741824 < c * up S1 T1 <;> by_cases h4 : P1 * 1073741824 < c * isqrt (S0 * T0) <;> simp [h1, h2, h3, h4, cm_lt, cm_ge]
  · obtain ⟨n1, n2, n3, n4⟩ := ends_eq L (by omega) x0 x1 xu y0 y1 yu z0 z1 zu
    obtain ⟨o1, o2, o3, o4⟩ := ends_eq L (by omega) a0 a1 au b0 b1 bu c0 c1 cu
    rw [g1] at n3
    rw [g2] at o3
    have n5 := n4 n3
    have o5 := o4 o3
    subst n5 o5
    unfold p_spyref3_Close
    rw [if_neg k0, if_neg k1, n2, bnd_s, o2, bnd_s]
    simp only [cb_t]
    rw [rq_t (by omega), ec, bnd_s, q1, bnd_s, q2, bnd_s]
    simp only [up_eq L v1 w1, root_eq L v0 w0, e1, e2, bnd_s]
    have e3 : f1 ≥ 0 ↔ ¬ P0 * 1073741824 < c * up S1 T1 := by rw [← e1']; omega
    unfold fin
    by_cases h1 : S0 > 0 <;> by_cases h2 : T0 > 0 <;> by_cases h3 : P0 * 1073741824 < c * up S1 T1 <;> by_cases h4 : P1 * 1073741824 < c * isqrt (S0 * T0) <;> simp [h1, h2, h3, h4, e3, e2']
theorem both (L : Nat) (hL : 200 < L) (x0 x1 : Int) (xu : Bool) (y0 y1 : Int) (yu : Bool) (z0 z1 : Int) (zu : Bool) (a0 a1 : Int) (au : Bool) (b0 b1 : Int) (bu : Bool) (c0 c1 : Int) (cu : Bool) (c : Int) :
    ∃ r, (0 ≤ r ∧ r ≤ 2) ∧ p_query_Near L x0 x1 xu y0 y1 yu z0 z1 zu a0 a1 au b0 b1 bu c0 c1 cu c = some r ∧ p_spyref3_Close L x0 x1 xu y0 y1 yu z0 z1 zu a0 a1 au b0 b1 bu c0 c1 cu c = some r := by
  by_cases k : (c < 0 ∨ c > 1073741824) ∨ (g x0 x1 xu && (g y0 y1 yu && g z0 z1 zu)) = false ∨ (g a0 a1 au && (g b0 b1 bu && g c0 c1 cu)) = false
  · obtain ⟨n1, n2, n3, n4⟩ := ends_eq L (by omega) x0 x1 xu y0 y1 yu z0 z1 zu
    obtain ⟨o1, o2, o3, o4⟩ := ends_eq L (by omega) a0 a1 au b0 b1 bu c0 c1 cu
    unfold p_query_Near p_spyref3_Close
    rw [sides_eq L (by omega), bnd_s, sides_eq L (by omega), bnd_s, n2, bnd_s, o2, bnd_s, n3, o3]
    simp only
    by_cases k0 : c < 0
    · rw [if_pos k0, if_pos k0]; exact ⟨_, by decide, rfl, rfl⟩
    · by_cases k1 : c > 1073741824
      · rw [if_neg k0, if_neg k0, if_pos k1, if_pos k1]; exact ⟨_, by decide, rfl, rfl⟩
      · rw [if_neg k0, if_neg k0, if_neg k1, if_neg k1]
        rcases k with (k | k) | k | k
        · exact absurd k k0
        · exact absurd k k1
        · rw [k, cb_f, cb_f]; exact ⟨_, by decide, rfl, rfl⟩
        · rw [k]
          cases (g x0 x1 xu && (g y0 y1 yu && g z0 z1 zu))
          · rw [cb_f, cb_f]; exact ⟨_, by decide, rfl, rfl⟩
          · rw [cb_t, cb_t, cb_f, cb_f]; exact ⟨_, by decide, rfl, rfl⟩
  · have g1 : (g x0 x1 xu && (g y0 y1 yu && g z0 z1 zu)) = true := by
      cases h : (g x0 x1 xu && (g y0 y1 yu && g z0 z1 zu)) with
      | true => rfl
      | false => exact absurd (.inr (.inl h)) k
    have g2 : (g a0 a1 au && (g b0 b1 bu && g c0 c1 cu)) = true := by
      cases h : (g a0 a1 au && (g b0 b1 bu && g c0 c1 cu)) with
      | true => rfl
      | false => exact absurd (.inr (.inr h)) k
    have i1 := g1
    have i2 := g2
    simp only [Bool.and_eq_true] at i1 i2
    exact near_eq L hL x0 x1 xu y0 y1 yu z0 z1 zu a0 a1 au b0 b1 bu c0 c1 cu c (g_i i1.1) (g_i i1.2.1) (g_i i1.2.2) (g_i i2.1) (g_i i2.2.1) (g_i i2.2.2) g1 g2 (fun h => k (.inl (.inl h))) (fun h => k (.inl (.inr h)))
theorem top (a0_0_0 : Int) (a0_0_1 : Int) (a0_0_2 : Bool) (a0_1_0 : Int) (a0_1_1 : Int) (a0_1_2 : Bool) (a0_2_0 : Int) (a0_2_1 : Int) (a0_2_2 : Bool) (a1_0_0 : Int) (a1_0_1 : Int) (a1_0_2 : Bool) (a1_1_0 : Int) (a1_1_1 : Int) (a1_1_2 : Bool) (a1_2_0 : Int) (a1_2_1 : Int) (a1_2_2 : Bool) (a2 : Int) (h0 : (((Lit.int .i64 a0_0_0).wf = true) ∧ ((Lit.int .i64 a0_0_1).wf = true) ∧ (True) ∧ True) ∧ (((Lit.int .i64 a0_1_0).wf = true) ∧ ((Lit.int .i64 a0_1_1).wf = true) ∧ (True) ∧ True) ∧ (((Lit.int .i64 a0_2_0).wf = true) ∧ ((Lit.int .i64 a0_2_1).wf = true) ∧ (True) ∧ True) ∧ True) (h1 : (((Lit.int .i64 a1_0_0).wf = true) ∧ ((Lit.int .i64 a1_0_1).wf = true) ∧ (True) ∧ True) ∧ (((Lit.int .i64 a1_1_0).wf = true) ∧ ((Lit.int .i64 a1_1_1).wf = true) ∧ (True) ∧ True) ∧ (((Lit.int .i64 a1_2_0).wf = true) ∧ ((Lit.int .i64 a1_2_1).wf = true) ∧ (True) ∧ True) ∧ True) (h2 : (Lit.int .i64 a2).wf = true) : ∃ L, L ≤ 4611686018427387904 ∧ p_spylaw3_QueryNears L a0_0_0 a0_0_1 a0_0_2 a0_1_0 a0_1_1 a0_1_2 a0_2_0 a0_2_1 a0_2_2 a1_0_0 a1_0_1 a1_0_2 a1_1_0 a1_1_1 a1_1_2 a1_2_0 a1_2_1 a1_2_2 a2 = some true := by
  obtain ⟨L, hL⟩ : ∃ L, L = 4611686018427387904 := ⟨_, rfl⟩
  refine ⟨L, by omega, ?_⟩
  obtain ⟨r, _, e1, e2⟩ := both L (by omega) a0_0_0 a0_0_1 a0_0_2 a0_1_0 a0_1_1 a0_1_2 a0_2_0 a0_2_1 a0_2_2 a1_0_0 a1_0_1 a1_0_2 a1_1_0 a1_1_1 a1_1_2 a1_2_0 a1_2_1 a1_2_2 a2
  unfold p_spylaw3_QueryNears
  rw [show p_spylaw3_queries L = some true from rfl, bnd_s, cb_t, e1, bnd_s, e2, bnd_s, decide_eq_true rfl]
end Go.Proofs.Ytnojehmbiceceaa.PlQueryNears
end
section
set_option linter.unusedVariables false
set_option linter.unusedSimpArgs false
set_option maxRecDepth 100000
namespace Go.Proofs.Ytnojehmbiceceaa.E
open Go.Ev
noncomputable def en226 : Entry := ⟨Try.f226, [(1000000, mb 13 0 [4])]⟩
theorem mk226_1000000 (vs : List V) : mask (maskOf en226.ms 1000000) vs = km 13 0 [4] vs := mask_mb _ _ _ _
end Go.Proofs.Ytnojehmbiceceaa.E
end
section
set_option linter.unusedVariables false
set_option linter.unusedSimpArgs false
set_option maxRecDepth 100000
namespace Go.Proofs.Ytnojehmbiceceaa.E
open Go.Ev
noncomputable def en75 : Entry := ⟨Try.f75, [(1000000, mb 8 0 [2])]⟩
theorem mk75_1000000 (vs : List V) : mask (maskOf en75.ms 1000000) vs = km 8 0 [2] vs := mask_mb _ _ _ _
end Go.Proofs.Ytnojehmbiceceaa.E
end
section
set_option linter.unusedVariables false
set_option linter.unusedSimpArgs false
set_option maxRecDepth 100000
namespace Go.Proofs.Ytnojehmbiceceaa.E
open Go.Ev
noncomputable def en77 : Entry := ⟨Try.f77, [(1000000, mb 2 0 [0])]⟩
theorem mk77_1000000 (vs : List V) : mask (maskOf en77.ms 1000000) vs = km 2 0 [0] vs := mask_mb _ _ _ _
end Go.Proofs.Ytnojehmbiceceaa.E
end
section
set_option linter.unusedVariables false
set_option linter.unusedSimpArgs false
set_option maxRecDepth 100000
namespace Go.Proofs.Ytnojehmbiceceaa.P
open Go.Ev Go.IntKind Go.Proofs.Ytnojehmbiceceaa Go.Proofs.Ytnojehmbiceceaa.Ty Go.Proofs.Ytnojehmbiceceaa.E
def p_bound_None_Quanta (L : Nat)  : Option (Int × Int × Bool) := some (0, 0, true)
attribute [local go_sem] Ev.putR_s Ev.putR_0 Ev.thenO_s Ev.thenO_0 Ev.seqR_n Ev.seqR_e Ev.seqR_r Ev.seqR_0 Ev.blkR_e Ev.blkR_n Ev.blkR_r Ev.blkR_0 Ev.normR_s Ev.normR_0 Ev.outR_r Ev.outR_n Ev.outR_0 Ev.retS_s Ev.retS_0 Ev.pureO_s Ev.pureO_0 Ev.topR_0 Ev.topR_t Ev.topR_t0 Ev.oneL_0 Ev.oneL_s Ev.topR_d Ev.topR_nils Ev.topR_agg Ev.topR_rs Ev.evOp_move Ev.evOp_assign Ev.evOp_pick Ev.evOp_alloc Ev.evOp_box Ev.evOp_build Ev.evOp_buildSlice Ev.evOp_load Ev.evOp_store Ev.evOp_makeMap Ev.evOp_lookup Ev.evOp_mapUpdate Ev.evOp_insert Ev.evOp_nilCheck Ev.evOp_binOp Ev.evOp_unOp Ev.evOp_convert Ev.evOp_makeFunc Ev.evOp_makeSlice Ev.evOp_slice Ev.evOp_fieldAddr Ev.evOp_field Ev.evOp_indexAddr Ev.evOp_index Ev.evOp_extract Ev.evOp_call Ev.evOp_append Ev.evOp_clear Ev.evOp_len Ev.evOp_min Ev.evOp_max Ev.condR_b Ev.condR_t Ev.evOps_nil Ev.evOps_plain Ev.evOps_guard Ev.runG_eq Ev.skipG_eq Ev.condL_tt Ev.condL_ff Ev.condL_tf Ev.condL_ft Ev.condL_u Ev.condC_t Ev.condC_f Ev.evC_skip Ev.evC_ret Ev.evC_exit Ev.evC_label Ev.evC_region Ev.evC_draw Ev.evC_seq Ev.evC_cond Ev.evC_block Ev.evC_loop Ev.fin_d Ev.fin_nils Ev.fin_agg_ Ev.fin_rs Ev.finS_s Ev.mapO_fin Ev.upd_upd Ev.argv_d Ev.argv_nils Ev.argv_agg Ev.argv_rs Ev.argv_p Ev.fk_low Ev.appendTo_nils Ev.appendTo_rs Ev.consV_d Ev.consV_agg Ev.consV_p Ev.consV_rs Ev.consV_nils Ev.consV_fn Ev.consV_und Ev.consV_jk Ev.consV_grown Ev.topR_grown Ev.len_grown Ev.consV_mp Ev.sameK_i Ev.sameK_s Ev.mget_0 Ev.mget_hit Ev.mget_miss Ev.mput_0 Ev.mput_hit Ev.mput_miss Ev.apartAll Ev.apartL Ev.apartV Ev.freeAll Ev.sel Ev.keyOfV Ev.evLookup Ev.evPut Ev.hintOk Ev.keyOk Ev.consP Ev.lookV Ev.guardV Ev.dstAt Ev.evPure Ev.evStore Ev.evBin Ev.evBinO Ev.evNil Ev.isNilC Ev.evUn Ev.evConv Ev.evSlice Ev.optI Ev.foldI Ev.capsOk Ev.noTup Ev.nth Ev.setN Ev.killAt Ev.pad Ev.V.get Ev.V.put Ev.putD Ev.newBlk Ev.upd Ev.keq Ev.empty Ev.evCall Ev.V.args Ev.argP Ev.callOf Ev.evNilP Ev.isNilP Ev.look Ev.V.view.views Ev.V.view Ev.V.toD Ev.V.toD.V.toDs Ev.V.pure.pures Ev.V.pure Ev.D.flat.flats Ev.D.flat Ev.mkAgg Ev.allD Ev.aggParts Ev.setParts Ev.setElems Ev.getPath Ev.setPath Ev.subL Ev.eqD Ev.eqD.eqDs Ev.and2 Ev.strCut Ev.evalT Ev.constT Ev.evArgs Ev.mask Ev.maskOf Ev.tableOf Ev.compT Ev.resV Ev.retV Ev.mapO Ev.frzO_n Ev.frzO_e Ev.frzO_r Ev.frzO_0 Ev.mb_z Ev.mb_0 Ev.mb_s Ev.frzL_t Ev.frzL_f Ev.frzL_0 Ev.frzT_nils Ev.frzT_rs Ev.frzT_p Ev.frzK_i Ev.keyIn_i Ev.rI_nil Ev.rI_cons Ev.rI_row Ev.rI_app Ev.r_d Ev.r_nils Ev.r_agg Ev.r_rs Ev.r_gl Ev.vw_row Ev.vw_app Ev.appO_s Ev.frzT_gl Ev.allD_gl Ev.killAt_i Ev.tkOne_i Ev.hT_agg Ev.hT_vagg Ev.hT_int Ev.hT_bool Ev.hT_str Ev.hT_sl Ev.hT_ptr Ev.hT_np Ev.hT_p Ev.hT_rs Ev.hT_mp Ev.hT_nils Ev.hT_fn Ev.hT_jk Ev.hT_gl Ev.eO_sl Ev.eO_nils Ev.eO_rs Ev.eT_sl Ev.eT_rs Ev.pL_str Ev.pL_sl Ev.pL_rs Ev.pL_nils Ev.pL_min Ev.pL_max Ev.len_glB Ev.noTup_gl Ev.rowV_len Ev.rowV_nil Ev.rowV_cons Ev.rowV_append Ev.rowV_set Ev.rowV_replicate Ev.nth_row Ev.row_take Ev.row_drop Ev.toDs_row Ev.fin_row Ev.map_row Ev.map_take_ Ev.map_drop_ Ev.Bk_i Ev.GlB_0 Ev.GlB_mk Ev.gl_nil Ev.gl_cons Ev.gl_snoc Ev.gl_setN Ev.appendTo_gl Ev.consV_gl Ev.elems_gl Ev.fin_gl Ev.view_gl Ev.argv_gl Ev.topR_gl Ev.sp_z Ev.sp_0 Ev.sp_s Ev.km_z Ev.km_0 Ev.km_s Ev.beq_toList Ev.nc0 Ev.bq_t Ev.bq_f Ev.bodyN Ev.le_maxRow Int.cast_ofNat_Int IntWalk.i64_in IntWalk.u64_in IntWalk.u8_in beq_self_eq_true Bool.true_beq Bool.false_beq Bool.and_true Bool.true_and Bool.false_and Bool.and_false Bool.and_self Bool.not_true Bool.not_false Bool.not_eq_true cond_true cond_false if_true if_false and_true true_and and_self decide_true decide_false Bool.or_true Bool.true_or Bool.or_false Bool.false_or List.isEmpty List.isEmpty_nil List.size_toArray List.map List.length_map List.length_cons List.length_nil Option.map Option.bind Option.getD Option.isSome List.replicate Bool.false_eq_true implies_true false_implies forall_const Array.toList Array.isEmpty List.append List.nil_append List.cons_append List.drop_zero List.take_length List.take_succ_cons List.take_zero List.take_nil List.getElem?_map List.getElem?_cons_zero List.getElem?_cons_succ List.getElem?_nil List.append_nil eq_self Int.toNat_natCast List.length_append Nat.zero_add Nat.add_zero List.length_replicate Nat.sub_zero Option.map_some Option.map_none Int.le_refl Nat.le_refl Int.natCast_nonneg List.map_append
noncomputable def G_bound_None_Quanta (L : Nat) : Specs := []
noncomputable def T_bound_None_Quanta : Table := tableOf [(77, en77)]
theorem Go_bound_None_Quanta (L : Nat) (hL : L ≤ 4611686018427387904) : ∀ g s, Ev.look (G_bound_None_Quanta L) g = some s → SpecOk Try.prog g s := specs_nil
theorem To_bound_None_Quanta (L : Nat) : TableOk Try.prog ((G_bound_None_Quanta L).map (·.1)) T_bound_None_Quanta := (table_cons Try.func77 (by kernel_rfl) (by kernel_rfl) table_nil)
attribute [local go_sem] Ty.tk4 Ty.ub4 Ty.ek4 Ty.zv4 Ty.by4 Ty.so4 Ty.tk24 Ty.ik24 Ty.ek24 Ty.zv24 Ty.by24 Ty.so24 Ty.tk35 Ty.ct35 Ty.ek35 Ty.zv35 Ty.by35 Ty.so35 Ty.k35_e E.mk77_1000000 loopN loops Try.f77
theorem e_bound_None_Quanta (L : Nat) (hL : L ≤ 4611686018427387904)  (res : Int × Int × Bool) (h : p_bound_None_Quanta L  = some res) : evTop Try.prog (G_bound_None_Quanta L) T_bound_None_Quanta L 1 77 [] = some [.agg 35 [.int .i64 res.1, .int .i64 res.2.1, .bool res.2.2]] := by
  revert h
  unfold p_bound_None_Quanta evTop
  simp only [List.map]
  rw [evF_s (fn := Try.f77) (msk := en77.ms) (hT := by rfl) (hb := by rfl)]
  rintro ⟨⟩
  simp only [go_sem, Nat.reduceAdd, Nat.reduceSub, Nat.reduceMul, Nat.reduceEqDiff, Nat.reduceBEq, Nat.reduceLT, Nat.reduceLeDiff, Nat.reducePow, Int.reduceToNat, Int.reduceLT, Int.reduceLE, Int.reduceGT, Int.reduceGE, Int.reduceEq, Int.reduceNeg, Int.reduceAdd, Int.reduceSub, Int.reduceMul, ↓reduceIte, reduceCtorEq, *]
noncomputable def s_bound_None_Quanta (L : Nat) : Ev.Spec := specP cNil (fun x => p_bound_None_Quanta L ) (fun r => [.agg 35 [.int .i64 r.1, .int .i64 r.2.1, .bool r.2.2]])
theorem s_bound_None_Quanta_run (L : Nat)  : (s_bound_None_Quanta L).run [] = (p_bound_None_Quanta L ).map fun r => [.agg 35 [.int .i64 r.1, .int .i64 r.2.1, .bool r.2.2]] := specP_run cNil (fun x => p_bound_None_Quanta L ) (fun r => [.agg 35 [.int .i64 r.1, .int .i64 r.2.1, .bool r.2.2]]) (())
theorem ok_bound_None_Quanta (L : Nat) (hL : L ≤ 4611686018427387904) : SpecOk Try.prog 77 (s_bound_None_Quanta L) := specP_ok mixed (Go_bound_None_Quanta L hL) (To_bound_None_Quanta L) fun x r h => ⟨L, 1, e_bound_None_Quanta L hL  r h⟩
end Go.Proofs.Ytnojehmbiceceaa.P
end
section
set_option linter.unusedVariables false
set_option linter.unusedSimpArgs false
set_option maxRecDepth 100000
namespace Go.Proofs.Ytnojehmbiceceaa.P
open Go.Ev Go.IntKind Go.Proofs.Ytnojehmbiceceaa Go.Proofs.Ytnojehmbiceceaa.Ty Go.Proofs.Ytnojehmbiceceaa.E
def p_bound_Norm_Quanta (L : Nat) (a0_0 : Int) (a0_1 : Int) (a0_2 : Bool) : Option (Int × Int × Bool) := bnd (p_bound_Check_Quanta L a0_0 a0_1 a0_2) fun r1 => cb (decide (r1 = 0)) (some (a0_0, a0_1, a0_2)) (bnd (p_bound_None_Quanta L) fun r2 => some (r2.1, r2.2.1, r2.2.2))
attribute [local go_sem] Ev.putR_s Ev.putR_0 Ev.thenO_s Ev.thenO_0 Ev.seqR_n Ev.seqR_e Ev.seqR_r Ev.seqR_0 Ev.blkR_e Ev.blkR_n Ev.blkR_r Ev.blkR_0 Ev.normR_s Ev.normR_0 Ev.outR_r Ev.outR_n Ev.outR_0 Ev.retS_s Ev.retS_0 Ev.pureO_s Ev.pureO_0 Ev.topR_0 Ev.topR_t Ev.topR_t0 Ev.oneL_0 Ev.oneL_s Ev.topR_d Ev.topR_nils Ev.topR_agg Ev.topR_rs Ev.evOp_move Ev.evOp_assign Ev.evOp_pick Ev.evOp_alloc Ev.evOp_box Ev.evOp_build Ev.evOp_buildSlice Ev.evOp_load Ev.evOp_store Ev.evOp_makeMap Ev.evOp_lookup Ev.evOp_mapUpdate Ev.evOp_insert Ev.evOp_nilCheck Ev.evOp_binOp Ev.evOp_unOp Ev.evOp_convert Ev.evOp_makeFunc Ev.evOp_makeSlice Ev.evOp_slice Ev.evOp_fieldAddr Ev.evOp_field Ev.evOp_indexAddr Ev.evOp_index Ev.evOp_extract Ev.evOp_call Ev.evOp_append Ev.evOp_clear Ev.evOp_len Ev.evOp_min Ev.evOp_max Ev.condR_b Ev.condR_t Ev.evOps_nil Ev.evOps_plain Ev.evOps_guard Ev.runG_eq Ev.skipG_eq Ev.condL_tt Ev.condL_ff Ev.condL_tf Ev.condL_ft Ev.condL_u Ev.condC_t Ev.condC_f Ev.evC_skip Ev.evC_ret Ev.evC_exit Ev.evC_label Ev.evC_region Ev.evC_draw Ev.evC_seq Ev.evC_cond Ev.evC_block Ev.evC_loop Ev.fin_d Ev.fin_nils Ev.fin_agg_ Ev.fin_rs Ev.finS_s Ev.mapO_fin Ev.upd_upd Ev.argv_d Ev.argv_nils Ev.argv_agg Ev.argv_rs Ev.argv_p Ev.fk_low Ev.appendTo_nils Ev.appendTo_rs Ev.consV_d Ev.consV_agg Ev.consV_p Ev.consV_rs Ev.consV_nils Ev.consV_fn Ev.consV_und Ev.consV_jk Ev.consV_grown Ev.topR_grown Ev.len_grown Ev.consV_mp Ev.sameK_i Ev.sameK_s Ev.mget_0 Ev.mget_hit Ev.mget_miss Ev.mput_0 Ev.mput_hit Ev.mput_miss Ev.apartAll Ev.apartL Ev.apartV Ev.freeAll Ev.sel Ev.keyOfV Ev.evLookup Ev.evPut Ev.hintOk Ev.keyOk Ev.consP Ev.lookV Ev.guardV Ev.dstAt Ev.evPure Ev.evStore Ev.evBin Ev.evBinO Ev.evNil Ev.isNilC Ev.evUn Ev.evConv Ev.evSlice Ev.optI Ev.foldI Ev.capsOk Ev.noTup Ev.nth Ev.setN Ev.killAt Ev.pad Ev.V.get Ev.V.put Ev.putD Ev.newBlk Ev.upd Ev.keq Ev.empty Ev.evCall Ev.V.args Ev.argP Ev.callOf Ev.evNilP Ev.isNilP Ev.look Ev.V.view.views Ev.V.view Ev.V.toD Ev.V.toD.V.toDs Ev.V.pure.pures Ev.V.pure Ev.D.flat.flats Ev.D.flat Ev.mkAgg Ev.allD Ev.aggParts Ev.setParts Ev.setElems Ev.getPath Ev.setPath Ev.subL Ev.eqD Ev.eqD.eqDs Ev.and2 Ev.strCut Ev.evalT Ev.constT Ev.evArgs Ev.mask Ev.maskOf Ev.tableOf Ev.compT Ev.resV Ev.retV Ev.mapO Ev.frzO_n Ev.frzO_e Ev.frzO_r Ev.frzO_0 Ev.mb_z Ev.mb_0 Ev.mb_s Ev.frzL_t Ev.frzL_f Ev.frzL_0 Ev.frzT_nils Ev.frzT_rs Ev.frzT_p Ev.frzK_i Ev.keyIn_i Ev.rI_nil Ev.rI_cons Ev.rI_row Ev.rI_app Ev.r_d Ev.r_nils Ev.r_agg Ev.r_rs Ev.r_gl Ev.vw_row Ev.vw_app Ev.appO_s Ev.frzT_gl Ev.allD_gl Ev.killAt_i Ev.tkOne_i Ev.hT_agg Ev.hT_vagg Ev.hT_int Ev.hT_bool Ev.hT_str Ev.hT_sl Ev.hT_ptr Ev.hT_np Ev.hT_p Ev.hT_rs Ev.hT_mp Ev.hT_nils Ev.hT_fn Ev.hT_jk Ev.hT_gl Ev.eO_sl Ev.eO_nils Ev.eO_rs Ev.eT_sl Ev.eT_rs Ev.pL_str Ev.pL_sl Ev.pL_rs Ev.pL_nils Ev.pL_min Ev.pL_max Ev.len_glB Ev.noTup_gl Ev.rowV_len Ev.rowV_nil Ev.rowV_cons Ev.rowV_append Ev.rowV_set Ev.rowV_replicate Ev.nth_row Ev.row_take Ev.row_drop Ev.toDs_row Ev.fin_row Ev.map_row Ev.map_take_ Ev.map_drop_ Ev.Bk_i Ev.GlB_0 Ev.GlB_mk Ev.gl_nil Ev.gl_cons Ev.gl_snoc Ev.gl_setN Ev.appendTo_gl Ev.consV_gl Ev.elems_gl Ev.fin_gl Ev.view_gl Ev.argv_gl Ev.topR_gl Ev.sp_z Ev.sp_0 Ev.sp_s Ev.km_z Ev.km_0 Ev.km_s Ev.beq_toList Ev.nc0 Ev.bq_t Ev.bq_f Ev.bodyN Ev.le_maxRow Int.cast_ofNat_Int IntWalk.i64_in IntWalk.u64_in IntWalk.u8_in beq_self_eq_true Bool.true_beq Bool.false_beq Bool.and_true Bool.true_and Bool.false_and Bool.and_false Bool.and_self Bool.not_true Bool.not_false Bool.not_eq_true cond_true cond_false if_true if_false and_true true_and and_self decide_true decide_false Bool.or_true Bool.true_or Bool.or_false Bool.false_or List.isEmpty List.isEmpty_nil List.size_toArray List.map List.length_map List.length_cons List.length_nil Option.map Option.bind Option.getD Option.isSome List.replicate Bool.false_eq_true implies_true false_implies forall_const Array.toList Array.isEmpty List.append List.nil_append List.cons_append List.drop_zero List.take_length List.take_succ_cons List.take_zero List.take_nil List.getElem?_map List.getElem?_cons_zero List.getElem?_cons_succ List.getElem?_nil List.append_nil eq_self Int.toNat_natCast List.length_append Nat.zero_add Nat.add_zero List.length_replicate Nat.sub_zero Option.map_some Option.map_none Int.le_refl Nat.le_refl Int.natCast_nonneg List.map_append
noncomputable def G_bound_Norm_Quanta (L : Nat) : Specs := [(77, s_bound_None_Quanta L), (99, s_bound_Check_Quanta L)]
noncomputable def T_bound_Norm_Quanta : Table := tableOf [(75, en75)]
theorem Go_bound_Norm_Quanta (L : Nat) (hL : L ≤ 4611686018427387904) : ∀ g s, Ev.look (G_bound_Norm_Quanta L) g = some s → SpecOk Try.prog g s := (specs_cons (ok_bound_None_Quanta L hL) (specs_cons (ok_bound_Check_Quanta L hL) specs_nil))
theorem To_bound_Norm_Quanta (L : Nat) : TableOk Try.prog ((G_bound_Norm_Quanta L).map (·.1)) T_bound_Norm_Quanta := (table_cons Try.func75 (by kernel_rfl) (by kernel_rfl) table_nil)
theorem lk_bound_Norm_Quanta_77 (L : Nat) : Ev.look (G_bound_Norm_Quanta L) 77 = some (s_bound_None_Quanta L) := nr rfl
theorem lk_bound_Norm_Quanta_99 (L : Nat) : Ev.look (G_bound_Norm_Quanta L) 99 = some (s_bound_Check_Quanta L) := nr rfl
attribute [local go_sem] Ty.tk4 Ty.ub4 Ty.ek4 Ty.zv4 Ty.by4 Ty.so4 Ty.tk24 Ty.ik24 Ty.ek24 Ty.zv24 Ty.by24 Ty.so24 Ty.tk27 Ty.ik27 Ty.ek27 Ty.zv27 Ty.by27 Ty.so27 Ty.tk35 Ty.ct35 Ty.ek35 Ty.zv35 Ty.by35 Ty.so35 Ty.k35_e E.mk75_1000000 lk_bound_Norm_Quanta_77 lk_bound_Norm_Quanta_99 s_bound_None_Quanta_run s_bound_Check_Quanta_run loopN loops Try.f75
theorem e_bound_Norm_Quanta (L : Nat) (hL : L ≤ 4611686018427387904) (a0_0 : Int) (a0_1 : Int) (a0_2 : Bool) (res : Int × Int × Bool) (h : p_bound_Norm_Quanta L a0_0 a0_1 a0_2 = some res) : evTop Try.prog (G_bound_Norm_Quanta L) T_bound_Norm_Quanta L 1 75 [.agg 35 [.int .i64 a0_0, .int .i64 a0_1, .bool a0_2]] = some [.agg 35 [.int .i64 res.1, .int .i64 res.2.1, .bool res.2.2]] := by
  revert h
  unfold p_bound_Norm_Quanta evTop
  simp only [List.map]
  rw [evF_s (fn := Try.f75) (msk := en75.ms) (hT := by rfl) (hb := by rfl)]
  refine bnd_i fun r1 c1 => ?_
  refine cb_i (fun c2 => ?_) (fun c2 => ?_)
  · rintro ⟨⟩
    simp only [go_sem, Nat.reduceAdd, Nat.reduceSub, Nat.reduceMul, Nat.reduceEqDiff, Nat.reduceBEq, Nat.reduceLT, Nat.reduceLeDiff, Nat.reducePow, Int.reduceToNat, Int.reduceLT, Int.reduceLE, Int.reduceGT, Int.reduceGE, Int.reduceEq, Int.reduceNeg, Int.reduceAdd, Int.reduceSub, Int.reduceMul, ↓reduceIte, reduceCtorEq, *]
  · refine bnd_i fun r2 c3 => ?_
    rintro ⟨⟩
    simp only [go_sem, Nat.reduceAdd, Nat.reduceSub, Nat.reduceMul, Nat.reduceEqDiff, Nat.reduceBEq, Nat.reduceLT, Nat.reduceLeDiff, Nat.reducePow, Int.reduceToNat, Int.reduceLT, Int.reduceLE, Int.reduceGT, Int.reduceGE, Int.reduceEq, Int.reduceNeg, Int.reduceAdd, Int.reduceSub, Int.reduceMul, ↓reduceIte, reduceCtorEq, *]
noncomputable def s_bound_Norm_Quanta (L : Nat) : Ev.Spec := specP (cCons k35 cNil) (fun x => p_bound_Norm_Quanta L x.1.1 x.1.2.1 x.1.2.2.1) (fun r => [.agg 35 [.int .i64 r.1, .int .i64 r.2.1, .bool r.2.2]])
theorem s_bound_Norm_Quanta_run (L : Nat) (a0_0 : Int) (a0_1 : Int) (a0_2 : Bool) : (s_bound_Norm_Quanta L).run [.agg 35 [.int .i64 a0_0, .int .i64 a0_1, .bool a0_2]] = (p_bound_Norm_Quanta L a0_0 a0_1 a0_2).map fun r => [.agg 35 [.int .i64 r.1, .int .i64 r.2.1, .bool r.2.2]] := specP_run (cCons k35 cNil) (fun x => p_bound_Norm_Quanta L x.1.1 x.1.2.1 x.1.2.2.1) (fun r => [.agg 35 [.int .i64 r.1, .int .i64 r.2.1, .bool r.2.2]]) ((a0_0, a0_1, a0_2, ()), ())
theorem ok_bound_Norm_Quanta (L : Nat) (hL : L ≤ 4611686018427387904) : SpecOk Try.prog 75 (s_bound_Norm_Quanta L) := specP_ok mixed (Go_bound_Norm_Quanta L hL) (To_bound_Norm_Quanta L) fun x r h => ⟨L, 1, e_bound_Norm_Quanta L hL x.1.1 x.1.2.1 x.1.2.2.1 r h⟩
end Go.Proofs.Ytnojehmbiceceaa.P
end
section
set_option linter.unusedVariables false
set_option linter.unusedSimpArgs false
set_option maxRecDepth 100000
namespace Go.Proofs.Ytnojehmbiceceaa.P
open Go.Ev Go.IntKind Go.Proofs.Ytnojehmbiceceaa Go.Proofs.Ytnojehmbiceceaa.Ty Go.Proofs.Ytnojehmbiceceaa.E
def p_bound_vague_Quanta (L : Nat) (a0_0 : Int) (a0_1 : Int) (a0_2 : Bool) (a1_0 : Int) (a1_1 : Int) (a1_2 : Bool) : Option Bool := bnd (p_bound_Norm_Quanta L a0_0 a0_1 a0_2) fun r1 => cb r1.2.2 (some true) (bnd (p_bound_Norm_Quanta L a1_0 a1_1 a1_2) fun r2 => some r2.2.2)
attribute [local go_sem] Ev.putR_s Ev.putR_0 Ev.thenO_s Ev.thenO_0 Ev.seqR_n Ev.seqR_e Ev.seqR_r Ev.seqR_0 Ev.blkR_e Ev.blkR_n Ev.blkR_r Ev.blkR_0 Ev.normR_s Ev.normR_0 Ev.outR_r Ev.outR_n Ev.outR_0 Ev.retS_s Ev.retS_0 Ev.pureO_s Ev.pureO_0 Ev.topR_0 Ev.topR_t Ev.topR_t0 Ev.oneL_0 Ev.oneL_s Ev.topR_d Ev.topR_nils Ev.topR_agg Ev.topR_rs Ev.evOp_move Ev.evOp_assign Ev.evOp_pick Ev.evOp_alloc Ev.evOp_box Ev.evOp_build Ev.evOp_buildSlice Ev.evOp_load Ev.evOp_store Ev.evOp_makeMap Ev.evOp_lookup Ev.evOp_mapUpdate Ev.evOp_insert Ev.evOp_nilCheck Ev.evOp_binOp Ev.evOp_unOp Ev.evOp_convert Ev.evOp_makeFunc Ev.evOp_makeSlice Ev.evOp_slice Ev.evOp_fieldAddr Ev.evOp_field Ev.evOp_indexAddr Ev.evOp_index Ev.evOp_extract Ev.evOp_call Ev.evOp_append Ev.evOp_clear Ev.evOp_len Ev.evOp_min Ev.evOp_max Ev.condR_b Ev.condR_t Ev.evOps_nil Ev.evOps_plain Ev.evOps_guard Ev.runG_eq Ev.skipG_eq Ev.condL_tt Ev.condL_ff Ev.condL_tf Ev.condL_ft Ev.condL_u Ev.condC_t Ev.condC_f Ev.evC_skip Ev.evC_ret Ev.evC_exit Ev.evC_label Ev.evC_region Ev.evC_draw Ev.evC_seq Ev.evC_cond Ev.evC_block Ev.evC_loop Ev.fin_d Ev.fin_nils Ev.fin_agg_ Ev.fin_rs Ev.finS_s Ev.mapO_fin Ev.upd_upd Ev.argv_d Ev.argv_nils Ev.argv_agg Ev.argv_rs Ev.argv_p Ev.fk_low Ev.appendTo_nils Ev.appendTo_rs Ev.consV_d Ev.consV_agg Ev.consV_p Ev.consV_rs Ev.consV_nils Ev.consV_fn Ev.consV_und Ev.consV_jk Ev.consV_grown Ev.topR_grown Ev.len_grown Ev.consV_mp Ev.sameK_i Ev.sameK_s Ev.mget_0 Ev.mget_hit Ev.mget_miss Ev.mput_0 Ev.mput_hit Ev.mput_miss Ev.apartAll Ev.apartL Ev.apartV Ev.freeAll Ev.sel Ev.keyOfV Ev.evLookup Ev.evPut Ev.hintOk Ev.keyOk Ev.consP Ev.lookV Ev.guardV Ev.dstAt Ev.evPure Ev.evStore Ev.evBin Ev.evBinO Ev.evNil Ev.isNilC Ev.evUn Ev.evConv Ev.evSlice Ev.optI Ev.foldI Ev.capsOk Ev.noTup Ev.nth Ev.setN Ev.killAt Ev.pad Ev.V.get Ev.V.put Ev.putD Ev.newBlk Ev.upd Ev.keq Ev.empty Ev.evCall Ev.V.args Ev.argP Ev.callOf Ev.evNilP Ev.isNilP Ev.look Ev.V.view.views Ev.V.view Ev.V.toD Ev.V.toD.V.toDs Ev.V.pure.pures Ev.V.pure Ev.D.flat.flats Ev.D.flat Ev.mkAgg Ev.allD Ev.aggParts Ev.setParts Ev.setElems Ev.getPath Ev.setPath Ev.subL Ev.eqD Ev.eqD.eqDs Ev.and2 Ev.strCut Ev.evalT Ev.constT Ev.evArgs Ev.mask Ev.maskOf Ev.tableOf Ev.compT Ev.resV Ev.retV Ev.mapO Ev.frzO_n Ev.frzO_e Ev.frzO_r Ev.frzO_0 Ev.mb_z Ev.mb_0 Ev.mb_s Ev.frzL_t Ev.frzL_f Ev.frzL_0 Ev.frzT_nils Ev.frzT_rs Ev.frzT_p Ev.frzK_i Ev.keyIn_i Ev.rI_nil Ev.rI_cons Ev.rI_row Ev.rI_app Ev.r_d Ev.r_nils Ev.r_agg Ev.r_rs Ev.r_gl Ev.vw_row Ev.vw_app Ev.appO_s Ev.frzT_gl Ev.allD_gl Ev.killAt_i Ev.tkOne_i Ev.hT_agg Ev.hT_vagg Ev.hT_int Ev.hT_bool Ev.hT_str Ev.hT_sl Ev.hT_ptr Ev.hT_np Ev.hT_p Ev.hT_rs Ev.hT_mp Ev.hT_nils Ev.hT_fn Ev.hT_jk Ev.hT_gl Ev.eO_sl Ev.eO_nils Ev.eO_rs Ev.eT_sl Ev.eT_rs Ev.pL_str Ev.pL_sl Ev.pL_rs Ev.pL_nils Ev.pL_min Ev.pL_max Ev.len_glB Ev.noTup_gl Ev.rowV_len Ev.rowV_nil Ev.rowV_cons Ev.rowV_append Ev.rowV_set Ev.rowV_replicate Ev.nth_row Ev.row_take Ev.row_drop Ev.toDs_row Ev.fin_row Ev.map_row Ev.map_take_ Ev.map_drop_ Ev.Bk_i Ev.GlB_0 Ev.GlB_mk Ev.gl_nil Ev.gl_cons Ev.gl_snoc Ev.gl_setN Ev.appendTo_gl Ev.consV_gl Ev.elems_gl Ev.fin_gl Ev.view_gl Ev.argv_gl Ev.topR_gl Ev.sp_z Ev.sp_0 Ev.sp_s Ev.km_z Ev.km_0 Ev.km_s Ev.beq_toList Ev.nc0 Ev.bq_t Ev.bq_f Ev.bodyN Ev.le_maxRow Int.cast_ofNat_Int IntWalk.i64_in IntWalk.u64_in IntWalk.u8_in beq_self_eq_true Bool.true_beq Bool.false_beq Bool.and_true Bool.true_and Bool.false_and Bool.and_false Bool.and_self Bool.not_true Bool.not_false Bool.not_eq_true cond_true cond_false if_true if_false and_true true_and and_self decide_true decide_false Bool.or_true Bool.true_or Bool.or_false Bool.false_or List.isEmpty List.isEmpty_nil List.size_toArray List.map List.length_map List.length_cons List.length_nil Option.map Option.bind Option.getD Option.isSome List.replicate Bool.false_eq_true implies_true false_implies forall_const Array.toList Array.isEmpty List.append List.nil_append List.cons_append List.drop_zero List.take_length List.take_succ_cons List.take_zero List.take_nil List.getElem?_map List.getElem?_cons_zero List.getElem?_cons_succ List.getElem?_nil List.append_nil eq_self Int.toNat_natCast List.length_append Nat.zero_add Nat.add_zero List.length_replicate Nat.sub_zero Option.map_some Option.map_none Int.le_refl Nat.le_refl Int.natCast_nonneg List.map_append
noncomputable def G_bound_vague_Quanta (L : Nat) : Specs := [(75, s_bound_Norm_Quanta L)]
noncomputable def T_bound_vague_Quanta : Table := tableOf [(226, en226)]
theorem Go_bound_vague_Quanta (L : Nat) (hL : L ≤ 4611686018427387904) : ∀ g s, Ev.look (G_bound_vague_Quanta L) g = some s → SpecOk Try.prog g s := (specs_cons (ok_bound_Norm_Quanta L hL) specs_nil)
theorem To_bound_vague_Quanta (L : Nat) : TableOk Try.prog ((G_bound_vague_Quanta L).map (·.1)) T_bound_vague_Quanta := (table_cons Try.func226 (by kernel_rfl) (by kernel_rfl) table_nil)
theorem lk_bound_vague_Quanta_75 (L : Nat) : Ev.look (G_bound_vague_Quanta L) 75 = some (s_bound_Norm_Quanta L) := nr rfl
attribute [local go_sem] Ty.tk4 Ty.ub4 Ty.ek4 Ty.zv4 Ty.by4 Ty.so4 Ty.tk24 Ty.ik24 Ty.ek24 Ty.zv24 Ty.by24 Ty.so24 Ty.tk35 Ty.ct35 Ty.ek35 Ty.zv35 Ty.by35 Ty.so35 Ty.k35_e E.mk226_1000000 lk_bound_vague_Quanta_75 s_bound_Norm_Quanta_run loopN loops Try.f226
theorem e_bound_vague_Quanta (L : Nat) (hL : L ≤ 4611686018427387904) (a0_0 : Int) (a0_1 : Int) (a0_2 : Bool) (a1_0 : Int) (a1_1 : Int) (a1_2 : Bool) (res : Bool) (h : p_bound_vague_Quanta L a0_0 a0_1 a0_2 a1_0 a1_1 a1_2 = some res) : evTop Try.prog (G_bound_vague_Quanta L) T_bound_vague_Quanta L 1 226 [.agg 35 [.int .i64 a0_0, .int .i64 a0_1, .bool a0_2], .agg 35 [.int .i64 a1_0, .int .i64 a1_1, .bool a1_2]] = some [.bool res] := by
  revert h
  unfold p_bound_vague_Quanta evTop
  simp only [List.map]
  rw [evF_s (fn := Try.f226) (msk := en226.ms) (hT := by rfl) (hb := by rfl)]
  refine bnd_i fun r1 c1 => ?_
  refine cb_i (fun c2 => ?_) (fun c2 => ?_)
  · rintro ⟨⟩
    simp only [go_sem, Nat.reduceAdd, Nat.reduceSub, Nat.reduceMul, Nat.reduceEqDiff, Nat.reduceBEq, Nat.reduceLT, Nat.reduceLeDiff, Nat.reducePow, Int.reduceToNat, Int.reduceLT, Int.reduceLE, Int.reduceGT, Int.reduceGE, Int.reduceEq, Int.reduceNeg, Int.reduceAdd, Int.reduceSub, Int.reduceMul, ↓reduceIte, reduceCtorEq, *]
  · refine bnd_i fun r2 c3 => ?_
    rintro ⟨⟩
    simp only [go_sem, Nat.reduceAdd, Nat.reduceSub, Nat.reduceMul, Nat.reduceEqDiff, Nat.reduceBEq, Nat.reduceLT, Nat.reduceLeDiff, Nat.reducePow, Int.reduceToNat, Int.reduceLT, Int.reduceLE, Int.reduceGT, Int.reduceGE, Int.reduceEq, Int.reduceNeg, Int.reduceAdd, Int.reduceSub, Int.reduceMul, ↓reduceIte, reduceCtorEq, *]
noncomputable def s_bound_vague_Quanta (L : Nat) : Ev.Spec := specP (cCons k35 (cCons k35 cNil)) (fun x => p_bound_vague_Quanta L x.1.1 x.1.2.1 x.1.2.2.1 x.2.1.1 x.2.1.2.1 x.2.1.2.2.1) (fun r => [.bool r])
theorem s_bound_vague_Quanta_run (L : Nat) (a0_0 : Int) (a0_1 : Int) (a0_2 : Bool) (a1_0 : Int) (a1_1 : Int) (a1_2 : Bool) : (s_bound_vague_Quanta L).run [.agg 35 [.int .i64 a0_0, .int .i64 a0_1, .bool a0_2], .agg 35 [.int .i64 a1_0, .int .i64 a1_1, .bool a1_2]] = (p_bound_vague_Quanta L a0_0 a0_1 a0_2 a1_0 a1_1 a1_2).map fun r => [.bool r] := specP_run (cCons k35 (cCons k35 cNil)) (fun x => p_bound_vague_Quanta L x.1.1 x.1.2.1 x.1.2.2.1 x.2.1.1 x.2.1.2.1 x.2.1.2.2.1) (fun r => [.bool r]) ((a0_0, a0_1, a0_2, ()), (a1_0, a1_1, a1_2, ()), ())
theorem ok_bound_vague_Quanta (L : Nat) (hL : L ≤ 4611686018427387904) : SpecOk Try.prog 226 (s_bound_vague_Quanta L) := specP_ok mixed (Go_bound_vague_Quanta L hL) (To_bound_vague_Quanta L) fun x r h => ⟨L, 1, e_bound_vague_Quanta L hL x.1.1 x.1.2.1 x.1.2.2.1 x.2.1.1 x.2.1.2.1 x.2.1.2.2.1 r h⟩
end Go.Proofs.Ytnojehmbiceceaa.P
end
section
set_option linter.unusedVariables false
set_option linter.unusedSimpArgs false
set_option maxRecDepth 100000
namespace Go.Proofs.Ytnojehmbiceceaa.E
open Go.Ev
noncomputable def en80 : Entry := ⟨Try.f80, [(1000000, mb 9 0 [4])]⟩
theorem mk80_1000000 (vs : List V) : mask (maskOf en80.ms 1000000) vs = km 9 0 [4] vs := mask_mb _ _ _ _
end Go.Proofs.Ytnojehmbiceceaa.E
end
section
set_option linter.unusedVariables false
set_option linter.unusedSimpArgs false
set_option maxRecDepth 100000
namespace Go.Proofs.Ytnojehmbiceceaa.P
open Go.Ev Go.IntKind Go.Proofs.Ytnojehmbiceceaa Go.Proofs.Ytnojehmbiceceaa.Ty Go.Proofs.Ytnojehmbiceceaa.E
def p_bound_Of_Quanta (L : Nat) (a0 : Int) (a1 : Int) : Option (Int × Int × Bool) := bnd (p_bound_Norm_Quanta L a0 a1 false) fun r1 => some (r1.1, r1.2.1, r1.2.2)
attribute [local go_sem] Ev.putR_s Ev.putR_0 Ev.thenO_s Ev.thenO_0 Ev.seqR_n Ev.seqR_e Ev.seqR_r Ev.seqR_0 Ev.blkR_e Ev.blkR_n Ev.blkR_r Ev.blkR_0 Ev.normR_s Ev.normR_0 Ev.outR_r Ev.outR_n Ev.outR_0 Ev.retS_s Ev.retS_0 Ev.pureO_s Ev.pureO_0 Ev.topR_0 Ev.topR_t Ev.topR_t0 Ev.oneL_0 Ev.oneL_s Ev.topR_d Ev.topR_nils Ev.topR_agg Ev.topR_rs Ev.evOp_move Ev.evOp_assign Ev.evOp_pick Ev.evOp_alloc Ev.evOp_box Ev.evOp_build Ev.evOp_buildSlice Ev.evOp_load Ev.evOp_store Ev.evOp_makeMap Ev.evOp_lookup Ev.evOp_mapUpdate Ev.evOp_insert Ev.evOp_nilCheck Ev.evOp_binOp Ev.evOp_unOp Ev.evOp_convert Ev.evOp_makeFunc Ev.evOp_makeSlice Ev.evOp_slice Ev.evOp_fieldAddr Ev.evOp_field Ev.evOp_indexAddr Ev.evOp_index Ev.evOp_extract Ev.evOp_call Ev.evOp_append Ev.evOp_clear Ev.evOp_len Ev.evOp_min Ev.evOp_max Ev.condR_b Ev.condR_t Ev.evOps_nil Ev.evOps_plain Ev.evOps_guard Ev.runG_eq Ev.skipG_eq Ev.condL_tt Ev.condL_ff Ev.condL_tf Ev.condL_ft Ev.condL_u Ev.condC_t Ev.condC_f Ev.evC_skip Ev.evC_ret Ev.evC_exit Ev.evC_label Ev.evC_region Ev.evC_draw Ev.evC_seq Ev.evC_cond Ev.evC_block Ev.evC_loop Ev.fin_d Ev.fin_nils Ev.fin_agg_ Ev.fin_rs Ev.finS_s Ev.mapO_fin Ev.upd_upd Ev.argv_d Ev.argv_nils Ev.argv_agg Ev.argv_rs Ev.argv_p Ev.fk_low Ev.appendTo_nils Ev.appendTo_rs Ev.consV_d Ev.consV_agg Ev.consV_p Ev.consV_rs Ev.consV_nils Ev.consV_fn Ev.consV_und Ev.consV_jk Ev.consV_grown Ev.topR_grown Ev.len_grown Ev.consV_mp Ev.sameK_i Ev.sameK_s Ev.mget_0 Ev.mget_hit Ev.mget_miss Ev.mput_0 Ev.mput_hit Ev.mput_miss Ev.apartAll Ev.apartL Ev.apartV Ev.freeAll Ev.sel Ev.keyOfV Ev.evLookup Ev.evPut Ev.hintOk Ev.keyOk Ev.consP Ev.lookV Ev.guardV Ev.dstAt Ev.evPure Ev.evStore Ev.evBin Ev.evBinO Ev.evNil Ev.isNilC Ev.evUn Ev.evConv Ev.evSlice Ev.optI Ev.foldI Ev.capsOk Ev.noTup Ev.nth Ev.setN Ev.killAt Ev.pad Ev.V.get Ev.V.put Ev.putD Ev.newBlk Ev.upd Ev.keq Ev.empty Ev.evCall Ev.V.args Ev.argP Ev.callOf Ev.evNilP Ev.isNilP Ev.look Ev.V.view.views Ev.V.view Ev.V.toD Ev.V.toD.V.toDs Ev.V.pure.pures Ev.V.pure Ev.D.flat.flats Ev.D.flat Ev.mkAgg Ev.allD Ev.aggParts Ev.setParts Ev.setElems Ev.getPath Ev.setPath Ev.subL Ev.eqD Ev.eqD.eqDs Ev.and2 Ev.strCut Ev.evalT Ev.constT Ev.evArgs Ev.mask Ev.maskOf Ev.tableOf Ev.compT Ev.resV Ev.retV Ev.mapO Ev.frzO_n Ev.frzO_e Ev.frzO_r Ev.frzO_0 Ev.mb_z Ev.mb_0 Ev.mb_s Ev.frzL_t Ev.frzL_f Ev.frzL_0 Ev.frzT_nils Ev.frzT_rs Ev.frzT_p Ev.frzK_i Ev.keyIn_i Ev.rI_nil Ev.rI_cons Ev.rI_row Ev.rI_app Ev.r_d Ev.r_nils Ev.r_agg Ev.r_rs Ev.r_gl Ev.vw_row Ev.vw_app Ev.appO_s Ev.frzT_gl Ev.allD_gl Ev.killAt_i Ev.tkOne_i Ev.hT_agg Ev.hT_vagg Ev.hT_int Ev.hT_bool Ev.hT_str Ev.hT_sl Ev.hT_ptr Ev.hT_np Ev.hT_p Ev.hT_rs Ev.hT_mp Ev.hT_nils Ev.hT_fn Ev.hT_jk Ev.hT_gl Ev.eO_sl Ev.eO_nils Ev.eO_rs Ev.eT_sl Ev.eT_rs Ev.pL_str Ev.pL_sl Ev.pL_rs Ev.pL_nils Ev.pL_min Ev.pL_max Ev.len_glB Ev.noTup_gl Ev.rowV_len Ev.rowV_nil Ev.rowV_cons Ev.rowV_append Ev.rowV_set Ev.rowV_replicate Ev.nth_row Ev.row_take Ev.row_drop Ev.toDs_row Ev.fin_row Ev.map_row Ev.map_take_ Ev.map_drop_ Ev.Bk_i Ev.GlB_0 Ev.GlB_mk Ev.gl_nil Ev.gl_cons Ev.gl_snoc Ev.gl_setN Ev.appendTo_gl Ev.consV_gl Ev.elems_gl Ev.fin_gl Ev.view_gl Ev.argv_gl Ev.topR_gl Ev.sp_z Ev.sp_0 Ev.sp_s Ev.km_z Ev.km_0 Ev.km_s Ev.beq_toList Ev.nc0 Ev.bq_t Ev.bq_f Ev.bodyN Ev.le_maxRow Int.cast_ofNat_Int IntWalk.i64_in IntWalk.u64_in IntWalk.u8_in beq_self_eq_true Bool.true_beq Bool.false_beq Bool.and_true Bool.true_and Bool.false_and Bool.and_false Bool.and_self Bool.not_true Bool.not_false Bool.not_eq_true cond_true cond_false if_true if_false and_true true_and and_self decide_true decide_false Bool.or_true Bool.true_or Bool.or_false Bool.false_or List.isEmpty List.isEmpty_nil List.size_toArray List.map List.length_map List.length_cons List.length_nil Option.map Option.bind Option.getD Option.isSome List.replicate Bool.false_eq_true implies_true false_implies forall_const Array.toList Array.isEmpty List.append List.nil_append List.cons_append List.drop_zero List.take_length List.take_succ_cons List.take_zero List.take_nil List.getElem?_map List.getElem?_cons_zero List.getElem?_cons_succ List.getElem?_nil List.append_nil eq_self Int.toNat_natCast List.length_append Nat.zero_add Nat.add_zero List.length_replicate Nat.sub_zero Option.map_some Option.map_none Int.le_refl Nat.le_refl Int.natCast_nonneg List.map_append
noncomputable def G_bound_Of_Quanta (L : Nat) : Specs := [(75, s_bound_Norm_Quanta L)]
noncomputable def T_bound_Of_Quanta : Table := tableOf [(80, en80)]
theorem Go_bound_Of_Quanta (L : Nat) (hL : L ≤ 4611686018427387904) : ∀ g s, Ev.look (G_bound_Of_Quanta L) g = some s → SpecOk Try.prog g s := (specs_cons (ok_bound_Norm_Quanta L hL) specs_nil)
theorem To_bound_Of_Quanta (L : Nat) : TableOk Try.prog ((G_bound_Of_Quanta L).map (·.1)) T_bound_Of_Quanta := (table_cons Try.func80 (by kernel_rfl) (by kernel_rfl) table_nil)
theorem lk_bound_Of_Quanta_75 (L : Nat) : Ev.look (G_bound_Of_Quanta L) 75 = some (s_bound_Norm_Quanta L) := nr rfl
attribute [local go_sem] Ty.tk4 Ty.ub4 Ty.ek4 Ty.zv4 Ty.by4 Ty.so4 Ty.tk24 Ty.ik24 Ty.ek24 Ty.zv24 Ty.by24 Ty.so24 Ty.tk35 Ty.ct35 Ty.ek35 Ty.zv35 Ty.by35 Ty.so35 Ty.k35_e E.mk80_1000000 lk_bound_Of_Quanta_75 s_bound_Norm_Quanta_run loopN loops Try.f80
theorem e_bound_Of_Quanta (L : Nat) (hL : L ≤ 4611686018427387904) (a0 : Int) (a1 : Int) (res : Int × Int × Bool) (h : p_bound_Of_Quanta L a0 a1 = some res) : evTop Try.prog (G_bound_Of_Quanta L) T_bound_Of_Quanta L 1 80 [.int .i64 a0, .int .i64 a1] = some [.agg 35 [.int .i64 res.1, .int .i64 res.2.1, .bool res.2.2]] := by
  revert h
  unfold p_bound_Of_Quanta evTop
  simp only [List.map]
  rw [evF_s (fn := Try.f80) (msk := en80.ms) (hT := by rfl) (hb := by rfl)]
  refine bnd_i fun r1 c1 => ?_
  rintro ⟨⟩
  simp only [go_sem, Nat.reduceAdd, Nat.reduceSub, Nat.reduceMul, Nat.reduceEqDiff, Nat.reduceBEq, Nat.reduceLT, Nat.reduceLeDiff, Nat.reducePow, Int.reduceToNat, Int.reduceLT, Int.reduceLE, Int.reduceGT, Int.reduceGE, Int.reduceEq, Int.reduceNeg, Int.reduceAdd, Int.reduceSub, Int.reduceMul, ↓reduceIte, reduceCtorEq, *]
noncomputable def s_bound_Of_Quanta (L : Nat) : Ev.Spec := specP (cCons (cI .i64) (cCons (cI .i64) cNil)) (fun x => p_bound_Of_Quanta L x.1 x.2.1) (fun r => [.agg 35 [.int .i64 r.1, .int .i64 r.2.1, .bool r.2.2]])
theorem s_bound_Of_Quanta_run (L : Nat) (a0 : Int) (a1 : Int) : (s_bound_Of_Quanta L).run [.int .i64 a0, .int .i64 a1] = (p_bound_Of_Quanta L a0 a1).map fun r => [.agg 35 [.int .i64 r.1, .int .i64 r.2.1, .bool r.2.2]] := specP_run (cCons (cI .i64) (cCons (cI .i64) cNil)) (fun x => p_bound_Of_Quanta L x.1 x.2.1) (fun r => [.agg 35 [.int .i64 r.1, .int .i64 r.2.1, .bool r.2.2]]) (a0, a1, ())
theorem ok_bound_Of_Quanta (L : Nat) (hL : L ≤ 4611686018427387904) : SpecOk Try.prog 80 (s_bound_Of_Quanta L) := specP_ok mixed (Go_bound_Of_Quanta L hL) (To_bound_Of_Quanta L) fun x r h => ⟨L, 1, e_bound_Of_Quanta L hL x.1 x.2.1 r h⟩
end Go.Proofs.Ytnojehmbiceceaa.P
end
section
set_option linter.unusedVariables false
set_option linter.unusedSimpArgs false
set_option maxRecDepth 100000
namespace Go.Proofs.Ytnojehmbiceceaa.E
open Go.Ev
noncomputable def en104 : Entry := ⟨Try.f104, [(1000001, mb 56 0 []), (1000000, mb 56 0 [6])]⟩
theorem mk104_1000001 (vs : List V) : mask (maskOf en104.ms 1000001) vs = km 56 0 [] vs := mask_mb _ _ _ _
theorem mk104_1000000 (vs : List V) : mask (maskOf en104.ms 1000000) vs = km 56 0 [6] vs := mask_mb _ _ _ _
end Go.Proofs.Ytnojehmbiceceaa.E
end
section
set_option linter.unusedVariables false
set_option linter.unusedSimpArgs false
set_option maxRecDepth 100000
namespace Go.Proofs.Ytnojehmbiceceaa.P
open Go.Ev Go.IntKind Go.Proofs.Ytnojehmbiceceaa Go.Proofs.Ytnojehmbiceceaa.Ty Go.Proofs.Ytnojehmbiceceaa.E
def p_spyref3_BoundFault_Quanta (L : Nat) (a0_0 : Int) (a0_1 : Int) (a0_2 : Bool) (a1 : Int) (a2 : Int) : Option Int := cb a0_2 (cb (decide (a0_0 = 0)) (cb (decide (a0_1 = 0)) (if a0_0 < (-1152921504606846976) then (some 4) else (if a0_0 > 1152921504606846976 then (some 4) else (if a0_1 < (-1152921504606846976) then (some 4) else (if a0_1 > 1152921504606846976 then (some 4) else (if a0_0 > a0_1 then (some 11) else (if a0_0 < a1 then (some 4) else (if a0_1 > a2 then (some 4) else (some 0)))))))) (some 3)) (some 3)) (if a0_0 < (-1152921504606846976) then (some 4) else (if a0_0 > 1152921504606846976 then (some 4) else (if a0_1 < (-1152921504606846976) then (some 4) else (if a0_1 > 1152921504606846976 then (some 4) else (if a0_0 > a0_1 then (some 11) else (if a0_0 < a1 then (some 4) else (if a0_1 > a2 then (some 4) else (some 0))))))))
attribute [local go_sem] Ev.putR_s Ev.putR_0 Ev.thenO_s Ev.thenO_0 Ev.seqR_n Ev.seqR_e Ev.seqR_r Ev.seqR_0 Ev.blkR_e Ev.blkR_n Ev.blkR_r Ev.blkR_0 Ev.normR_s Ev.normR_0 Ev.outR_r Ev.outR_n Ev.outR_0 Ev.retS_s Ev.retS_0 Ev.pureO_s Ev.pureO_0 Ev.topR_0 Ev.topR_t Ev.topR_t0 Ev.oneL_0 Ev.oneL_s Ev.topR_d Ev.topR_nils Ev.topR_agg Ev.topR_rs Ev.evOp_move Ev.evOp_assign Ev.evOp_pick Ev.evOp_alloc Ev.evOp_box Ev.evOp_build Ev.evOp_buildSlice Ev.evOp_load Ev.evOp_store Ev.evOp_makeMap Ev.evOp_lookup Ev.evOp_mapUpdate Ev.evOp_insert Ev.evOp_nilCheck Ev.evOp_binOp Ev.evOp_unOp Ev.evOp_convert Ev.evOp_makeFunc Ev.evOp_makeSlice Ev.evOp_slice Ev.evOp_fieldAddr Ev.evOp_field Ev.evOp_indexAddr Ev.evOp_index Ev.evOp_extract Ev.evOp_call Ev.evOp_append Ev.evOp_clear Ev.evOp_len Ev.evOp_min Ev.evOp_max Ev.condR_b Ev.condR_t Ev.evOps_nil Ev.evOps_plain Ev.evOps_guard Ev.runG_eq Ev.skipG_eq Ev.condL_tt Ev.condL_ff Ev.condL_tf Ev.condL_ft Ev.condL_u Ev.condC_t Ev.condC_f Ev.evC_skip Ev.evC_ret Ev.evC_exit Ev.evC_label Ev.evC_region Ev.evC_draw Ev.evC_seq Ev.evC_cond Ev.evC_block Ev.evC_loop Ev.fin_d Ev.fin_nils Ev.fin_agg_ Ev.fin_rs Ev.finS_s Ev.mapO_fin Ev.upd_upd Ev.argv_d Ev.argv_nils Ev.argv_agg Ev.argv_rs Ev.argv_p Ev.fk_low Ev.appendTo_nils Ev.appendTo_rs Ev.consV_d Ev.consV_agg Ev.consV_p Ev.consV_rs Ev.consV_nils Ev.consV_fn Ev.consV_und Ev.consV_jk Ev.consV_grown Ev.topR_grown Ev.len_grown Ev.consV_mp Ev.sameK_i Ev.sameK_s Ev.mget_0 Ev.mget_hit Ev.mget_miss Ev.mput_0 Ev.mput_hit Ev.mput_miss Ev.apartAll Ev.apartL Ev.apartV Ev.freeAll Ev.sel Ev.keyOfV Ev.evLookup Ev.evPut Ev.hintOk Ev.keyOk Ev.consP Ev.lookV Ev.guardV Ev.dstAt Ev.evPure Ev.evStore Ev.evBin Ev.evBinO Ev.evNil Ev.isNilC Ev.evUn Ev.evConv Ev.evSlice Ev.optI Ev.foldI Ev.capsOk Ev.noTup Ev.nth Ev.setN Ev.killAt Ev.pad Ev.V.get Ev.V.put Ev.putD Ev.newBlk Ev.upd Ev.keq Ev.empty Ev.evCall Ev.V.args Ev.argP Ev.callOf Ev.evNilP Ev.isNilP Ev.look Ev.V.view.views Ev.V.view Ev.V.toD Ev.V.toD.V.toDs Ev.V.pure.pures Ev.V.pure Ev.D.flat.flats Ev.D.flat Ev.mkAgg Ev.allD Ev.aggParts Ev.setParts Ev.setElems Ev.getPath Ev.setPath Ev.subL Ev.eqD Ev.eqD.eqDs Ev.and2 Ev.strCut Ev.evalT Ev.constT Ev.evArgs Ev.mask Ev.maskOf Ev.tableOf Ev.compT Ev.resV Ev.retV Ev.mapO Ev.frzO_n Ev.frzO_e Ev.frzO_r Ev.frzO_0 Ev.mb_z Ev.mb_0 Ev.mb_s Ev.frzL_t Ev.frzL_f Ev.frzL_0 Ev.frzT_nils Ev.frzT_rs Ev.frzT_p Ev.frzK_i Ev.keyIn_i Ev.rI_nil Ev.rI_cons Ev.rI_row Ev.rI_app Ev.r_d Ev.r_nils Ev.r_agg Ev.r_rs Ev.r_gl Ev.vw_row Ev.vw_app Ev.appO_s Ev.frzT_gl Ev.allD_gl Ev.killAt_i Ev.tkOne_i Ev.hT_agg Ev.hT_vagg Ev.hT_int Ev.hT_bool Ev.hT_str Ev.hT_sl Ev.hT_ptr Ev.hT_np Ev.hT_p Ev.hT_rs Ev.hT_mp Ev.hT_nils Ev.hT_fn Ev.hT_jk Ev.hT_gl Ev.eO_sl Ev.eO_nils Ev.eO_rs Ev.eT_sl Ev.eT_rs Ev.pL_str Ev.pL_sl Ev.pL_rs Ev.pL_nils Ev.pL_min Ev.pL_max Ev.len_glB Ev.noTup_gl Ev.rowV_len Ev.rowV_nil Ev.rowV_cons Ev.rowV_append Ev.rowV_set Ev.rowV_replicate Ev.nth_row Ev.row_take Ev.row_drop Ev.toDs_row Ev.fin_row Ev.map_row Ev.map_take_ Ev.map_drop_ Ev.Bk_i Ev.GlB_0 Ev.GlB_mk Ev.gl_nil Ev.gl_cons Ev.gl_snoc Ev.gl_setN Ev.appendTo_gl Ev.consV_gl Ev.elems_gl Ev.fin_gl Ev.view_gl Ev.argv_gl Ev.topR_gl Ev.sp_z Ev.sp_0 Ev.sp_s Ev.km_z Ev.km_0 Ev.km_s Ev.beq_toList Ev.nc0 Ev.bq_t Ev.bq_f Ev.bodyN Ev.le_maxRow Int.cast_ofNat_Int IntWalk.i64_in IntWalk.u64_in IntWalk.u8_in beq_self_eq_true Bool.true_beq Bool.false_beq Bool.and_true Bool.true_and Bool.false_and Bool.and_false Bool.and_self Bool.not_true Bool.not_false Bool.not_eq_true cond_true cond_false if_true if_false and_true true_and and_self decide_true decide_false Bool.or_true Bool.true_or Bool.or_false Bool.false_or List.isEmpty List.isEmpty_nil List.size_toArray List.map List.length_map List.length_cons List.length_nil Option.map Option.bind Option.getD Option.isSome List.replicate Bool.false_eq_true implies_true false_implies forall_const Array.toList Array.isEmpty List.append List.nil_append List.cons_append List.drop_zero List.take_length List.take_succ_cons List.take_zero List.take_nil List.getElem?_map List.getElem?_cons_zero List.getElem?_cons_succ List.getElem?_nil List.append_nil eq_self Int.toNat_natCast List.length_append Nat.zero_add Nat.add_zero List.length_replicate Nat.sub_zero Option.map_some Option.map_none Int.le_refl Nat.le_refl Int.natCast_nonneg List.map_append
attribute [local go_sem_proc] Nat.reduceAdd Nat.reduceSub Nat.reduceMul Nat.reduceEqDiff Nat.reduceBEq Nat.reduceLT Nat.reduceLeDiff Nat.reducePow Int.reduceToNat Int.reduceLT Int.reduceLE Int.reduceGT Int.reduceGE Int.reduceEq Int.reduceNeg Int.reduceAdd Int.reduceSub Int.reduceMul reduceCtorEq
attribute [local go_sem_proc ↓] reduceIte
noncomputable def G_spyref3_BoundFault_Quanta (L : Nat) : Specs := []
noncomputable def T_spyref3_BoundFault_Quanta : Table := tableOf [(104, en104)]
theorem Go_spyref3_BoundFault_Quanta (L : Nat) (hL : L ≤ 4611686018427387904) : ∀ g s, Ev.look (G_spyref3_BoundFault_Quanta L) g = some s → SpecOk Try.prog g s := specs_nil
theorem To_spyref3_BoundFault_Quanta (L : Nat) : TableOk Try.prog ((G_spyref3_BoundFault_Quanta L).map (·.1)) T_spyref3_BoundFault_Quanta := (table_cons Try.func104 (by kernel_rfl) (by kernel_rfl) table_nil)
attribute [local go_sem] Ty.tk4 Ty.ub4 Ty.ek4 Ty.zv4 Ty.by4 Ty.so4 Ty.tk24 Ty.ik24 Ty.ek24 Ty.zv24 Ty.by24 Ty.so24 Ty.tk27 Ty.ik27 Ty.ek27 Ty.zv27 Ty.by27 Ty.so27 Ty.tk35 Ty.ct35 Ty.ek35 Ty.zv35 Ty.by35 Ty.so35 Ty.k35_e E.mk104_1000001 E.mk104_1000000 loopN loops Try.f104
theorem e_spyref3_BoundFault_Quanta (L : Nat) (hL : L ≤ 4611686018427387904) (a0_0 : Int) (a0_1 : Int) (a0_2 : Bool) (a1 : Int) (a2 : Int) (res : Int) (h : p_spyref3_BoundFault_Quanta L a0_0 a0_1 a0_2 a1 a2 = some res) : evTop Try.prog (G_spyref3_BoundFault_Quanta L) T_spyref3_BoundFault_Quanta L 1 104 [.agg 35 [.int .i64 a0_0, .int .i64 a0_1, .bool a0_2], .int .i64 a1, .int .i64 a2] = some [.int .i64 res] := by
  revert h
  unfold p_spyref3_BoundFault_Quanta evTop
  simp only [List.map]
  rw [evF_s (fn := Try.f104) (msk := en104.ms) (hT := by rfl) (hb := by rfl)]
  refine cb_i (fun c1 => ?_) (fun c1 => ?_)
  · refine cb_i (fun c2 => ?_) (fun c2 => ?_)
    · refine cb_i (fun c3 => ?_) (fun c3 => ?_)
      · refine ite_i (fun c4 => ?_) (fun c4 => ?_)
        · rintro ⟨⟩
          simp only [go_sem, *]
        · refine ite_i (fun c5 => ?_) (fun c5 => ?_)
          · rintro ⟨⟩
            simp only [go_sem, *]
          · refine ite_i (fun c6 => ?_) (fun c6 => ?_)
            · rintro ⟨⟩
              simp only [go_sem, *]
            · refine ite_i (fun c7 => ?_) (fun c7 => ?_)
              · rintro ⟨⟩
                simp only [go_sem, *]
              · refine ite_i (fun c8 => ?_) (fun c8 => ?_)
                · rintro ⟨⟩
                  simp only [go_sem, *]
                · refine ite_i (fun c9 => ?_) (fun c9 => ?_)
                  · rintro ⟨⟩
                    simp only [go_sem, *]
                  · refine ite_i (fun c10 => ?_) (fun c10 => ?_)
                    · rintro ⟨⟩
                      simp only [go_sem, *]
                    · rintro ⟨⟩
                      simp only [go_sem, *]
      · rintro ⟨⟩
        simp only [go_sem, *]
    · rintro ⟨⟩
      simp only [go_sem, *]
  · refine ite_i (fun c11 => ?_) (fun c11 => ?_)
    · rintro ⟨⟩
      simp only [go_sem, *]
    · refine ite_i (fun c12 => ?_) (fun c12 => ?_)
      · rintro ⟨⟩
        simp only [go_sem, *]
      · refine ite_i (fun c13 => ?_) (fun c13 => ?_)
        · rintro ⟨⟩
          simp only [go_sem, *]
        · refine ite_i (fun c14 => ?_) (fun c14 => ?_)
          · rintro ⟨⟩
            simp only [go_sem, *]
          · refine ite_i (fun c15 => ?_) (fun c15 => ?_)
            · rintro ⟨⟩
              simp only [go_sem, *]
            · refine ite_i (fun c16 => ?_) (fun c16 => ?_)
              · rintro ⟨⟩
                simp only [go_sem, *]
              · refine ite_i (fun c17 => ?_) (fun c17 => ?_)
                · rintro ⟨⟩
                  simp only [go_sem, *]
                · rintro ⟨⟩
                  simp only [go_sem, *]
noncomputable def s_spyref3_BoundFault_Quanta (L : Nat) : Ev.Spec := specP (cCons k35 (cCons (cI .i64) (cCons (cI .i64) cNil))) (fun x => p_spyref3_BoundFault_Quanta L x.1.1 x.1.2.1 x.1.2.2.1 x.2.1 x.2.2.1) (fun r => [.int .i64 r])
theorem s_spyref3_BoundFault_Quanta_run (L : Nat) (a0_0 : Int) (a0_1 : Int) (a0_2 : Bool) (a1 : Int) (a2 : Int) : (s_spyref3_BoundFault_Quanta L).run [.agg 35 [.int .i64 a0_0, .int .i64 a0_1, .bool a0_2], .int .i64 a1, .int .i64 a2] = (p_spyref3_BoundFault_Quanta L a0_0 a0_1 a0_2 a1 a2).map fun r => [.int .i64 r] := specP_run (cCons k35 (cCons (cI .i64) (cCons (cI .i64) cNil))) (fun x => p_spyref3_BoundFault_Quanta L x.1.1 x.1.2.1 x.1.2.2.1 x.2.1 x.2.2.1) (fun r => [.int .i64 r]) ((a0_0, a0_1, a0_2, ()), a1, a2, ())
theorem ok_spyref3_BoundFault_Quanta (L : Nat) (hL : L ≤ 4611686018427387904) : SpecOk Try.prog 104 (s_spyref3_BoundFault_Quanta L) := specP_ok mixed (Go_spyref3_BoundFault_Quanta L hL) (To_spyref3_BoundFault_Quanta L) fun x r h => ⟨L, 1, e_spyref3_BoundFault_Quanta L hL x.1.1 x.1.2.1 x.1.2.2.1 x.2.1 x.2.2.1 r h⟩
end Go.Proofs.Ytnojehmbiceceaa.P
end
section
set_option linter.unusedVariables false
set_option linter.unusedSimpArgs false
namespace Go.Proofs.Ytnojehmbiceceaa.PlBndAQuanta
open Go.Ev Go.IntKind Go.Pl Go.Proofs.Ytnojehmbiceceaa.P
abbrev Bd := Int × Int × Bool × Unit
def chk (a b : Int) (u : Bool) : Int := if u = true ∧ (a ≠ 0 ∨ b ≠ 0) then 3 else if a < -1152921504606846976 ∨ a > 1152921504606846976 ∨ b < -1152921504606846976 ∨ b > 1152921504606846976 then 4 else if a > b then 11 else 0
def bad (b : Bd) : Bool := b.2.2.1 || decide (b.1 > b.2.1) || decide (b.1 < -1152921504606846976) || decide (b.2.1 > 1152921504606846976)
def fault (a b : Int) (u : Bool) (lo hi : Int) : Int := if chk a b u ≠ 0 then chk a b u else if a < lo ∨ b > hi then 4 else 0
theorem check_eq (L : Nat) (a b : Int) (u : Bool) : p_bound_Check_Quanta L a b u = some (chk a b u) := by
  unfold p_bound_Check_Quanta chk
  unfold minI maxI
  cases u
  · simp only [cb_f, Bool.false_eq_true, false_and, if_false]
    repeat' split
    all_goals first | rfl | (exfalso; omega)
  · rw [cb_t, cb_d, cb_d]
    by_cases h1 : a = 0
    · by_cases h2 : b = 0
      · subst h1 h2; decide
      · rw [if_pos h1, if_neg h2, if_pos ⟨rfl, .inr h2⟩]
    · rw [if_neg h1, if_pos ⟨rfl, .inl h1⟩]
theorem fault_eq (L : Nat) (a b : Int) (u : Bool) (lo hi : Int) : p_spyref3_BoundFault_Quanta L a b u lo hi = some (fault a b u lo hi) := by
  unfold p_spyref3_BoundFault_Quanta fault chk
  cases u
  · simp only [cb_f, Bool.false_eq_true, false_and, if_false]
    repeat' split
    all_goals first | rfl | (exfalso; omega)
  · simp only [cb_t, cb_d, true_and]
    repeat' split
    all_goals first | rfl | (exfalso; omega)
theorem chk_known (a b : Int) : chk a b false = 0 ↔ bad (a, b, false, ()) = false := by
  unfold chk bad
  simp only [Bool.false_eq_true, false_and, if_false, Bool.false_or, Bool.or_eq_false_iff, decide_eq_false_iff_not]
  split
  · omega
  · split <;> omega
def none_ : Int × Int × Bool := (0, 0, true)
def norm (a b : Int) (u : Bool) : Int × Int × Bool := if chk a b u = 0 then (a, b, u) else none_
theorem norm_eq (L : Nat) (a b : Int) (u : Bool) : p_bound_Norm_Quanta L a b u = some (norm a b u) := by
  unfold p_bound_Norm_Quanta norm
  rw [check_eq, bnd_s, cb_d]
  split <;> rfl
theorem norm_vague (a b : Int) (u : Bool) : (norm a b u).2.2 = bad (a, b, u, ()) := by
  unfold norm
  cases u with
  | true => split <;> simp [bad, none_]
  | false =>
    by_cases h : chk a b false = 0
    · rw [if_pos h, (chk_known a b).1 h]
    · rw [if_neg h]
      have : ¬ bad (a, b, false, ()) = false := fun e => h ((chk_known a b).2 e)
      simp only [none_]
      exact (Bool.not_eq_false _ ▸ this : bad (a, b, false, ()) = true).symm
theorem norm_good {a b : Int} {u : Bool} (h : bad (a, b, u, ()) = false) : norm a b u = (a, b, u) := by
  have := norm_vague a b u
  rw [h] at this
  unfold norm at this ⊢
  split
  · rfl
  · rename_i hc
    rw [if_neg hc] at this
    cases this
theorem none_eq (L : Nat) : p_bound_None_Quanta L = some none_ := rfl
theorem of_eq (L : Nat) (a b : Int) : p_bound_Of_Quanta L a b = some (norm a b false) := by unfold p_bound_Of_Quanta; rw [norm_eq, bnd_s]
theorem vague_eq (L : Nat) (a b : Int) (u : Bool) (c d : Int) (v : Bool) : p_bound_vague_Quanta L a b u c d v = some (bad (a, b, u, ()) || bad (c, d, v, ())) := by
  unfold p_bound_vague_Quanta
  rw [norm_eq, bnd_s, norm_vague, norm_eq, bnd_s, norm_vague]
  cases bad (a, b, u, ()) <;> rfl
end Go.Proofs.Ytnojehmbiceceaa.PlBndAQuanta
end
section
set_option linter.unusedVariables false
set_option linter.unusedSimpArgs false
set_option maxRecDepth 100000
namespace Go.Proofs.Ytnojehmbiceceaa.E
open Go.Ev
noncomputable def en9 : Entry := ⟨Try.f9, [(1000000, mb 39 0 [4])]⟩
theorem dw9_3 (lv : Nat) (env : List V) (st : Store) (o : Option (List V × Store)) : drawR en9.ms 3 lv env st o = if lv < 1000000000000000000000000000000 then (o) else none := nr rfl
theorem kl9_3 (lv : Nat) (st : Store) : killR en9.ms 3 lv st = st := nr rfl
theorem nc9_3 : ncOf en9.ms 3 = false := nr rfl
theorem mk9_1000000 (vs : List V) : mask (maskOf en9.ms 1000000) vs = km 39 0 [4] vs := mask_mb _ _ _ _
end Go.Proofs.Ytnojehmbiceceaa.E
end
