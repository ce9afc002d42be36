/- The law QuantaDraws: Spread, Range and Draw answer as the reference's Deviation, Reached and Drawn for all means and seeds. No conditions. -/
import Derived.Test.YtjplkbeolakbjaaDrawQuantaDraws
set_option linter.unusedVariables false
set_option linter.unusedSimpArgs false
namespace Go.Proofs.Ytjplkbeolakbjaa.Pure
open Go.RowKit Go.Proofs.Ytjplkbeolakbjaa.PQuantaDraws Go.Proofs.YtjplkbeolakbjaaW.PrintWords Go.Proofs.YtjplkbeolakbjaaW.PrintLast Go.Proofs.YtjplkbeolakbjaaW.PrintMore

theorem draws_200 : spylaw3_draws.f 200 = some true := by kernel_rfl
theorem draws_draws (k : Nat) (hk : 200 ≤ k) : spylaw3_draws.f k = some true := at_rounds (g := fun k => spylaw3_draws.f k) (fun k => spylaw3_draws.mono k) hk draws_200

theorem draw_loop (s n r : Int) (t : Nat) : ∀ (k : Nat) (q i : Int), t + 5 ≤ k → 0 ≤ i → i ≤ 3 → 3 - i = t → quanta_Draw.l0 k s n q r (i + 1) = spyref3_Drawn.l0 k s n r q i := by
  induction t with
  | zero =>
    intro k q i hk h0 h1 h2
    obtain ⟨k, rfl⟩ : ∃ m, k = m + 1 := ⟨k - 1, by omega⟩
    simp only [quanta_Draw.l0, spyref3_Drawn.l0]
    rw [if_neg (by omega), if_neg (by omega)]
    congr 2
    unfold mx
    split <;> split <;> omega
  | succ t ih =>
    intro k q i hk h0 h1 h2
    obtain ⟨k, rfl⟩ : ∃ m, k = m + 1 := ⟨k - 1, by omega⟩
    simp only [quanta_Draw.l0, spyref3_Drawn.l0]
    rw [if_pos (by omega), if_pos (by omega), mixed_at k (by omega), show wrap64 (wrap64 (wrap64 (n * 4) + i) + 1) = wrap64 (wrap64 (4 * n) + (i + 1)) by simp only [wrap64]; omega]
    obtain ⟨x, hx, _⟩ := mix_some s (wrap64 (wrap64 (4 * n) + (i + 1)))
    rw [hx]
    simp only [ob]
    rw [below_under]
    obtain ⟨b, hb⟩ := below_some x (wrap64 (wrap64 (2 * r) + 1))
    rw [hb]
    simp only [ob]
    rw [show wrap64 (wrap64 (q + b) - r) = wrap64 (q + wrap64 (b - r)) by simp only [wrap64]; omega, show wrap64 (i + 1 + 1) = i + 1 + 1 from w64_id (by omega) (by omega), show wrap64 (i + 1) = i + 1 from w64_id (by omega) (by omega)]
    exact ih k _ (i + 1) (by omega) (by omega) (by omega) (by omega)

theorem draw_total (s n r : Int) (t : Nat) : ∀ (k : Nat) (q i : Int), t + 5 ≤ k → 0 ≤ i → i ≤ 3 → 3 - i = t → ∃ x, quanta_Draw.l0 k s n q r (i + 1) = some x := by
  induction t with
  | zero =>
    intro k q i hk h0 h1 h2
    obtain ⟨k, rfl⟩ : ∃ m, k = m + 1 := ⟨k - 1, by omega⟩
    simp only [quanta_Draw.l0]
    rw [if_neg (by omega)]
    exact ⟨_, rfl⟩
  | succ t ih =>
    intro k q i hk h0 h1 h2
    obtain ⟨k, rfl⟩ : ∃ m, k = m + 1 := ⟨k - 1, by omega⟩
    simp only [quanta_Draw.l0]
    rw [if_pos (by omega)]
    obtain ⟨x, hx, _⟩ := mix_some s (wrap64 (wrap64 (4 * n) + (i + 1)))
    rw [hx]
    simp only [ob]
    obtain ⟨b, hb⟩ := below_some x (wrap64 (wrap64 (2 * r) + 1))
    rw [hb]
    simp only [ob]
    rw [show wrap64 (i + 1 + 1) = i + 1 + 1 from w64_id (by omega) (by omega)]
    exact ih k _ (i + 1) (by omega) (by omega) (by omega) (by omega)

/-- What holds of a mean: its whole quanta and their root, as both texts tell it. -/
theorem mean_facts (k : Nat) (hk : 200 ≤ k) (m : Int) (h0 : 0 ≤ m) (h1 : m ≤ 1152921504606846976) : ∃ r, 0 ≤ r ∧ r < 262145 ∧ quanta_root.f k (m / 16777216) = some r ∧ spyref3_Root.f k (m / 16777216) 1 = some r := by
  obtain ⟨r, hr, hR⟩ := sqrtmul_at k (by omega) (m / 16777216) 1 (by omega) (by omega) (by omega) (by omega)
  obtain ⟨r', hr', hR'⟩ := refroot k (by omega) (m / 16777216) 1 (by omega) (by omega) (by omega) (by omega)
  obtain rfl := hR'.uniq hR
  refine ⟨r', hR.1, hR.lt (by omega) (by omega), ?_, hr'⟩
  unfold quanta_root.f num_Sqrt.f
  rw [hr]
  rfl
theorem valid_yes (m : Int) (h0 : 0 ≤ m) (h1 : m ≤ 1152921504606846976) : quanta_valid.f m = some true := by unfold quanta_valid.f; rw [if_pos h0, decide_eq_true h1]
theorem mean_yes (m : Int) (h0 : 0 ≤ m) (h1 : m ≤ 1152921504606846976) : spyref3_IsMean.f m = some true := by unfold spyref3_IsMean.f; rw [if_pos h0, decide_eq_true h1]
theorem whole_of (m : Int) : quanta_whole.f m = some (m / 16777216) := rfl
theorem tdiv_of (m : Int) (h0 : 0 ≤ m) (h1 : m ≤ 1152921504606846976) : wrap64 (Int.tdiv m 16777216) = m / 16777216 := by rw [Int.tdiv_eq_ediv_of_nonneg h0, w64_id (by omega) (by omega)]
theorem spread_of (k : Nat) (m r : Int) (h0 : 0 ≤ m) (h1 : m ≤ 1152921504606846976) (r0 : 0 ≤ r) (r1 : r < 262145) (e1 : quanta_root.f k (m / 16777216) = some r) : quanta_Spread.f k m = some (3 * r) := by
  unfold quanta_Spread.f
  rw [valid_yes m h0 h1]; simp only [ob, tt_, it]; rw [whole_of]; simp only [ob]; rw [e1]; simp only [ob]; rw [w64_id (by omega) (by omega)]
theorem dev_of (k : Nat) (m r : Int) (h0 : 0 ≤ m) (h1 : m ≤ 1152921504606846976) (r0 : 0 ≤ r) (r1 : r < 262145) (e1 : spyref3_Root.f k (m / 16777216) 1 = some r) : spyref3_Deviation.f k m = some (3 * r) := by
  unfold spyref3_Deviation.f
  rw [mean_yes m h0 h1]; simp only [ob, tt_, it]; rw [tdiv_of m h0 h1, e1]; simp only [ob]; rw [w64_id (by omega) (by omega)]
theorem range_of (k : Nat) (m r : Int) (h0 : 0 ≤ m) (h1 : m ≤ 1152921504606846976) (r0 : 0 ≤ r) (r1 : r < 262145) (e1 : quanta_root.f k (m / 16777216) = some r) (e2 : spyref3_Root.f k (m / 16777216) 1 = some r) :
    ∃ p, quanta_Range.f k m = some p ∧ spyref3_Reached.f k m = some p := by
  have s := spread_of k m r h0 h1 r0 r1 e1
  have d := dev_of k m r h0 h1 r0 r1 e2
  have t3 : wrap64 (Int.tdiv (wrap64 (wrap64 (m + 16777216) - 1)) 16777216) = (m + 16777215) / 16777216 := by
    rw [w64_id (n := m + 16777216) (by omega) (by omega), w64_id (n := m + 16777216 - 1) (by omega) (by omega), show m + 16777216 - 1 = m + 16777215 by omega, Int.tdiv_eq_ediv_of_nonneg (by omega), w64_id (by omega) (by omega)]
  have l : spyref3_Reached.f k m = some (mx 0 (wrap64 (m / 16777216 - 3 * r)), wrap64 ((m + 16777215) / 16777216 + 3 * r), false, 0) := by
    unfold spyref3_Reached.f
    rw [mean_yes m h0 h1]; simp only [ob, tt_, it]; rw [d]; simp only [ob]; rw [tdiv_of m h0 h1, t3]
  refine ⟨_, ?_, l⟩
  unfold quanta_Range.f
  rw [valid_yes m h0 h1]; simp only [ob, tt_, it]; rw [whole_of, s]; simp only [ob]; rw [Int.tmod_eq_emod_of_nonneg h0]
  by_cases c : m % 16777216 > 0
  · rw [if_pos c, w64_id (n := m / 16777216 + 1) (by omega) (by omega), show m / 16777216 + 1 = (m + 16777215) / 16777216 by omega]
  · rw [if_neg c, show m / 16777216 = (m + 16777215) / 16777216 by omega]
theorem drawn_of (k : Nat) (hk : 200 ≤ k) (s n m r : Int) (h0 : 0 ≤ m) (h1 : m ≤ 1152921504606846976) (r0 : 0 ≤ r) (r1 : r < 262145) (e1 : quanta_root.f k (m / 16777216) = some r) (e2 : spyref3_Root.f k (m / 16777216) 1 = some r) :
    ∃ p, quanta_Draw.f k s n m = some p ∧ spyref3_Drawn.f k s n m = some p := by
  have d := dev_of k m r h0 h1 r0 r1 e2
  obtain ⟨j, rfl⟩ : ∃ j, k = j + 1 := ⟨k - 1, by omega⟩
  have both : ∀ q, ∃ p, quanta_Draw.j0 (j + 1) s n q r = some p ∧ spyref3_Drawn.j0 (j + 1) s n r q = some p := by
    intro q
    simp only [quanta_Draw.j0, spyref3_Drawn.j0]
    obtain ⟨p, hp⟩ := draw_total s n r 3 j q 0 (by omega) (by omega) (by omega) (by omega)
    have e := draw_loop s n r 3 j q 0 (by omega) (by omega) (by omega) (by omega)
    rw [Int.zero_add] at hp e
    exact ⟨p, hp, e.symm.trans hp⟩
  obtain ⟨x, hx, _⟩ := mix_some s (wrap64 (4 * n))
  obtain ⟨b, hb2⟩ := below_some x 16777216
  have a1 : wrap64 (Int.tdiv (3 * r) 3) = r := by rw [Int.tdiv_eq_ediv_of_nonneg (by omega), w64_id (by omega) (by omega)]; omega
  have a2 : wrap64 (m - wrap64 (m / 16777216 * 16777216)) = m % 16777216 := by
    rw [w64_id (n := m / 16777216 * 16777216) (by omega) (by omega), w64_id (by omega) (by omega)]; omega
  unfold quanta_Draw.f spyref3_Drawn.f
  rw [valid_yes m h0 h1, mean_yes m h0 h1]; simp only [ob, tt_, it]
  rw [whole_of, d]; simp only [ob]
  rw [e1, mixed_at (j + 1) (by omega), show n * 4 = 4 * n by omega]; simp only [ob]
  rw [hx]; simp only [ob]
  rw [below_under, hb2]; simp only [ob]
  rw [tdiv_of m h0 h1, a1, a2, Int.tmod_eq_emod_of_nonneg h0]
  by_cases c : b < m % 16777216
  · rw [if_pos c, if_pos c]
    exact both _
  · rw [if_neg c, if_neg c]
    exact both _
theorem out_of (k : Nat) (hk : 200 ≤ k) (s n m : Int) (hv : ¬ (0 ≤ m ∧ m ≤ 1152921504606846976)) : spylaw3_QuantaDraws.f k s n m = some true := by
  have hd : (if m ≥ 0 then some (decide (m ≤ 1152921504606846976)) else some false) = some false := by
    split
    · rw [decide_eq_false (by omega)]
    · rfl
  have v1 : quanta_valid.f m = some false := hd
  have v2 : spyref3_IsMean.f m = some false := hd
  unfold spylaw3_QuantaDraws.f quanta_Draw.f spyref3_Drawn.f quanta_Range.f spyref3_Reached.f quanta_Spread.f spyref3_Deviation.f
  rw [v1, v2, draws_draws k hk]
  simp
theorem QuantaDraws : spylaw3_QuantaDraws.Pure := by
  intro s n m _ _ hm
  suffices h : ∀ k, 200 ≤ k → spylaw3_QuantaDraws.f k s n m = some true from ⟨200, h 200 (by omega)⟩
  intro k hk
  by_cases hv : 0 ≤ m ∧ m ≤ 1152921504606846976
  · obtain ⟨r, r0, r1, e1, e2⟩ := mean_facts k hk m hv.1 hv.2
    obtain ⟨p, p1, p2⟩ := drawn_of k hk s n m r hv.1 hv.2 r0 r1 e1 e2
    obtain ⟨q, q1, q2⟩ := range_of k m r hv.1 hv.2 r0 r1 e1 e2
    unfold spylaw3_QuantaDraws.f
    rw [p1, p2, q1, q2, draws_draws k hk, spread_of k m r hv.1 hv.2 r0 r1 e1, dev_of k m r hv.1 hv.2 r0 r1 e2]
    simp
  · exact out_of k hk s n m hv
end Go.Proofs.Ytjplkbeolakbjaa.Pure
