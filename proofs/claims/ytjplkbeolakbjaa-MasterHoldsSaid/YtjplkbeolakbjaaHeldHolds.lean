/- What a cell held, by the program and by the reference: cameras, bounds, Counted and Had. No conditions beyond those stated. -/
import Derived.Test.YtjplkbeolakbjaaPHoldsx
import Derived.Test.YtjplkbeolakbjaaBitsHolds
set_option linter.unusedVariables false
set_option linter.unusedSimpArgs false
namespace Go.Proofs.Ytjplkbeolakbjaa.Pure
open Go.RowKit Go.Proofs.Ytjplkbeolakbjaa.PHolds Go.Proofs.YtjplkbeolakbjaaW.PrintWords Go.Proofs.YtjplkbeolakbjaaW.PrintLast Go.Proofs.YtjplkbeolakbjaaW.PrintMore

/-- A camera's fault. -/
def cam (w h full gain noise : Int) : Int := if w < 1 ∨ w > 32 ∨ h < 1 ∨ h > 32 ∨ full < 1 ∨ full > 1048576 ∨ gain < 1 ∨ gain > 64 ∨ noise < 0 ∨ noise > 64 then 4 else 0
theorem cam_bad {w h full gain noise : Int} (c : w < 1 ∨ w > 32 ∨ h < 1 ∨ h > 32 ∨ full < 1 ∨ full > 1048576 ∨ gain < 1 ∨ gain > 64 ∨ noise < 0 ∨ noise > 64) : cam w h full gain noise = 4 := if_pos c
theorem cam_ok {w h full gain noise : Int} (c : ¬ (w < 1 ∨ w > 32 ∨ h < 1 ∨ h > 32 ∨ full < 1 ∨ full > 1048576 ∨ gain < 1 ∨ gain > 64 ∨ noise < 0 ∨ noise > 64)) : cam w h full gain noise = 0 := if_neg c
theorem cam_0 {w h full gain noise : Int} (c : cam w h full gain noise = 0) : 1 ≤ w ∧ w ≤ 32 ∧ 1 ≤ h ∧ h ≤ 32 ∧ 1 ≤ full ∧ full ≤ 1048576 ∧ 1 ≤ gain ∧ gain ≤ 64 ∧ 0 ≤ noise ∧ noise ≤ 64 := by
  unfold cam at c; split at c <;> omega
theorem mn_lt (a b c : Int) : mn a b < c ↔ a < c ∨ b < c := by unfold mn; split <;> omega
theorem mx_gt (a b c : Int) : mx a b > c ↔ a > c ∨ b > c := by unfold mx; split <;> omega
theorem wrap_next1 {i : Int} (h0 : 0 ≤ i) (h : i ≤ 140737488351232) : wrap64 (i + 1) = i + 1 := w64_id (by omega) (by omega)
theorem camera_ref (w h full gain noise : Int) : spyref3_CameraFault.f w h full gain noise = some (cam w h full gain noise) := by
  unfold spyref3_CameraFault.f
  repeat' split
  all_goals first | (rw [cam_bad (by omega)]) | (rw [cam_ok (by omega)])
theorem camera_j (k : Nat) (b : Bool) (w h full gain noise : Int) (hb : b = true ↔ (w < 1 ∨ w > 32 ∨ h < 1 ∨ h > 32)) : master_CheckCamera.j0 (k + 1) b w h full gain noise = some (cam w h full gain noise) := by
  rw [master_CheckCamera.j0]
  by_cases c : w < 1 ∨ w > 32 ∨ h < 1 ∨ h > 32
  · rw [if_pos (hb.2 c), cam_bad (by omega)]
  · rw [if_neg (fun x => c (hb.1 x))]
    clear hb
    repeat' split
    all_goals first | (rw [cam_bad (by omega)]) | (rw [cam_ok (by omega)])
theorem camera (k : Nat) (hk : 1 ≤ k) (w h full gain noise : Int) : master_CheckCamera.f k w h full gain noise = some (cam w h full gain noise) := by
  obtain ⟨k, rfl⟩ : ∃ j, k = j + 1 := ⟨k - 1, by omega⟩
  unfold master_CheckCamera.f
  by_cases c : mn w h < 1
  · rw [if_pos c]
    refine camera_j k _ _ _ _ _ _ ?_
    rw [mn_lt] at c
    simp
    omega
  · rw [if_neg c]
    refine camera_j k _ _ _ _ _ _ ?_
    rw [mn_lt] at c
    rw [decide_eq_true_iff, mx_gt]
    omega
/-- A bound's fault. -/
def chk (lo hi : Int) (u : Bool) : Int := if u = true ∧ (lo ≠ 0 ∨ hi ≠ 0) then 3 else if lo < -1152921504606846976 ∨ hi < -1152921504606846976 ∨ lo > 1152921504606846976 ∨ hi > 1152921504606846976 then 4 else if lo > hi then 11 else 0
theorem chk3 {lo hi : Int} {u : Bool} (h : u = true ∧ (lo ≠ 0 ∨ hi ≠ 0)) : chk lo hi u = 3 := if_pos h
theorem chk4 {lo hi : Int} {u : Bool} (h : ¬ (u = true ∧ (lo ≠ 0 ∨ hi ≠ 0))) (h2 : lo < -1152921504606846976 ∨ hi < -1152921504606846976 ∨ lo > 1152921504606846976 ∨ hi > 1152921504606846976) : chk lo hi u = 4 := by unfold chk; rw [if_neg h, if_pos h2]
theorem chk11 {lo hi : Int} {u : Bool} (h : ¬ (u = true ∧ (lo ≠ 0 ∨ hi ≠ 0))) (h2 : ¬ (lo < -1152921504606846976 ∨ hi < -1152921504606846976 ∨ lo > 1152921504606846976 ∨ hi > 1152921504606846976)) (h3 : lo > hi) : chk lo hi u = 11 := by unfold chk; rw [if_neg h, if_neg h2, if_pos h3]
theorem chk0 {lo hi : Int} {u : Bool} (h : ¬ (u = true ∧ (lo ≠ 0 ∨ hi ≠ 0))) (h2 : ¬ (lo < -1152921504606846976 ∨ hi < -1152921504606846976 ∨ lo > 1152921504606846976 ∨ hi > 1152921504606846976)) (h3 : ¬ lo > hi) : chk lo hi u = 0 := by unfold chk; rw [if_neg h, if_neg h2, if_neg h3]

/-! ### Count -/
theorem check_Count (k : Nat) (hk : 2 ≤ k) (lo hi : Int) (u : Bool) : bound_Check__Count.f k lo hi u = some (chk lo hi u) := by
  obtain ⟨k, rfl⟩ : ∃ j, k = j + 1 + 1 := ⟨k - 2, by omega⟩
  have j1 : ∀ b : Bool, (b = true ↔ (lo < -1152921504606846976 ∨ hi < -1152921504606846976 ∨ lo > 1152921504606846976 ∨ hi > 1152921504606846976)) → ¬ (u = true ∧ (lo ≠ 0 ∨ hi ≠ 0)) → bound_Check__Count.j1 (k + 1) b lo hi u = some (chk lo hi u) := by
    intro b hb hu
    rw [bound_Check__Count.j1]
    split
    · rename_i h
      rw [chk4 hu (hb.1 h)]
    · rename_i h
      split
      · rename_i h3
        rw [chk11 hu (fun x => h (hb.2 x)) h3]
      · rename_i h3
        rw [chk0 hu (fun x => h (hb.2 x)) h3]
  have j0 : ∀ b : Bool, (b = true ↔ (u = true ∧ (lo ≠ 0 ∨ hi ≠ 0))) → bound_Check__Count.j0 (k + 1 + 1) b lo hi u = some (chk lo hi u) := by
    intro b hb
    rw [bound_Check__Count.j0]
    split
    · rename_i h
      rw [chk3 (hb.1 h)]
    · rename_i h
      split
      · rename_i h2
        rw [mn_lt] at h2
        exact j1 true (by simp; omega) (fun x => h (hb.2 x))
      · rename_i h2
        rw [mn_lt] at h2
        exact j1 _ (by rw [decide_eq_true_iff, mx_gt]; omega) (fun x => h (hb.2 x))
  unfold bound_Check__Count.f
  split
  · rename_i h
    split
    · rename_i h2
      exact j0 _ (by simp [h, h2])
    · rename_i h2
      exact j0 _ (by simp [h, h2])
  · rename_i h
    exact j0 _ (by simp [h])
theorem norm_Count (k : Nat) (hk : 2 ≤ k) (lo hi : Int) (u : Bool) : bound_Norm__Count.f k lo hi u = some (if chk lo hi u = 0 then (lo, hi, u) else (0, 0, true)) := by
  unfold bound_Norm__Count.f bound_None__Count.f
  rw [check_Count k hk, ob]
  split
  · rfl
  · rw [ob]

/-! ### Quanta -/
theorem check_Quanta (k : Nat) (hk : 2 ≤ k) (lo hi : Int) (u : Bool) : bound_Check__Quanta.f k lo hi u = some (chk lo hi u) := by
  obtain ⟨k, rfl⟩ : ∃ j, k = j + 1 + 1 := ⟨k - 2, by omega⟩
  have j1 : ∀ b : Bool, (b = true ↔ (lo < -1152921504606846976 ∨ hi < -1152921504606846976 ∨ lo > 1152921504606846976 ∨ hi > 1152921504606846976)) → ¬ (u = true ∧ (lo ≠ 0 ∨ hi ≠ 0)) → bound_Check__Quanta.j1 (k + 1) b lo hi u = some (chk lo hi u) := by
    intro b hb hu
    rw [bound_Check__Quanta.j1]
    split
    · rename_i h
      rw [chk4 hu (hb.1 h)]
    · rename_i h
      split
      · rename_i h3
        rw [chk11 hu (fun x => h (hb.2 x)) h3]
      · rename_i h3
        rw [chk0 hu (fun x => h (hb.2 x)) h3]
  have j0 : ∀ b : Bool, (b = true ↔ (u = true ∧ (lo ≠ 0 ∨ hi ≠ 0))) → bound_Check__Quanta.j0 (k + 1 + 1) b lo hi u = some (chk lo hi u) := by
    intro b hb
    rw [bound_Check__Quanta.j0]
    split
    · rename_i h
      rw [chk3 (hb.1 h)]
    · rename_i h
      split
      · rename_i h2
        rw [mn_lt] at h2
        exact j1 true (by simp; omega) (fun x => h (hb.2 x))
      · rename_i h2
        rw [mn_lt] at h2
        exact j1 _ (by rw [decide_eq_true_iff, mx_gt]; omega) (fun x => h (hb.2 x))
  unfold bound_Check__Quanta.f
  split
  · rename_i h
    split
    · rename_i h2
      exact j0 _ (by simp [h, h2])
    · rename_i h2
      exact j0 _ (by simp [h, h2])
  · rename_i h
    exact j0 _ (by simp [h])
theorem norm_Quanta (k : Nat) (hk : 2 ≤ k) (lo hi : Int) (u : Bool) : bound_Norm__Quanta.f k lo hi u = some (if chk lo hi u = 0 then (lo, hi, u) else (0, 0, true)) := by
  unfold bound_Norm__Quanta.f bound_None__Quanta.f
  rw [check_Quanta k hk, ob]
  split
  · rfl
  · rw [ob]

theorem of_Quanta (k : Nat) (hk : 2 ≤ k) (lo hi : Int) : bound_Of__Quanta.f k lo hi = some (if chk lo hi false = 0 then (lo, hi, false) else (0, 0, true)) := by
  unfold bound_Of__Quanta.f
  rw [norm_Quanta k hk, ob]

/-- What a cell with a count held. -/
def had (w h full gain noise lo hi : Int) (u : Bool) (c : Int) : Int × Int × Bool :=
  if cam w h full gain noise = 0 ∧ u = false ∧ 0 ≤ lo ∧ lo ≤ hi ∧ hi ≤ 65535 ∧ 0 ≤ c ∧ c ≤ 65534 then
    (if c + noise - lo + 1 < 1 then (0, 0, true) else (mx ((c - noise - hi) * gain) 0, (c + noise - lo + 1) * gain - 1, false))
  else (0, 0, true)
theorem had_bad {w h full gain noise lo hi : Int} {u : Bool} {c : Int} (x : ¬ (cam w h full gain noise = 0 ∧ u = false ∧ 0 ≤ lo ∧ lo ≤ hi ∧ hi ≤ 65535 ∧ 0 ≤ c ∧ c ≤ 65534)) : had w h full gain noise lo hi u c = (0, 0, true) := if_neg x
theorem had_low {w h full gain noise lo hi : Int} {u : Bool} {c : Int} (y : c + noise - lo + 1 < 1) : had w h full gain noise lo hi u c = (0, 0, true) := by
  unfold had; rw [if_pos y]; exact ite_self _
theorem had_ok {w h full gain noise lo hi : Int} {u : Bool} {c : Int} (x : cam w h full gain noise = 0 ∧ u = false ∧ 0 ≤ lo ∧ lo ≤ hi ∧ hi ≤ 65535 ∧ 0 ≤ c ∧ c ≤ 65534) (y : ¬ c + noise - lo + 1 < 1) : had w h full gain noise lo hi u c = (mx ((c - noise - hi) * gain) 0, (c + noise - lo + 1) * gain - 1, false) := by
  unfold had; rw [if_pos x, if_neg y]
/-- a product of a number within 2 ^ 17 and a gain -/
theorem mul_gain {x gain : Int} (h0 : -131072 ≤ x) (h1 : x ≤ 131072) (g0 : 1 ≤ gain) (g1 : gain ≤ 64) : -8388608 ≤ x * gain ∧ x * gain ≤ 8388608 := by
  by_cases c : 0 ≤ x
  · have := mul_bd c h1 (show 0 ≤ gain by omega) g1; omega
  · have := mul_bd (show 0 ≤ -x by omega) (show -x ≤ 131072 by omega) (show 0 ≤ gain by omega) g1
    rw [Int.neg_mul] at this; omega

theorem bad_Count (lo hi : Int) (u : Bool) : spyref3_Bad__Count.f lo hi u = some (decide (u = true ∨ lo > hi ∨ lo < -1152921504606846976 ∨ hi > 1152921504606846976)) := by
  unfold spyref3_Bad__Count.f
  split
  · rename_i c; simp [c]
  · rename_i c
    split
    · rename_i c2; simp [c2]
    · rename_i c2
      split
      · rename_i c3; simp [c3]
      · rename_i c3; simp [c, c2, c3]

theorem had_j (k : Nat) (w h full gain noise lo hi : Int) (u : Bool) (c : Int) (b : Bool) (hb : b = false ↔ (cam w h full gain noise = 0 ∧ u = false ∧ 0 ≤ lo ∧ lo ≤ hi ∧ hi ≤ 65535 ∧ 0 ≤ c ∧ c ≤ 65534)) : spyref3_Had.j0 (k + 1) c b w h full gain noise lo hi u 0 0 true = some (had w h full gain noise lo hi u c) := by
  rw [spyref3_Had.j0]
  cases b with
  | true => rw [if_pos rfl, had_bad (fun x => by have := hb.2 x; simp at this)]
  | false =>
    have x := hb.1 rfl
    have cb := cam_0 x.1
    rw [if_neg (by decide), w64_id (n := c + noise) (by omega) (by omega), w64_id (n := c + noise - lo) (by omega) (by omega), w64_id (n := c + noise - lo + 1) (by omega) (by omega)]
    split
    · rename_i y; rw [had_low y]
    · rename_i y
      rw [had_ok x y, w64_id (n := c - noise) (by omega) (by omega), w64_id (n := c - noise - hi) (by omega) (by omega)]
      have m1 := mul_gain (x := c - noise - hi) (gain := gain) (by omega) (by omega) (by omega) (by omega)
      have m2 := mul_gain (x := c + noise - lo + 1) (gain := gain) (by omega) (by omega) (by omega) (by omega)
      generalize (c - noise - hi) * gain = p at m1 ⊢
      generalize (c + noise - lo + 1) * gain = q at m2 ⊢
      rw [w64_id (n := p) (by omega) (by omega), w64_id (n := q) (by omega) (by omega), w64_id (n := q - 1) (by omega) (by omega)]
theorem had_ref (k : Nat) (hk : 1 ≤ k) (w h full gain noise lo hi : Int) (u : Bool) (c : Int) : spyref3_Had.f k w h full gain noise lo hi u c = some (had w h full gain noise lo hi u c) := by
  obtain ⟨k, rfl⟩ : ∃ j, k = j + 1 := ⟨k - 1, by omega⟩
  unfold spyref3_Had.f
  rw [camera_ref, ob]
  by_cases hc : cam w h full gain noise = 0
  · rw [if_pos hc, bad_Count, ob]
    by_cases hd : u = true ∨ lo > hi ∨ lo < -1152921504606846976 ∨ hi > 1152921504606846976
    · rw [if_pos (decide_eq_true hd)]
      refine had_j k _ _ _ _ _ _ _ _ _ _ ?_
      simp only [Bool.true_eq_false, false_iff]
      intro x
      rcases hd with hd | hd | hd | hd
      · rw [x.2.1] at hd; exact absurd hd (by decide)
      · omega
      · omega
      · omega
    · rw [if_neg (by rw [decide_eq_false hd]; decide)]
      have hu : u = false := by cases u with | true => exact absurd (.inl rfl) hd | false => rfl
      have hd2 : lo ≤ hi ∧ -1152921504606846976 ≤ lo ∧ hi ≤ 1152921504606846976 := by refine ⟨?_, ?_, ?_⟩ <;> · rcases Int.lt_or_le hi lo with z | z <;> omega
      clear hd
      split
      · rename_i z; refine had_j k _ _ _ _ _ _ _ _ _ _ ?_; simp only [Bool.true_eq_false, false_iff]; intro x; omega
      · rename_i z1
        split
        · rename_i z; refine had_j k _ _ _ _ _ _ _ _ _ _ ?_; simp only [Bool.true_eq_false, false_iff]; intro x; omega
        · rename_i z2
          split
          · rename_i z; refine had_j k _ _ _ _ _ _ _ _ _ _ ?_; simp only [Bool.true_eq_false, false_iff]; intro x; omega
          · rename_i z3
            refine had_j k _ _ _ _ _ _ _ _ _ _ ?_
            rw [decide_eq_false_iff_not]
            exact ⟨fun z => ⟨hc, hu, by omega, by omega, by omega, by omega, by omega⟩, fun z => by omega⟩
  · rw [if_neg hc]
    exact had_j k _ _ _ _ _ _ _ _ _ _ (by simp only [Bool.true_eq_false, false_iff]; exact fun x => hc x.1)

theorem counted_j (k : Nat) (hk : 2 ≤ k) (w h full gain noise lo hi : Int) (u : Bool) (c : Int) (b : Bool) (hb : b = false ↔ (cam w h full gain noise = 0 ∧ u = false ∧ 0 ≤ lo ∧ lo ≤ hi ∧ hi ≤ 65535 ∧ 0 ≤ c ∧ c ≤ 65534)) : master_Counted.j0 (k + 1) c b w h full gain noise lo hi u = some (had w h full gain noise lo hi u c) := by
  rw [master_Counted.j0]
  unfold bound_None__Quanta.f
  cases b with
  | true => rw [if_pos rfl, ob, had_bad (fun x => by have := hb.2 x; simp at this)]
  | false =>
    have x := hb.1 rfl
    have cb := cam_0 x.1
    rw [if_neg (by decide), w64_id (n := c + noise) (by omega) (by omega), w64_id (n := c + noise - lo) (by omega) (by omega)]
    split
    · rename_i y; rw [had_low (by omega), ob]
    · rename_i y
      rw [had_ok x (by omega), w64_id (n := c - noise) (by omega) (by omega), w64_id (n := c - noise - hi) (by omega) (by omega)]
      have m1 := mul_gain (x := c - noise - hi) (gain := gain) (by omega) (by omega) (by omega) (by omega)
      have m2 := mul_bd (x := c + noise - lo) (y := gain) (m := 131072) (n := 64) (by omega) (by omega) (by omega) (by omega)
      have m3 : (c - noise - hi) * gain ≤ (c + noise - lo) * gain := Int.mul_le_mul_of_nonneg_right (by omega) (by omega)
      have m4 : (c + noise - lo + 1) * gain = (c + noise - lo) * gain + gain := by rw [Int.add_mul, Int.one_mul]
      rw [m4]
      generalize (c - noise - hi) * gain = p at m1 m3 ⊢
      generalize (c + noise - lo) * gain = q at m2 m3 ⊢
      clear m4
      rw [w64_id (n := p) (by omega) (by omega), w64_id (n := q) (by omega) (by omega), w64_id (n := q + gain) (by omega) (by omega), w64_id (n := q + gain - 1) (by omega) (by omega), of_Quanta k hk]
      have e : mx 0 p = mx p 0 := by unfold mx; split <;> split <;> omega
      have hm : 0 ≤ mx p 0 ∧ mx p 0 ≤ 8388608 ∧ mx p 0 ≤ q + gain - 1 := by unfold mx; split <;> omega
      rw [e]
      generalize mx p 0 = m at hm ⊢
      rw [chk0 (by simp) (by omega) (by omega), if_pos rfl, ob]
theorem counted (k : Nat) (hk : 3 ≤ k) (w h full gain noise lo hi : Int) (u : Bool) (c : Int) : master_Counted.f k w h full gain noise lo hi u c = some (had w h full gain noise lo hi u c) := by
  obtain ⟨k, rfl⟩ : ∃ j, k = j + 1 := ⟨k - 1, by omega⟩
  unfold master_Counted.f
  rw [norm_Count (k + 1) (by omega), ob, camera (k + 1) (by omega), ob]
  by_cases hn : chk lo hi u = 0
  · rw [if_pos hn]
    have hl : lo ≤ hi := by
      unfold chk at hn
      (repeat' split at hn) <;> omega
    by_cases hc : cam w h full gain noise = 0
    · rw [if_pos hc]
      split
      · rename_i z; refine counted_j k (by omega) _ _ _ _ _ _ _ _ _ _ ?_; simp only [Bool.true_eq_false, false_iff]; intro x; simp only at z; rw [x.2.1] at z; exact absurd z (by decide)
      · rename_i z0
        have hu : u = false := by cases u with | true => exact absurd rfl z0 | false => rfl
        split
        · rename_i z; refine counted_j k (by omega) _ _ _ _ _ _ _ _ _ _ ?_; simp only [Bool.true_eq_false, false_iff]; intro x; omega
        · split
          · rename_i z; refine counted_j k (by omega) _ _ _ _ _ _ _ _ _ _ ?_; simp only [Bool.true_eq_false, false_iff]; intro x; omega
          · split
            · rename_i z; refine counted_j k (by omega) _ _ _ _ _ _ _ _ _ _ ?_; simp only [Bool.true_eq_false, false_iff]; intro x; simp only at z; omega
            · rename_i z1 z2 z3
              refine counted_j k (by omega) _ _ _ _ _ _ _ _ _ _ ?_
              simp only at z3
              rw [decide_eq_false_iff_not]
              exact ⟨fun z => ⟨hc, hu, by omega, by omega, by omega, by omega, by omega⟩, fun z => by omega⟩
    · rw [if_neg hc]
      exact counted_j k (by omega) _ _ _ _ _ _ _ _ _ _ (by simp only [Bool.true_eq_false, false_iff]; exact fun x => hc x.1)
  · rw [if_neg hn]
    have hx : ¬ (cam w h full gain noise = 0 ∧ u = false ∧ 0 ≤ lo ∧ lo ≤ hi ∧ hi ≤ 65535 ∧ 0 ≤ c ∧ c ≤ 65534) := by
      rintro ⟨_, hu, h1, h2, h3, _, _⟩
      exact hn (chk0 (by simp [hu]) (by omega) (by omega))
    rw [had_bad hx]
    have hy : ∀ b, b = true → master_Counted.j0 (k + 1) c b w h full gain noise 0 0 true = some (0, 0, true) := by
      rintro b rfl
      rw [master_Counted.j0, if_pos rfl]; unfold bound_None__Quanta.f; rw [ob]
    by_cases hc : cam w h full gain noise = 0
    · rw [if_pos hc, if_pos rfl]; exact hy _ rfl
    · rw [if_neg hc]; exact hy _ rfl
end Go.Proofs.Ytjplkbeolakbjaa.Pure
