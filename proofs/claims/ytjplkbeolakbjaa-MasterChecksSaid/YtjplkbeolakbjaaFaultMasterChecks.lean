/- The checks of cameras, bounds and lists of bounds, of the program and of the reference, as printed for the law: what they answer. No conditions beyond those stated. -/
import Derived.Test.YtjplkbeolakbjaaPMasterChecksx
import Derived.Test.YtjplkbeolakbjaaBitsMasterChecks
set_option linter.unusedVariables false
set_option linter.unusedSimpArgs false
namespace Go.Proofs.Ytjplkbeolakbjaa.Pure
open Go.RowKit Go.Proofs.Ytjplkbeolakbjaa.PMasterChecks Go.Proofs.YtjplkbeolakbjaaW.PrintWords Go.Proofs.YtjplkbeolakbjaaW.PrintLast Go.Proofs.YtjplkbeolakbjaaW.PrintMore

/-- The first element's fault that is none. -/
def firstFault {α : Type} (f : α → Int) : List α → Int
  | [] => 0
  | x :: xs => if f x = 0 then firstFault f xs else f x
/-- A camera's fault. -/
def cam (w h full gain noise : Int) : Int := if w < 1 ∨ w > 32 ∨ h < 1 ∨ h > 32 ∨ full < 1 ∨ full > 1048576 ∨ gain < 1 ∨ gain > 64 ∨ noise < 0 ∨ noise > 64 then 4 else 0
theorem cam_bad {w h full gain noise : Int} (c : w < 1 ∨ w > 32 ∨ h < 1 ∨ h > 32 ∨ full < 1 ∨ full > 1048576 ∨ gain < 1 ∨ gain > 64 ∨ noise < 0 ∨ noise > 64) : cam w h full gain noise = 4 := if_pos c
theorem cam_ok {w h full gain noise : Int} (c : ¬ (w < 1 ∨ w > 32 ∨ h < 1 ∨ h > 32 ∨ full < 1 ∨ full > 1048576 ∨ gain < 1 ∨ gain > 64 ∨ noise < 0 ∨ noise > 64)) : cam w h full gain noise = 0 := if_neg c
theorem mn_lt (a b c : Int) : mn a b < c ↔ a < c ∨ b < c := by unfold mn; split <;> omega
theorem mx_gt (a b c : Int) : mx a b > c ↔ a > c ∨ b > c := by unfold mx; split <;> omega
theorem camera_ref (w h full gain noise : Int) : spyref3_CameraFault.f w h full gain noise = some (cam w h full gain noise) := by
  unfold spyref3_CameraFault.f
  repeat' split
  all_goals first | (rw [cam_bad (by omega)]) | (rw [cam_ok (by omega)])
theorem camera_j (k : Nat) (b : Bool) (w h full gain noise : Int) (hb : b = true ↔ (w < 1 ∨ w > 32 ∨ h < 1 ∨ h > 32)) : master_CheckCamera.j0 (k + 1) b w h full gain noise = some (cam w h full gain noise) := by
  rw [master_CheckCamera.j0]
  by_cases c : w < 1 ∨ w > 32 ∨ h < 1 ∨ h > 32
  · rw [if_pos (hb.2 c), cam_bad (by omega)]
  · rw [if_neg (fun x => c (hb.1 x))]
    clear hb
    repeat' split
    all_goals first | (rw [cam_bad (by omega)]) | (rw [cam_ok (by omega)])
theorem camera (k : Nat) (hk : 1 ≤ k) (w h full gain noise : Int) : master_CheckCamera.f k w h full gain noise = some (cam w h full gain noise) := by
  obtain ⟨k, rfl⟩ : ∃ j, k = j + 1 := ⟨k - 1, by omega⟩
  unfold master_CheckCamera.f
  by_cases c : mn w h < 1
  · rw [if_pos c]
    refine camera_j k _ _ _ _ _ _ ?_
    rw [mn_lt] at c
    simp
    omega
  · rw [if_neg c]
    refine camera_j k _ _ _ _ _ _ ?_
    rw [mn_lt] at c
    rw [decide_eq_true_iff, mx_gt]
    omega
/-- A bound's fault. -/
def chk (lo hi : Int) (u : Bool) : Int := if u = true ∧ (lo ≠ 0 ∨ hi ≠ 0) then 3 else if lo < -1152921504606846976 ∨ hi < -1152921504606846976 ∨ lo > 1152921504606846976 ∨ hi > 1152921504606846976 then 4 else if lo > hi then 11 else 0
theorem chk3 {lo hi : Int} {u : Bool} (h : u = true ∧ (lo ≠ 0 ∨ hi ≠ 0)) : chk lo hi u = 3 := if_pos h
theorem chk4 {lo hi : Int} {u : Bool} (h : ¬ (u = true ∧ (lo ≠ 0 ∨ hi ≠ 0))) (h2 : lo < -1152921504606846976 ∨ hi < -1152921504606846976 ∨ lo > 1152921504606846976 ∨ hi > 1152921504606846976) : chk lo hi u = 4 := by unfold chk; rw [if_neg h, if_pos h2]
theorem chk11 {lo hi : Int} {u : Bool} (h : ¬ (u = true ∧ (lo ≠ 0 ∨ hi ≠ 0))) (h2 : ¬ (lo < -1152921504606846976 ∨ hi < -1152921504606846976 ∨ lo > 1152921504606846976 ∨ hi > 1152921504606846976)) (h3 : lo > hi) : chk lo hi u = 11 := by unfold chk; rw [if_neg h, if_neg h2, if_pos h3]
theorem chk0 {lo hi : Int} {u : Bool} (h : ¬ (u = true ∧ (lo ≠ 0 ∨ hi ≠ 0))) (h2 : ¬ (lo < -1152921504606846976 ∨ hi < -1152921504606846976 ∨ lo > 1152921504606846976 ∨ hi > 1152921504606846976)) (h3 : ¬ lo > hi) : chk lo hi u = 0 := by unfold chk; rw [if_neg h, if_neg h2, if_neg h3]
/-- A bound's fault, within limits. -/
def chk2 (lo hi : Int) (u : Bool) (least most : Int) : Int := if chk lo hi u = 0 then (if lo < least ∨ hi > most then 4 else 0) else chk lo hi u
theorem wrap_next {i : Int} {n : Nat} (h0 : 0 ≤ i) (h : i < (n : Int)) (hn : n ≤ 140737488351232) : wrap64 (i + 1) = i + 1 := w64_id (by omega) (by omega)

/-! ### Count -/
theorem check_Count (k : Nat) (hk : 2 ≤ k) (lo hi : Int) (u : Bool) : master_Count_106.f k lo hi u = some (chk lo hi u) := by
  obtain ⟨k, rfl⟩ : ∃ j, k = j + 1 + 1 := ⟨k - 2, by omega⟩
  have j1 : ∀ b : Bool, (b = true ↔ (lo < -1152921504606846976 ∨ hi < -1152921504606846976 ∨ lo > 1152921504606846976 ∨ hi > 1152921504606846976)) → ¬ (u = true ∧ (lo ≠ 0 ∨ hi ≠ 0)) → master_Count_106.j1 (k + 1) b lo hi u = some (chk lo hi u) := by
    intro b hb hu
    rw [master_Count_106.j1]
    split
    · rename_i h
      rw [chk4 hu (hb.1 h)]
    · rename_i h
      split
      · rename_i h3
        rw [chk11 hu (fun x => h (hb.2 x)) h3]
      · rename_i h3
        rw [chk0 hu (fun x => h (hb.2 x)) h3]
  have j0 : ∀ b : Bool, (b = true ↔ (u = true ∧ (lo ≠ 0 ∨ hi ≠ 0))) → master_Count_106.j0 (k + 1 + 1) b lo hi u = some (chk lo hi u) := by
    intro b hb
    rw [master_Count_106.j0]
    split
    · rename_i h
      rw [chk3 (hb.1 h)]
    · rename_i h
      split
      · rename_i h2
        rw [mn_lt] at h2
        exact j1 true (by simp; omega) (fun x => h (hb.2 x))
      · rename_i h2
        rw [mn_lt] at h2
        exact j1 _ (by rw [decide_eq_true_iff, mx_gt]; omega) (fun x => h (hb.2 x))
  unfold master_Count_106.f
  split
  · rename_i h
    split
    · rename_i h2
      exact j0 _ (by simp [h, h2])
    · rename_i h2
      exact j0 _ (by simp [h, h2])
  · rename_i h
    exact j0 _ (by simp [h])
theorem bfault_Count (k : Nat) (hk : 2 ≤ k) (lo hi : Int) (u : Bool) (least most : Int) : master_Count_111.f k lo hi u least most = some (chk2 lo hi u least most) := by
  obtain ⟨k, rfl⟩ : ∃ j, k = j + 1 + 1 := ⟨k - 2, by omega⟩
  have j1 : ∀ b : Bool, (b = true ↔ (lo < -1152921504606846976 ∨ hi < -1152921504606846976 ∨ lo > 1152921504606846976 ∨ hi > 1152921504606846976)) → ¬ (u = true ∧ (lo ≠ 0 ∨ hi ≠ 0)) → master_Count_111.j1 (k + 1) least most b lo hi u = some (chk2 lo hi u least most) := by
    intro b hb hu
    rw [master_Count_111.j1]
    unfold chk2
    split
    · rename_i h
      rw [chk4 hu (hb.1 h), if_neg (by decide)]
    · rename_i h
      split
      · rename_i h3
        rw [chk11 hu (fun x => h (hb.2 x)) h3, if_neg (by decide)]
      · rename_i h3
        rw [chk0 hu (fun x => h (hb.2 x)) h3, if_pos rfl]
        split
        · rename_i h4; rw [if_pos (.inl h4)]
        · rename_i h4
          split
          · rename_i h5; rw [if_pos (.inr h5)]
          · rename_i h5; rw [if_neg (by omega)]
  have j0 : ∀ b : Bool, (b = true ↔ (u = true ∧ (lo ≠ 0 ∨ hi ≠ 0))) → master_Count_111.j0 (k + 1 + 1) least most b lo hi u = some (chk2 lo hi u least most) := by
    intro b hb
    rw [master_Count_111.j0]
    by_cases hbt : b = true
    · rw [if_pos hbt]; unfold chk2; rw [chk3 (hb.1 hbt), if_neg (by decide)]
    · have hu : ¬ (u = true ∧ (lo ≠ 0 ∨ hi ≠ 0)) := fun x => hbt (hb.2 x)
      rw [if_neg hbt]
      split
      · exact j1 true (by simp; omega) hu
      · split
        · exact j1 true (by simp; omega) hu
        · split
          · exact j1 true (by simp; omega) hu
          · exact j1 _ (by rw [decide_eq_true_iff]; omega) hu
  unfold master_Count_111.f
  split
  · rename_i h
    split
    · rename_i h2
      exact j0 _ (by simp [h, h2])
    · rename_i h2
      exact j0 _ (by simp [h, h2])
  · rename_i h
    exact j0 _ (by simp [h])
theorem list_loop_Count (most : Int) (l : List S41) (hl : l.length ≤ 140737488351232) (d : Nat) : ∀ (k i : Nat), i + d = l.length → d + 3 ≤ k →
    master_Count_72.l0 k most l (l.length : Int) (i : Int) = some (firstFault (fun x => chk2 x.f0 x.f1 x.f2 0 most) (l.drop i)) := by
  induction d with
  | zero =>
    intro k i hi hk
    obtain ⟨k, rfl⟩ : ∃ j, k = j + 1 := ⟨k - 1, by omega⟩
    rw [master_Count_72.l0, if_neg (by omega), List.drop_of_length_le (by omega)]
    rfl
  | succ d ih =>
    intro k i hi hk
    obtain ⟨k, rfl⟩ : ∃ j, k = j + 1 := ⟨k - 1, by omega⟩
    have hlt : i < l.length := by omega
    rw [master_Count_72.l0, if_pos (by omega), if_pos (by omega), if_pos (by omega), check_Count k (by omega), ob, wrap_next (n := l.length) (by omega) (by omega) hl]
    have e : rd_T41 l (i : Int) = l[i] := by simp [rd_T41, List.getD_eq_getElem?_getD, hlt]
    rw [e, List.drop_eq_getElem_cons hlt, firstFault]
    have ih' := ih k (i + 1) (by omega) (by omega)
    rw [show ((i + 1 : Nat) : Int) = (i : Int) + 1 by omega] at ih'
    unfold chk2
    by_cases c : chk l[i].f0 l[i].f1 l[i].f2 = 0
    · rw [if_pos c, c, if_pos rfl]
      split
      · rename_i h4; rw [if_neg (by rw [if_pos (.inl h4)]; decide), if_pos (.inl h4)]
      · rename_i h4
        split
        · rename_i h5; rw [if_neg (by rw [if_pos (.inr h5)]; decide), if_pos (.inr h5)]
        · rename_i h5
          rw [if_pos (by rw [if_neg (by omega)])]
          exact ih'
    · rw [if_neg c, if_neg c, if_neg c]
theorem ref_loop_Count (most : Int) (l : List S41) (hl : l.length ≤ 140737488351232) (d : Nat) : ∀ (k i : Nat), i + d = l.length → d + 3 ≤ k →
    master_Count_76.l0 k most l (l.length : Int) (i : Int) = some (firstFault (fun x => chk2 x.f0 x.f1 x.f2 0 most) (l.drop i)) := by
  induction d with
  | zero =>
    intro k i hi hk
    obtain ⟨k, rfl⟩ : ∃ j, k = j + 1 := ⟨k - 1, by omega⟩
    rw [master_Count_76.l0, if_neg (by omega), List.drop_of_length_le (by omega)]
    rfl
  | succ d ih =>
    intro k i hi hk
    obtain ⟨k, rfl⟩ : ∃ j, k = j + 1 := ⟨k - 1, by omega⟩
    have hlt : i < l.length := by omega
    rw [master_Count_76.l0, if_pos (by omega), if_pos (by omega), if_pos (by omega), bfault_Count k (by omega), ob, wrap_next (n := l.length) (by omega) (by omega) hl]
    have e : rd_T41 l (i : Int) = l[i] := by simp [rd_T41, List.getD_eq_getElem?_getD, hlt]
    rw [e, List.drop_eq_getElem_cons hlt, firstFault]
    have ih' := ih k (i + 1) (by omega) (by omega)
    rw [show ((i + 1 : Nat) : Int) = (i : Int) + 1 by omega] at ih'
    by_cases c : chk2 l[i].f0 l[i].f1 l[i].f2 0 most = 0
    · rw [if_pos c, if_pos c]; exact ih'
    · rw [if_neg c, if_neg c]
theorem list_Count (k : Nat) (l : List S41) (hl : l.length ≤ 140737488351232) (n most : Int) (hk : l.length + 3 ≤ k) : master_Count_72.f k l n most = some (if (l.length : Int) = n then firstFault (fun x => chk2 x.f0 x.f1 x.f2 0 most) l else 3) := by
  unfold master_Count_72.f
  have h := list_loop_Count most l hl l.length k 0 (by omega) hk
  split
  · rw [show (0 : Int) = ((0 : Nat) : Int) from rfl, h]; rfl
  · rfl
theorem listf_Count (k : Nat) (l : List S41) (hl : l.length ≤ 140737488351232) (n most : Int) (hk : l.length + 3 ≤ k) : master_Count_76.f k l n most = some (if (l.length : Int) = n then firstFault (fun x => chk2 x.f0 x.f1 x.f2 0 most) l else 3) := by
  unfold master_Count_76.f
  have h := ref_loop_Count most l hl l.length k 0 (by omega) hk
  split
  · rw [show (0 : Int) = ((0 : Nat) : Int) from rfl, h]; rfl
  · rfl

/-! ### Light -/
theorem check_Light (k : Nat) (hk : 2 ≤ k) (lo hi : Int) (u : Bool) : api_Light_109.f k lo hi u = some (chk lo hi u) := by
  obtain ⟨k, rfl⟩ : ∃ j, k = j + 1 + 1 := ⟨k - 2, by omega⟩
  have j1 : ∀ b : Bool, (b = true ↔ (lo < -1152921504606846976 ∨ hi < -1152921504606846976 ∨ lo > 1152921504606846976 ∨ hi > 1152921504606846976)) → ¬ (u = true ∧ (lo ≠ 0 ∨ hi ≠ 0)) → api_Light_109.j1 (k + 1) b lo hi u = some (chk lo hi u) := by
    intro b hb hu
    rw [api_Light_109.j1]
    split
    · rename_i h
      rw [chk4 hu (hb.1 h)]
    · rename_i h
      split
      · rename_i h3
        rw [chk11 hu (fun x => h (hb.2 x)) h3]
      · rename_i h3
        rw [chk0 hu (fun x => h (hb.2 x)) h3]
  have j0 : ∀ b : Bool, (b = true ↔ (u = true ∧ (lo ≠ 0 ∨ hi ≠ 0))) → api_Light_109.j0 (k + 1 + 1) b lo hi u = some (chk lo hi u) := by
    intro b hb
    rw [api_Light_109.j0]
    split
    · rename_i h
      rw [chk3 (hb.1 h)]
    · rename_i h
      split
      · rename_i h2
        rw [mn_lt] at h2
        exact j1 true (by simp; omega) (fun x => h (hb.2 x))
      · rename_i h2
        rw [mn_lt] at h2
        exact j1 _ (by rw [decide_eq_true_iff, mx_gt]; omega) (fun x => h (hb.2 x))
  unfold api_Light_109.f
  split
  · rename_i h
    split
    · rename_i h2
      exact j0 _ (by simp [h, h2])
    · rename_i h2
      exact j0 _ (by simp [h, h2])
  · rename_i h
    exact j0 _ (by simp [h])
theorem bfault_Light (k : Nat) (hk : 2 ≤ k) (lo hi : Int) (u : Bool) (least most : Int) : api_Light_112.f k lo hi u least most = some (chk2 lo hi u least most) := by
  obtain ⟨k, rfl⟩ : ∃ j, k = j + 1 + 1 := ⟨k - 2, by omega⟩
  have j1 : ∀ b : Bool, (b = true ↔ (lo < -1152921504606846976 ∨ hi < -1152921504606846976 ∨ lo > 1152921504606846976 ∨ hi > 1152921504606846976)) → ¬ (u = true ∧ (lo ≠ 0 ∨ hi ≠ 0)) → api_Light_112.j1 (k + 1) least most b lo hi u = some (chk2 lo hi u least most) := by
    intro b hb hu
    rw [api_Light_112.j1]
    unfold chk2
    split
    · rename_i h
      rw [chk4 hu (hb.1 h), if_neg (by decide)]
    · rename_i h
      split
      · rename_i h3
        rw [chk11 hu (fun x => h (hb.2 x)) h3, if_neg (by decide)]
      · rename_i h3
        rw [chk0 hu (fun x => h (hb.2 x)) h3, if_pos rfl]
        split
        · rename_i h4; rw [if_pos (.inl h4)]
        · rename_i h4
          split
          · rename_i h5; rw [if_pos (.inr h5)]
          · rename_i h5; rw [if_neg (by omega)]
  have j0 : ∀ b : Bool, (b = true ↔ (u = true ∧ (lo ≠ 0 ∨ hi ≠ 0))) → api_Light_112.j0 (k + 1 + 1) least most b lo hi u = some (chk2 lo hi u least most) := by
    intro b hb
    rw [api_Light_112.j0]
    by_cases hbt : b = true
    · rw [if_pos hbt]; unfold chk2; rw [chk3 (hb.1 hbt), if_neg (by decide)]
    · have hu : ¬ (u = true ∧ (lo ≠ 0 ∨ hi ≠ 0)) := fun x => hbt (hb.2 x)
      rw [if_neg hbt]
      split
      · exact j1 true (by simp; omega) hu
      · split
        · exact j1 true (by simp; omega) hu
        · split
          · exact j1 true (by simp; omega) hu
          · exact j1 _ (by rw [decide_eq_true_iff]; omega) hu
  unfold api_Light_112.f
  split
  · rename_i h
    split
    · rename_i h2
      exact j0 _ (by simp [h, h2])
    · rename_i h2
      exact j0 _ (by simp [h, h2])
  · rename_i h
    exact j0 _ (by simp [h])
theorem list_loop_Light (most : Int) (l : List S142) (hl : l.length ≤ 140737488351232) (d : Nat) : ∀ (k i : Nat), i + d = l.length → d + 3 ≤ k →
    api_Light_73.l0 k most l (l.length : Int) (i : Int) = some (firstFault (fun x => chk2 x.f0 x.f1 x.f2 0 most) (l.drop i)) := by
  induction d with
  | zero =>
    intro k i hi hk
    obtain ⟨k, rfl⟩ : ∃ j, k = j + 1 := ⟨k - 1, by omega⟩
    rw [api_Light_73.l0, if_neg (by omega), List.drop_of_length_le (by omega)]
    rfl
  | succ d ih =>
    intro k i hi hk
    obtain ⟨k, rfl⟩ : ∃ j, k = j + 1 := ⟨k - 1, by omega⟩
    have hlt : i < l.length := by omega
    rw [api_Light_73.l0, if_pos (by omega), if_pos (by omega), if_pos (by omega), check_Light k (by omega), ob, wrap_next (n := l.length) (by omega) (by omega) hl]
    have e : rd_T142 l (i : Int) = l[i] := by simp [rd_T142, List.getD_eq_getElem?_getD, hlt]
    rw [e, List.drop_eq_getElem_cons hlt, firstFault]
    have ih' := ih k (i + 1) (by omega) (by omega)
    rw [show ((i + 1 : Nat) : Int) = (i : Int) + 1 by omega] at ih'
    unfold chk2
    by_cases c : chk l[i].f0 l[i].f1 l[i].f2 = 0
    · rw [if_pos c, c, if_pos rfl]
      split
      · rename_i h4; rw [if_neg (by rw [if_pos (.inl h4)]; decide), if_pos (.inl h4)]
      · rename_i h4
        split
        · rename_i h5; rw [if_neg (by rw [if_pos (.inr h5)]; decide), if_pos (.inr h5)]
        · rename_i h5
          rw [if_pos (by rw [if_neg (by omega)])]
          exact ih'
    · rw [if_neg c, if_neg c, if_neg c]
theorem ref_loop_Light (most : Int) (l : List S142) (hl : l.length ≤ 140737488351232) (d : Nat) : ∀ (k i : Nat), i + d = l.length → d + 3 ≤ k →
    api_Light_77.l0 k most l (l.length : Int) (i : Int) = some (firstFault (fun x => chk2 x.f0 x.f1 x.f2 0 most) (l.drop i)) := by
  induction d with
  | zero =>
    intro k i hi hk
    obtain ⟨k, rfl⟩ : ∃ j, k = j + 1 := ⟨k - 1, by omega⟩
    rw [api_Light_77.l0, if_neg (by omega), List.drop_of_length_le (by omega)]
    rfl
  | succ d ih =>
    intro k i hi hk
    obtain ⟨k, rfl⟩ : ∃ j, k = j + 1 := ⟨k - 1, by omega⟩
    have hlt : i < l.length := by omega
    rw [api_Light_77.l0, if_pos (by omega), if_pos (by omega), if_pos (by omega), bfault_Light k (by omega), ob, wrap_next (n := l.length) (by omega) (by omega) hl]
    have e : rd_T142 l (i : Int) = l[i] := by simp [rd_T142, List.getD_eq_getElem?_getD, hlt]
    rw [e, List.drop_eq_getElem_cons hlt, firstFault]
    have ih' := ih k (i + 1) (by omega) (by omega)
    rw [show ((i + 1 : Nat) : Int) = (i : Int) + 1 by omega] at ih'
    by_cases c : chk2 l[i].f0 l[i].f1 l[i].f2 0 most = 0
    · rw [if_pos c, if_pos c]; exact ih'
    · rw [if_neg c, if_neg c]
theorem list_Light (k : Nat) (l : List S142) (hl : l.length ≤ 140737488351232) (n most : Int) (hk : l.length + 3 ≤ k) : api_Light_73.f k l n most = some (if (l.length : Int) = n then firstFault (fun x => chk2 x.f0 x.f1 x.f2 0 most) l else 3) := by
  unfold api_Light_73.f
  have h := list_loop_Light most l hl l.length k 0 (by omega) hk
  split
  · rw [show (0 : Int) = ((0 : Nat) : Int) from rfl, h]; rfl
  · rfl
theorem listf_Light (k : Nat) (l : List S142) (hl : l.length ≤ 140737488351232) (n most : Int) (hk : l.length + 3 ≤ k) : api_Light_77.f k l n most = some (if (l.length : Int) = n then firstFault (fun x => chk2 x.f0 x.f1 x.f2 0 most) l else 3) := by
  unfold api_Light_77.f
  have h := ref_loop_Light most l hl l.length k 0 (by omega) hk
  split
  · rw [show (0 : Int) = ((0 : Nat) : Int) from rfl, h]; rfl
  · rfl

/-! ### Part -/
theorem check_Part (k : Nat) (hk : 2 ≤ k) (lo hi : Int) (u : Bool) : master_Part_110.f k lo hi u = some (chk lo hi u) := by
  obtain ⟨k, rfl⟩ : ∃ j, k = j + 1 + 1 := ⟨k - 2, by omega⟩
  have j1 : ∀ b : Bool, (b = true ↔ (lo < -1152921504606846976 ∨ hi < -1152921504606846976 ∨ lo > 1152921504606846976 ∨ hi > 1152921504606846976)) → ¬ (u = true ∧ (lo ≠ 0 ∨ hi ≠ 0)) → master_Part_110.j1 (k + 1) b lo hi u = some (chk lo hi u) := by
    intro b hb hu
    rw [master_Part_110.j1]
    split
    · rename_i h
      rw [chk4 hu (hb.1 h)]
    · rename_i h
      split
      · rename_i h3
        rw [chk11 hu (fun x => h (hb.2 x)) h3]
      · rename_i h3
        rw [chk0 hu (fun x => h (hb.2 x)) h3]
  have j0 : ∀ b : Bool, (b = true ↔ (u = true ∧ (lo ≠ 0 ∨ hi ≠ 0))) → master_Part_110.j0 (k + 1 + 1) b lo hi u = some (chk lo hi u) := by
    intro b hb
    rw [master_Part_110.j0]
    split
    · rename_i h
      rw [chk3 (hb.1 h)]
    · rename_i h
      split
      · rename_i h2
        rw [mn_lt] at h2
        exact j1 true (by simp; omega) (fun x => h (hb.2 x))
      · rename_i h2
        rw [mn_lt] at h2
        exact j1 _ (by rw [decide_eq_true_iff, mx_gt]; omega) (fun x => h (hb.2 x))
  unfold master_Part_110.f
  split
  · rename_i h
    split
    · rename_i h2
      exact j0 _ (by simp [h, h2])
    · rename_i h2
      exact j0 _ (by simp [h, h2])
  · rename_i h
    exact j0 _ (by simp [h])
theorem bfault_Part (k : Nat) (hk : 2 ≤ k) (lo hi : Int) (u : Bool) (least most : Int) : master_Part_113.f k lo hi u least most = some (chk2 lo hi u least most) := by
  obtain ⟨k, rfl⟩ : ∃ j, k = j + 1 + 1 := ⟨k - 2, by omega⟩
  have j1 : ∀ b : Bool, (b = true ↔ (lo < -1152921504606846976 ∨ hi < -1152921504606846976 ∨ lo > 1152921504606846976 ∨ hi > 1152921504606846976)) → ¬ (u = true ∧ (lo ≠ 0 ∨ hi ≠ 0)) → master_Part_113.j1 (k + 1) least most b lo hi u = some (chk2 lo hi u least most) := by
    intro b hb hu
    rw [master_Part_113.j1]
    unfold chk2
    split
    · rename_i h
      rw [chk4 hu (hb.1 h), if_neg (by decide)]
    · rename_i h
      split
      · rename_i h3
        rw [chk11 hu (fun x => h (hb.2 x)) h3, if_neg (by decide)]
      · rename_i h3
        rw [chk0 hu (fun x => h (hb.2 x)) h3, if_pos rfl]
        split
        · rename_i h4; rw [if_pos (.inl h4)]
        · rename_i h4
          split
          · rename_i h5; rw [if_pos (.inr h5)]
          · rename_i h5; rw [if_neg (by omega)]
  have j0 : ∀ b : Bool, (b = true ↔ (u = true ∧ (lo ≠ 0 ∨ hi ≠ 0))) → master_Part_113.j0 (k + 1 + 1) least most b lo hi u = some (chk2 lo hi u least most) := by
    intro b hb
    rw [master_Part_113.j0]
    by_cases hbt : b = true
    · rw [if_pos hbt]; unfold chk2; rw [chk3 (hb.1 hbt), if_neg (by decide)]
    · have hu : ¬ (u = true ∧ (lo ≠ 0 ∨ hi ≠ 0)) := fun x => hbt (hb.2 x)
      rw [if_neg hbt]
      split
      · exact j1 true (by simp; omega) hu
      · split
        · exact j1 true (by simp; omega) hu
        · split
          · exact j1 true (by simp; omega) hu
          · exact j1 _ (by rw [decide_eq_true_iff]; omega) hu
  unfold master_Part_113.f
  split
  · rename_i h
    split
    · rename_i h2
      exact j0 _ (by simp [h, h2])
    · rename_i h2
      exact j0 _ (by simp [h, h2])
  · rename_i h
    exact j0 _ (by simp [h])
theorem list_loop_Part (most : Int) (l : List S145) (hl : l.length ≤ 140737488351232) (d : Nat) : ∀ (k i : Nat), i + d = l.length → d + 3 ≤ k →
    master_Part_74.l0 k most l (l.length : Int) (i : Int) = some (firstFault (fun x => chk2 x.f0 x.f1 x.f2 0 most) (l.drop i)) := by
  induction d with
  | zero =>
    intro k i hi hk
    obtain ⟨k, rfl⟩ : ∃ j, k = j + 1 := ⟨k - 1, by omega⟩
    rw [master_Part_74.l0, if_neg (by omega), List.drop_of_length_le (by omega)]
    rfl
  | succ d ih =>
    intro k i hi hk
    obtain ⟨k, rfl⟩ : ∃ j, k = j + 1 := ⟨k - 1, by omega⟩
    have hlt : i < l.length := by omega
    rw [master_Part_74.l0, if_pos (by omega), if_pos (by omega), if_pos (by omega), check_Part k (by omega), ob, wrap_next (n := l.length) (by omega) (by omega) hl]
    have e : rd_T145 l (i : Int) = l[i] := by simp [rd_T145, List.getD_eq_getElem?_getD, hlt]
    rw [e, List.drop_eq_getElem_cons hlt, firstFault]
    have ih' := ih k (i + 1) (by omega) (by omega)
    rw [show ((i + 1 : Nat) : Int) = (i : Int) + 1 by omega] at ih'
    unfold chk2
    by_cases c : chk l[i].f0 l[i].f1 l[i].f2 = 0
    · rw [if_pos c, c, if_pos rfl]
      split
      · rename_i h4; rw [if_neg (by rw [if_pos (.inl h4)]; decide), if_pos (.inl h4)]
      · rename_i h4
        split
        · rename_i h5; rw [if_neg (by rw [if_pos (.inr h5)]; decide), if_pos (.inr h5)]
        · rename_i h5
          rw [if_pos (by rw [if_neg (by omega)])]
          exact ih'
    · rw [if_neg c, if_neg c, if_neg c]
theorem ref_loop_Part (most : Int) (l : List S145) (hl : l.length ≤ 140737488351232) (d : Nat) : ∀ (k i : Nat), i + d = l.length → d + 3 ≤ k →
    master_Part_78.l0 k most l (l.length : Int) (i : Int) = some (firstFault (fun x => chk2 x.f0 x.f1 x.f2 0 most) (l.drop i)) := by
  induction d with
  | zero =>
    intro k i hi hk
    obtain ⟨k, rfl⟩ : ∃ j, k = j + 1 := ⟨k - 1, by omega⟩
    rw [master_Part_78.l0, if_neg (by omega), List.drop_of_length_le (by omega)]
    rfl
  | succ d ih =>
    intro k i hi hk
    obtain ⟨k, rfl⟩ : ∃ j, k = j + 1 := ⟨k - 1, by omega⟩
    have hlt : i < l.length := by omega
    rw [master_Part_78.l0, if_pos (by omega), if_pos (by omega), if_pos (by omega), bfault_Part k (by omega), ob, wrap_next (n := l.length) (by omega) (by omega) hl]
    have e : rd_T145 l (i : Int) = l[i] := by simp [rd_T145, List.getD_eq_getElem?_getD, hlt]
    rw [e, List.drop_eq_getElem_cons hlt, firstFault]
    have ih' := ih k (i + 1) (by omega) (by omega)
    rw [show ((i + 1 : Nat) : Int) = (i : Int) + 1 by omega] at ih'
    by_cases c : chk2 l[i].f0 l[i].f1 l[i].f2 0 most = 0
    · rw [if_pos c, if_pos c]; exact ih'
    · rw [if_neg c, if_neg c]
theorem list_Part (k : Nat) (l : List S145) (hl : l.length ≤ 140737488351232) (n most : Int) (hk : l.length + 3 ≤ k) : master_Part_74.f k l n most = some (if (l.length : Int) = n then firstFault (fun x => chk2 x.f0 x.f1 x.f2 0 most) l else 3) := by
  unfold master_Part_74.f
  have h := list_loop_Part most l hl l.length k 0 (by omega) hk
  split
  · rw [show (0 : Int) = ((0 : Nat) : Int) from rfl, h]; rfl
  · rfl
theorem listf_Part (k : Nat) (l : List S145) (hl : l.length ≤ 140737488351232) (n most : Int) (hk : l.length + 3 ≤ k) : master_Part_78.f k l n most = some (if (l.length : Int) = n then firstFault (fun x => chk2 x.f0 x.f1 x.f2 0 most) l else 3) := by
  unfold master_Part_78.f
  have h := ref_loop_Part most l hl l.length k 0 (by omega) hk
  split
  · rw [show (0 : Int) = ((0 : Nat) : Int) from rfl, h]; rfl
  · rfl

/-! ### cmp.Or -/
theorem or_loop (l : List Int) (hl : l.length ≤ 140737488351232) (d : Nat) : ∀ (k i : Nat), i + d = l.length → d + 1 ≤ k → api_Errno.l0 k 0 l (l.length : Int) (i : Int) = some (firstFault (fun x : Int => x) (l.drop i)) := by
  induction d with
  | zero =>
    intro k i hi hk
    obtain ⟨k, rfl⟩ : ∃ j, k = j + 1 := ⟨k - 1, by omega⟩
    rw [api_Errno.l0, if_neg (by omega), List.drop_of_length_le (by omega)]
    rfl
  | succ d ih =>
    intro k i hi hk
    obtain ⟨k, rfl⟩ : ∃ j, k = j + 1 := ⟨k - 1, by omega⟩
    have hlt : i < l.length := by omega
    rw [api_Errno.l0, if_pos (by omega), if_pos (by omega), if_pos (by omega), wrap_next (n := l.length) (by omega) (by omega) hl]
    have e : rd l (i : Int) = l[i] := by simp [rd, List.getD_eq_getElem?_getD, hlt]
    rw [e, List.drop_eq_getElem_cons hlt, firstFault]
    have ih' := ih k (i + 1) (by omega) (by omega)
    rw [show ((i + 1 : Nat) : Int) = (i : Int) + 1 by omega] at ih'
    by_cases c : l[i] = 0
    · rw [if_pos c, if_pos c]; exact ih'
    · rw [if_neg c, if_neg c]
theorem or_of (k : Nat) (l : List Int) (hl : l.length ≤ 140737488351232) (hk : l.length + 1 ≤ k) : api_Errno.f k l = some (firstFault (fun x : Int => x) l) := by
  unfold api_Errno.f
  have h := or_loop l hl l.length k 0 (by omega) hk
  rw [show (0 : Int) = ((0 : Nat) : Int) from rfl] at h ⊢
  exact h
end Go.Proofs.Ytjplkbeolakbjaa.Pure
