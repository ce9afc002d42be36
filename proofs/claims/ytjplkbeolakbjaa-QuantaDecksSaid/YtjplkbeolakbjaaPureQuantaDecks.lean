/- The law QuantaDecks: Deck answers as the reference's Dealt for all seeds and sizes. No conditions. -/
import Derived.Test.YtjplkbeolakbjaaDrawDecks
set_option linter.unusedVariables false
set_option linter.unusedSimpArgs false
namespace Go.Proofs.Ytjplkbeolakbjaa.Pure
open Go.RowKit Go.Proofs.Ytjplkbeolakbjaa.PDecks Go.Proofs.YtjplkbeolakbjaaW.PrintWords Go.Proofs.YtjplkbeolakbjaaW.PrintLast Go.Proofs.YtjplkbeolakbjaaW.PrintMore

theorem draws_200 : spylaw3_draws.f 200 = some true := by kernel_rfl
theorem below_range (x m : Int) (h0 : 0 ≤ x) (h1 : x < 18446744073709551616) (m0 : 1 ≤ m) (m1 : m ≤ 4096) : ∃ b, quanta_Below.f x m = some b ∧ 0 ≤ b ∧ b < m := by
  refine ⟨x * m / 18446744073709551616, ?_, ?_, ?_⟩
  · unfold quanta_Below.f
    rw [if_neg (by omega), wu_id (by omega) (by omega), mul64 x m h0 h1 (by omega) (by omega), ob]
    dsimp only
    rw [w64_id]
    · have := Int.mul_nonneg h0 (show 0 ≤ m by omega); omega
    · have := (mul_bd h0 (show x ≤ 18446744073709551615 by omega) (show 0 ≤ m by omega) m1).2; omega
  · exact Int.ediv_nonneg (Int.mul_nonneg h0 (by omega)) (by decide)
  · refine Int.ediv_lt_of_lt_mul (by decide) ?_
    have : x * m < 18446744073709551616 * m := Int.mul_lt_mul_of_pos_right h1 (by omega)
    omega

/-- The numbers i, i + 1, .. at their places. -/
def fill : Nat → Nat → List Int → List Int
  | 0, _, y => y
  | d + 1, i, y => fill d (i + 1) (y.set i (i : Int))
theorem fill_length (d : Nat) : ∀ (i : Nat) (y : List Int), (fill d i y).length = y.length := by
  induction d with
  | zero => intro i y; rfl
  | succ d ih => intro i y; rw [fill, ih]; simp
theorem deck_fill (s n K : Int) (d : Nat) : ∀ (k i : Nat) (y : List Int), i + d = y.length → y.length ≤ 4096 → d + 1 ≤ k → quanta_Deck.l0 k s n K y (y.length : Int) (i : Int) = quanta_Deck.l1 (k - d - 1) s n K (fill d i y) K 0 := by
  induction d with
  | zero =>
    intro k i y hi hl hk
    obtain ⟨k, rfl⟩ : ∃ j, k = j + 1 := ⟨k - 1, by omega⟩
    rw [quanta_Deck.l0, if_neg (by omega)]
    rfl
  | succ d ih =>
    intro k i y hi hl hk
    obtain ⟨k, rfl⟩ : ∃ j, k = j + 1 := ⟨k - 1, by omega⟩
    rw [quanta_Deck.l0, if_pos (by omega), if_pos (by omega), if_pos (by omega), w64_id (by omega) (by omega)]
    have h := ih k (i + 1) (y.set i (i : Int)) (by simp; omega) (by simp; omega) (by omega)
    rw [List.length_set, show ((i + 1 : Nat) : Int) = (i : Int) + 1 by omega] at h
    rw [Int.toNat_natCast, h, fill, show k + 1 - (d + 1) - 1 = k - d - 1 by omega]
theorem dealt_fill (s K : Int) (d : Nat) : ∀ (k i : Nat) (y : List Int), i + d = y.length → y.length ≤ 4096 → d + 1 ≤ k → spyref3_Dealt.l0 k s K y (y.length : Int) (i : Int) = spyref3_Dealt.l1 (k - d - 1) s (fill d i y) [] K 0 := by
  induction d with
  | zero =>
    intro k i y hi hl hk
    obtain ⟨k, rfl⟩ : ∃ j, k = j + 1 := ⟨k - 1, by omega⟩
    rw [spyref3_Dealt.l0, if_neg (by omega)]
    rfl
  | succ d ih =>
    intro k i y hi hl hk
    obtain ⟨k, rfl⟩ : ∃ j, k = j + 1 := ⟨k - 1, by omega⟩
    rw [spyref3_Dealt.l0, if_pos (by omega), if_pos (by omega), if_pos (by omega), w64_id (by omega) (by omega)]
    have h := ih k (i + 1) (y.set i (i : Int)) (by simp; omega) (by simp; omega) (by omega)
    rw [List.length_set, show ((i + 1 : Nat) : Int) = (i : Int) + 1 by omega] at h
    rw [Int.toNat_natCast, h, fill, show k + 1 - (d + 1) - 1 = k - d - 1 by omega]

theorem rd_append (out l : List Int) (j : Nat) : rd (out ++ l) ((out.length + j : Nat) : Int) = l.getD j 0 := by
  unfold rd
  rw [Int.toNat_natCast, List.getD_eq_getElem?_getD, List.getElem?_append_right (by omega), Nat.add_sub_cancel_left, List.getD_eq_getElem?_getD]
theorem set_app (out l : List Int) (j : Nat) (x : Int) : (out ++ l).set (out.length + j) x = out ++ l.set j x := by
  rw [List.set_append_right _ _ (by omega)]
  simp
/-- One round of both: what is dealt, and what is left. -/
theorem round_of (out : List Int) (h : Int) (t : List Int) (b : Nat) (hb : b < t.length + 1) :
    (((out ++ h :: t).set (out.length + 0) (rd (out ++ h :: t) ((out.length + b : Nat) : Int))).set (out.length + b) (rd (out ++ h :: t) ((out.length + 0 : Nat) : Int))) = (out ++ [rd (h :: t) (b : Int)]) ++ ((h :: t).set b (rd (h :: t) 0)).drop 1 := by
  rw [rd_append, rd_append, set_app, set_app]
  have e0 : rd (h :: t) 0 = h := rfl
  have e1 : rd (h :: t) (b : Int) = (h :: t).getD b 0 := by simp [rd]
  rw [e0, e1]
  cases b with
  | zero => simp
  | succ b => simp

theorem both (s n K : Int) (hn : n ≤ 4096) (hK : K ≤ n) (d : Nat) : ∀ (k k' i : Nat) (out left : List Int), (i : Int) + d = K → out.length = i → (i : Int) + left.length = n → d + 5 ≤ k → d + 5 ≤ k' →
    ∃ r, quanta_Deck.l1 k s n K (out ++ left) K (i : Int) = some (r, 0) ∧ spyref3_Dealt.l1 k' s left out K (i : Int) = some (r, 0) ∧ r.length ≤ 4096 := by
  induction d with
  | zero =>
    intro k k' i out left hi ho hl hk hk'
    obtain ⟨k, rfl⟩ : ∃ j, k = j + 1 := ⟨k - 1, by omega⟩
    obtain ⟨k', rfl⟩ : ∃ j, k' = j + 1 := ⟨k' - 1, by omega⟩
    refine ⟨out, ?_, ?_, by omega⟩
    · rw [quanta_Deck.l1, if_neg (by omega), if_pos (by omega), if_pos (by simp; omega), show K.toNat = out.length by omega, List.take_left]
    · rw [spyref3_Dealt.l1, if_neg (by omega)]
  | succ d ih =>
    intro k k' i out left hi ho hl hk hk'
    obtain ⟨k, rfl⟩ : ∃ j, k = j + 1 := ⟨k - 1, by omega⟩
    obtain ⟨k', rfl⟩ : ∃ j, k' = j + 1 := ⟨k' - 1, by omega⟩
    cases left with
    | nil => simp at hl; omega
    | cons h t =>
      have hl' : (i : Int) + ((t.length : Int) + 1) = n := by simpa using hl
      obtain ⟨x, hx, hx0, hx1⟩ := mix_some s (i : Int)
      obtain ⟨b, hb, hb0, hb1⟩ := below_range x ((t.length : Int) + 1) hx0 hx1 (by omega) (by omega)
      obtain ⟨b, rfl⟩ := Int.eq_ofNat_of_zero_le hb0
      have hrange : b < t.length + 1 := by omega
      have hrd := round_of out h t b hrange
      rw [quanta_Deck.l1, spyref3_Dealt.l1, if_pos (by omega), if_pos (by omega), mixed_at k' (by omega), hx, ob, ob, below_under, w64_id (n := n - (i : Int)) (by omega) (by omega), show n - (i : Int) = (t.length : Int) + 1 by omega, show (((h :: t : List Int).length : Nat) : Int) = (t.length : Int) + 1 by simp, hb, ob, ob]
      rw [w64_id (n := (i : Int) + (b : Int)) (by omega) (by omega), w64_id (n := (i : Int) + 1) (by omega) (by omega)]
      rw [if_pos (by omega), if_pos (by simp; omega), if_pos (by omega), if_pos (by simp; omega), if_pos (by omega), if_pos (by omega), if_pos (by omega), if_pos (by omega), if_pos (by omega)]
      rw [show ((i : Int) + (b : Int)).toNat = out.length + b by omega, show (i : Int).toNat = out.length + 0 by omega, show (i : Int) + (b : Int) = ((out.length + b : Nat) : Int) by omega]
      rw [show rd (out ++ h :: t) (i : Int) = rd (out ++ h :: t) ((out.length + 0 : Nat) : Int) by rw [show (i : Int) = ((out.length + 0 : Nat) : Int) by omega], hrd]
      have := ih k k' (i + 1) (out ++ [rd (h :: t) (b : Int)]) (((h :: t).set b (rd (h :: t) 0)).drop 1) (by omega) (by simp; omega) (by simp; omega) (by omega) (by omega)
      rw [show ((i + 1 : Nat) : Int) = (i : Int) + 1 by omega] at this
      exact this

theorem equal_self (r : List Int) (hr : r.length ≤ 4096) (d : Nat) : ∀ (k i : Nat), i + d = r.length → d + 1 ≤ k → slices_Equal__int.l0 k r r (r.length : Int) (i : Int) = some true := by
  induction d with
  | zero =>
    intro k i hi hk
    obtain ⟨k, rfl⟩ : ∃ j, k = j + 1 := ⟨k - 1, by omega⟩
    rw [slices_Equal__int.l0, if_neg (by omega)]
  | succ d ih =>
    intro k i hi hk
    obtain ⟨k, rfl⟩ : ∃ j, k = j + 1 := ⟨k - 1, by omega⟩
    have h := ih k (i + 1) (by omega) (by omega)
    rw [show ((i + 1 : Nat) : Int) = (i : Int) + 1 by omega] at h
    rw [slices_Equal__int.l0]
    simp only [w64_id (n := (i : Int) + 1) (by omega) (by omega), h]
    (simp) <;> omega
theorem equal_of (k : Nat) (r : List Int) (hr : r.length ≤ 4096) (hk : r.length + 1 ≤ k) : slices_Equal__int.f k r r = some true := by
  unfold slices_Equal__int.f
  rw [if_pos rfl]
  exact equal_self r hr r.length k 0 (by omega) hk

theorem QuantaDecks : spylaw3_QuantaDecks.Pure := by
  intro s n K _ hn hK
  have bn := i64_of hn
  have bK := i64_of hK
  suffices h : ∀ k, 20000 ≤ k → spylaw3_QuantaDecks.f k s n K = some true from ⟨20000, h 20000 (by omega)⟩
  intro k hk
  have hd := at_rounds (g := fun k => spylaw3_draws.f k) (fun k => spylaw3_draws.mono k) (show 200 ≤ k by omega) draws_200
  obtain ⟨j, rfl⟩ : ∃ j, k = j + 2 := ⟨k - 2, by omega⟩
  have both_ : ∃ r e, quanta_Deck.f (j + 2) s n K = some (r, e) ∧ spyref3_Dealt.f (j + 2) s n K = some (r, e) ∧ r.length ≤ 4096 := by
    unfold quanta_Deck.f spyref3_Dealt.f
    have bad : quanta_Deck.j0 (j + 2) s n K true = some ([], 4) ∧ spyref3_Dealt.j0 (j + 2) s n K true = some ([], 4) := by
      constructor
      · rw [quanta_Deck.j0, if_pos rfl]
      · rw [spyref3_Dealt.j0, if_pos rfl]
    by_cases c1 : n < 0
    · rw [if_pos c1, if_pos c1]
      exact ⟨[], 4, bad.1, bad.2, by simp⟩
    · rw [if_neg c1, if_neg c1]
      by_cases c2 : n > 4096
      · rw [decide_eq_true c2]
        exact ⟨[], 4, bad.1, bad.2, by simp⟩
      · rw [decide_eq_false c2, quanta_Deck.j0, if_neg (show ¬ (false = true) by decide), spyref3_Dealt.j0, if_neg (show ¬ (false = true) by decide)]
        have bad1 : spyref3_Dealt.j1 (j + 1) s n K true = some ([], 1) := by rw [spyref3_Dealt.j1, if_pos rfl]
        by_cases c3 : K < 0
        · rw [if_pos c3, if_pos c3]
          exact ⟨[], 1, rfl, bad1, by simp⟩
        · rw [if_neg c3, if_neg c3]
          by_cases c4 : K > n
          · rw [if_pos c4, decide_eq_true c4]
            exact ⟨[], 1, rfl, bad1, by simp⟩
          · rw [if_neg c4, decide_eq_false c4, spyref3_Dealt.j1, if_neg (show ¬ (false = true) by decide), if_pos (by omega), if_pos (by omega), if_pos (by omega), if_pos (by omega), ob, ob]
            have hlen : (List.replicate n.toNat (0 : Int)).length = n.toNat := List.length_replicate
            have f1 := deck_fill s n K n.toNat (j + 1) 0 (List.replicate n.toNat 0) (by omega) (by omega) (by omega)
            have f2 := dealt_fill s K n.toNat j 0 (List.replicate n.toNat 0) (by omega) (by omega) (by omega)
            rw [show ((0 : Nat) : Int) = 0 from rfl] at f1 f2
            rw [f1, f2]
            have hfl := fill_length n.toNat 0 (List.replicate n.toNat 0)
            rw [hlen] at hfl
            obtain ⟨r, h1, h2, h3⟩ := both s n K (by omega) (by omega) K.toNat (j + 1 - n.toNat - 1) (j - n.toNat - 1) 0 [] (fill n.toNat 0 (List.replicate n.toNat 0)) (by omega) rfl (by omega) (by omega) (by omega)
            exact ⟨r, 0, h1, h2, h3⟩
  obtain ⟨r, e, h1, h2, h3⟩ := both_
  unfold spylaw3_QuantaDecks.f
  rw [h1, h2, hd, ob, ob, ob, if_pos rfl, if_pos rfl, equal_of _ r h3 (by omega), ob]
end Go.Proofs.Ytjplkbeolakbjaa.Pure
