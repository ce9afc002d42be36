/- The row of the law QueryScans: for every input the call returns true. Over the evaluator's contract of the law's function. No conditions. -/
import Derived.Test.YtnojehmbiceceaaMQueryScans16
import Derived.Test.YtnojehmbiceceaaRows
import Derived.WalkKit
import Derived.ProofKit
import Derived.OpenShut
import Derived.ShutString
import Derived.ChangeOld
import Derived.Below
import Derived.SizedLaws
import Derived.Carry
import Derived.WideShapes
import Derived.KernelRfl
section
set_option linter.unusedVariables false
set_option linter.unusedSimpArgs false
namespace Go.Proofs.Ytnojehmbiceceaa.PlQueryScans
open Go Go.Ev Go.IntKind Go.Pl Go.Proofs.Ytnojehmbiceceaa.P
open Go.Proofs.Ytnojehmbiceceaa.PlBndAQuanta (chk fault check_eq fault_eq)
abbrev Cone := (Int × Int × Int × Unit) × Int × Unit
abbrev B := Int × Int × Bool × Unit
abbrev Row := Int × (B × B × B × Unit) × B × B × List Int × Int × Unit
/-! ### the question -/
theorem sphere_some (L : Nat) (a b c : Int) : ∃ r, p_sphere_Check L a b c = some r := by
  unfold p_sphere_Check
  simp only [cb_v]
  repeat' split
  all_goals exact ⟨_, rfl⟩
theorem ask_l0 (L : Nat) : ∀ (l : List Cone), p_query_CheckAsk_l0 L l = p_spyref3_AskFault_l0 L l
  | [] => by rw [p_query_CheckAsk_l0, p_spyref3_AskFault_l0]
  | x :: r => by rw [p_query_CheckAsk_l0, p_spyref3_AskFault_l0, ask_l0 L r]
theorem ask_some (L : Nat) : ∀ (l : List Cone), ∃ o, p_spyref3_AskFault_l0 L l = some o ∧ ∀ v, o = .inr v → v ≠ 0
  | [] => ⟨_, by rw [p_spyref3_AskFault_l0], fun v h => by cases h⟩
  | x :: r => by
    obtain ⟨v, e⟩ := sphere_some L x.1.1 x.1.2.1 x.1.2.2.1
    obtain ⟨o, h, hn⟩ := ask_some L r
    rw [p_spyref3_AskFault_l0, e, bnd_s, cb_d, h]
    by_cases c : v = 0
    · rw [if_pos c]
      by_cases c1 : x.2.1 < 0
      · rw [if_pos c1]; exact ⟨_, rfl, fun v h => by cases h; decide⟩
      · rw [if_neg c1]
        by_cases c2 : x.2.1 > 1073741824
        · rw [if_pos c2]; exact ⟨_, rfl, fun v h => by cases h; decide⟩
        · rw [if_neg c2]; exact ⟨o, rfl, hn⟩
    · rw [if_neg c]; exact ⟨_, rfl, fun w h => by cases h; exact c⟩
theorem ask_eq (L : Nat) (a : List Cone) (b c d e : Int) (ha : a.length < L) : ∃ r, p_query_CheckAsk L a b c d e = some r ∧ p_spyref3_AskFault L a b c d e = some r ∧ (r = 0 → a.length ≤ 4 ∧ 0 ≤ e ∧ e ≤ 3) := by
  unfold p_query_CheckAsk p_spyref3_AskFault
  by_cases c1 : (a.length : Int) > 4
  · rw [if_pos c1, if_pos c1]; exact ⟨_, rfl, rfl, by omega⟩
  · obtain ⟨o, ho, hn⟩ := ask_some L a
    rw [if_neg c1, if_neg c1, ask_l0, rq_t ha, rq_t ha, ho, bnd_s, bnd_s, min_v, max_v]
    cases o with
    | inr v =>
      exact ⟨v, rfl, rfl, fun h => absurd h (hn v rfl)⟩
    | inl _ =>
      simp only
      by_cases k1 : b < -17592186044416 ∨ b > 17592186044416 ∨ c < -17592186044416 ∨ c > 17592186044416
      · refine ⟨4, ?_, ?_, by omega⟩
        · by_cases k2 : min b c < -17592186044416
          · rw [if_pos k2]
          · rw [if_neg k2, if_pos (by omega)]
        · repeat' split
          all_goals first | rfl | omega
      · rw [if_neg (show ¬ min b c < -17592186044416 by omega), if_neg (show ¬ max b c > 17592186044416 by omega), if_neg (show ¬ b < -17592186044416 by omega), if_neg (show ¬ b > 17592186044416 by omega), if_neg (show ¬ c < -17592186044416 by omega), if_neg (show ¬ c > 17592186044416 by omega)]
        by_cases k2 : b > c
        · rw [if_pos k2]; exact ⟨_, rfl, rfl, by omega⟩
        · rw [if_neg k2]
          repeat' split
          all_goals exact ⟨_, rfl, rfl, by omega⟩
/-! ### the rows -/
theorem ends_q (L : Nat) (a b : Int) (u : Bool) : p_catalog_ends_Quanta L a b u 1125899906842624 = some (fault a b u (-1125899906842624) 1125899906842624) := by
  unfold p_catalog_ends_Quanta fault
  rw [check_eq, bnd_s, cb_d]
  by_cases c : chk a b u = 0
  · rw [if_pos c, if_neg (show ¬ chk a b u ≠ 0 from fun h => h c), w64 (by decide)]
    by_cases c1 : a < 0 - 1125899906842624
    · rw [if_pos c1, if_pos (.inl (by omega))]
    · rw [if_neg c1]
      by_cases c2 : b > 1125899906842624
      · rw [if_pos c2, if_pos (.inr c2)]
      · rw [if_neg c2, if_neg (by omega)]
  · rw [if_neg c, if_pos c]
theorem ends_c (L : Nat) (a b : Int) (u : Bool) : p_catalog_ends_Coord L a b u 1073741824 = some (fault a b u (-1073741824) 1073741824) := by
  unfold p_catalog_ends_Coord fault
  rw [show p_bound_Check_Coord L a b u = some (chk a b u) from check_eq L a b u, bnd_s, cb_d]
  by_cases c : chk a b u = 0
  · rw [if_pos c, if_neg (show ¬ chk a b u ≠ 0 from fun h => h c), w64 (by decide)]
    by_cases c1 : a < 0 - 1073741824
    · rw [if_pos c1, if_pos (.inl (by omega))]
    · rw [if_neg c1]
      by_cases c2 : b > 1073741824
      · rw [if_pos c2, if_pos (.inr c2)]
      · rw [if_neg c2, if_neg (by omega)]
  · rw [if_neg c, if_pos c]
theorem ends_t (L : Nat) (a b : Int) (u : Bool) : p_catalog_ends_Tick L a b u 17592186044416 = some (fault a b u (-17592186044416) 17592186044416) := by
  unfold p_catalog_ends_Tick fault
  rw [show p_bound_Check_Tick L a b u = some (chk a b u) from check_eq L a b u, bnd_s, cb_d]
  by_cases c : chk a b u = 0
  · rw [if_pos c, if_neg (show ¬ chk a b u ≠ 0 from fun h => h c), w64 (by decide)]
    by_cases c1 : a < 0 - 17592186044416
    · rw [if_pos c1, if_pos (.inl (by omega))]
    · rw [if_neg c1]
      by_cases c2 : b > 17592186044416
      · rw [if_pos c2, if_pos (.inr c2)]
      · rw [if_neg c2, if_neg (by omega)]
  · rw [if_neg c, if_pos c]
theorem bf_c (L : Nat) (a b : Int) (u : Bool) (lo hi : Int) : p_spyref3_BoundFault_Coord L a b u lo hi = some (fault a b u lo hi) := fault_eq L a b u lo hi
theorem bf_t (L : Nat) (a b : Int) (u : Bool) (lo hi : Int) : p_spyref3_BoundFault_Tick L a b u lo hi = some (fault a b u lo hi) := fault_eq L a b u lo hi
/-- The frames of a row. -/
theorem frames_eq (L : Nat) (a : List Int) (ha : a.length < 1000) : ∀ (l p : List Int) (last : Int), a = p ++ l → (∀ q x, p = q ++ [x] → x = last) → p_catalog_CheckRow_l1 L a l (p.length : Int) = p_spyref3_RowFault_l1 L l (p.length : Int) last ∧ ∃ o, p_spyref3_RowFault_l1 L l (p.length : Int) last = some o ∧ ∀ v, o = .inr v → v ≠ 0
  | [], p, last, e, hl => by rw [p_catalog_CheckRow_l1, p_spyref3_RowFault_l1]; exact ⟨rfl, _, rfl, fun v h => by cases h⟩
  | x :: r, p, last, e, hl => by
    have ih := frames_eq L a ha r (p ++ [x]) x (by rw [e]; simp) (fun q y h => by have := List.append_inj_right' h rfl; simpa using this.symm)
    have hn : a.length = p.length + (r.length + 1) := by rw [e]; simp
    rw [show ((p ++ [x]).length : Int) = (p.length : Int) + 1 by simp] at ih
    rw [p_catalog_CheckRow_l1, p_spyref3_RowFault_l1]
    by_cases c1 : x < 1
    · rw [if_pos c1, if_pos c1]; exact ⟨rfl, _, rfl, fun v h => by cases h; decide⟩
    rw [if_neg c1, if_neg c1]
    by_cases c2 : x > 1048576
    · rw [if_pos c2, if_pos c2]; exact ⟨rfl, _, rfl, fun v h => by cases h; decide⟩
    rw [if_neg c2, if_neg c2]
    by_cases c3 : (p.length : Int) > 0
    · rw [if_pos c3, if_pos c3]
      obtain ⟨q, y, hq⟩ : ∃ q y, p = q ++ [y] := ⟨p.dropLast, p.getLast (by intro h; subst h; simp at c3), (List.dropLast_concat_getLast _).symm⟩
      have hy := hl q y hq
      subst hy
      rw [w64 (by omega), show idx a ((p.length : Int) - 1) = some y by
        rw [show ((p.length : Int) - 1) = (q.length : Int) by rw [hq]; simp, e, hq, List.append_assoc]
        exact idx_app q y _, bnd_s]
      by_cases c4 : x ≤ y
      · rw [if_pos c4, if_pos c4]; exact ⟨rfl, _, rfl, fun v h => by cases h; decide⟩
      · rw [if_neg c4, if_neg c4]; exact ih
    · rw [if_neg c3, if_neg c3]; exact ih
/-- The first error of five. -/
theorem first5 (L : Nat) (a b c d e : Int) : p_spyref3_RowFault_l0 L [a, b, c, d, e] 5 0 = some (if a = 0 then if b = 0 then if c = 0 then if d = 0 then if e = 0 then .inl () else .inr e else .inr d else .inr c else .inr b else .inr a) := by
  have i0 : idx [a, b, c, d, e] 0 = some a := rfl
  have i1 : idx [a, b, c, d, e] (0 + 1) = some b := rfl
  have i2 : idx [a, b, c, d, e] (0 + 1 + 1) = some c := rfl
  have i3 : idx [a, b, c, d, e] (0 + 1 + 1 + 1) = some d := rfl
  have i4 : idx [a, b, c, d, e] (0 + 1 + 1 + 1 + 1) = some e := rfl
  simp only [p_spyref3_RowFault_l0, i0, i1, i2, i3, i4, bnd_s, cb_d]
  repeat' split
  all_goals rfl
theorem or2 (L : Nat) (h2 : 2 < L) (x y : Int) : p_cmp_Or_Errno L [x, y] = some (if x = 0 then y else x) := by
  unfold p_cmp_Or_Errno
  rw [rq_t (by simpa using h2), p_cmp_Or_Errno_l0, p_cmp_Or_Errno_l0, p_cmp_Or_Errno_l0, cb_d, cb_d]
  by_cases h : x = 0
  · rw [if_pos h, if_pos h]
    by_cases h' : y = 0
    · rw [if_pos h', h']; rfl
    · rw [if_neg h']; rfl
  · rw [if_neg h, if_neg h]; rfl
theorem box_l0 (L : Nat) (x0 x1 : Int) (xu : Bool) (y0 y1 : Int) (yu : Bool) (z0 z1 : Int) (zu : Bool) (a b c : Int) (ha : a = fault x0 x1 xu (-1073741824) 1073741824) (hb : b = fault y0 y1 yu (-1073741824) 1073741824) (hc : c = fault z0 z1 zu (-1073741824) 1073741824) :
    p_catalog_CheckRow_l0 L x0 x1 xu y0 y1 yu z0 z1 zu 3 0 = some (if a = 0 then if b = 0 then if c = 0 then .inl () else .inr c else .inr b else .inr a) := by
  rw [p_catalog_CheckRow_l0, decide_eq_true (show (0 : Int) = 0 from rfl), cb_t, ends_c, bnd_s, cb_d, ← ha]
  by_cases h1 : a = 0
  · rw [if_pos h1, if_pos h1, p_catalog_CheckRow_l0, decide_eq_false (show ¬ ((0 : Int) + 1 = 0) by decide), cb_f, decide_eq_true (show (0 : Int) + 1 = 1 from rfl), cb_t, ends_c, bnd_s, cb_d, ← hb]
    by_cases h2 : b = 0
    · rw [if_pos h2, if_pos h2, p_catalog_CheckRow_l0, decide_eq_false (show ¬ ((0 : Int) + 1 + 1 = 0) by decide), cb_f, decide_eq_false (show ¬ ((0 : Int) + 1 + 1 = 1) by decide), cb_f, decide_eq_true (show (0 : Int) + 1 + 1 = 2 from rfl), cb_t, ends_c, bnd_s, cb_d, ← hc]
      by_cases h3 : c = 0
      · rw [if_pos h3, if_pos h3]; rfl
      · rw [if_neg h3, if_neg h3]
    · rw [if_neg h2, if_neg h2]
  · rw [if_neg h1, if_neg h1]
theorem row_eq (L : Nat) (hL : 300 < L) (i x0 x1 : Int) (xu : Bool) (y0 y1 : Int) (yu : Bool) (z0 z1 : Int) (zu : Bool) (q0 q1 : Int) (qu : Bool) (t0 t1 : Int) (tu : Bool) (f : List Int) (m : Int) :
    ∃ r, p_catalog_CheckRow L i x0 x1 xu y0 y1 yu z0 z1 zu q0 q1 qu t0 t1 tu f m = some r ∧ p_spyref3_RowFault L i x0 x1 xu y0 y1 yu z0 z1 zu q0 q1 qu t0 t1 tu f m = some r ∧ (r = 0 → fault q0 q1 qu (-1125899906842624) 1125899906842624 = 0 ∧ 0 ≤ m ∧ m ≤ 3) := by
  unfold p_catalog_CheckRow p_spyref3_RowFault
  by_cases k1 : i < 1
  · rw [if_pos k1, if_pos k1]; exact ⟨4, rfl, rfl, by omega⟩
  rw [if_neg k1, if_neg k1]
  by_cases k2 : i > 2147483647
  · rw [if_pos k2, if_pos (show i ≥ 2147483648 by omega)]; exact ⟨4, rfl, rfl, by omega⟩
  rw [if_neg k2, if_neg (show ¬ i ≥ 2147483648 by omega), bf_c, bnd_s, bf_c, bnd_s, bf_c, bnd_s, fault_eq, bnd_s, bf_t, bnd_s, ends_q, ends_t, box_l0 L x0 x1 xu y0 y1 yu z0 z1 zu _ _ _ rfl rfl rfl, rq_t (show 3 < L by omega), rq_t (show 5 < L by omega), first5, bnd_s, bnd_s]
  generalize fault x0 x1 xu (-1073741824) 1073741824 = a
  generalize fault y0 y1 yu (-1073741824) 1073741824 = b
  generalize fault z0 z1 zu (-1073741824) 1073741824 = c
  generalize fault q0 q1 qu (-1125899906842624) 1125899906842624 = d
  generalize fault t0 t1 tu (-17592186044416) 17592186044416 = e
  by_cases h1 : a = 0
  case neg => rw [if_neg h1, if_neg h1]; exact ⟨a, rfl, rfl, fun h => absurd h h1⟩
  rw [if_pos h1, if_pos h1]
  by_cases h2 : b = 0
  case neg => rw [if_neg h2, if_neg h2]; exact ⟨b, rfl, rfl, fun h => absurd h h2⟩
  rw [if_pos h2, if_pos h2]
  by_cases h3 : c = 0
  case neg => rw [if_neg h3, if_neg h3]; exact ⟨c, rfl, rfl, fun h => absurd h h3⟩
  rw [if_pos h3, if_pos h3]
  simp only [bnd_s, or2 L (show 2 < L by omega), cb_d]
  by_cases h4 : d = 0
  case neg => rw [if_neg h4, if_neg h4, if_neg h4]; exact ⟨d, rfl, rfl, fun h => absurd h h4⟩
  rw [if_pos h4, if_pos h4]
  by_cases h5 : e = 0
  case neg => rw [if_neg h5, if_neg h5]; exact ⟨e, rfl, rfl, fun h => absurd h h5⟩
  rw [if_pos h5, if_pos h5]
  simp only
  by_cases h6 : (f.length : Int) = 0
  · rw [if_pos h6, if_pos h6]; exact ⟨3, rfl, rfl, by omega⟩
  rw [if_neg h6, if_neg h6]
  by_cases h7 : (f.length : Int) > 8
  · rw [if_pos h7, if_pos h7]; exact ⟨2, rfl, rfl, by omega⟩
  rw [if_neg h7, if_neg h7]
  obtain ⟨g1, o, g2, g3⟩ := frames_eq L f (by omega) f [] 0 rfl (fun q x h => by simp at h)
  simp only [List.length_nil, Int.natCast_zero] at g1 g2
  rw [rq_t (show f.length < L by omega), rq_t (show f.length < L by omega), g1, g2, bnd_s, bnd_s]
  cases o with
  | inr v => exact ⟨v, rfl, rfl, fun h => absurd h (g3 v rfl)⟩
  | inl _ =>
    simp only
    by_cases h8 : m < 0
    · rw [if_pos h8]; exact ⟨4, rfl, rfl, by omega⟩
    rw [if_neg h8]
    by_cases h9 : m > 3
    · rw [if_pos h9]; exact ⟨4, rfl, rfl, by omega⟩
    rw [if_neg h9]
    exact ⟨0, rfl, rfl, fun _ => ⟨h4, by omega, by omega⟩⟩
def Valid (x : Row) : Prop := fault x.2.2.1.1 x.2.2.1.2.1 x.2.2.1.2.2.1 (-1125899906842624) 1125899906842624 = 0 ∧ 0 ≤ x.2.2.2.2.2.1 ∧ x.2.2.2.2.2.1 ≤ 3
theorem rows_l0 (L : Nat) (hL : 300 < L) (a : List Row) (ha : a.length < 1000) : ∀ (l p : List Row), a = p ++ l → p_catalog_Check_l0 L a l (p.length : Int) = p_spyref3_RowsFault_l0 L a l (p.length : Int) ∧ ∃ o, p_spyref3_RowsFault_l0 L a l (p.length : Int) = some o ∧ (∀ v, o = .inr v → v ≠ 0) ∧ (∀ u, o = .inl u → ∀ x ∈ l, Valid x)
  | [], p, e => by rw [p_catalog_Check_l0, p_spyref3_RowsFault_l0]; exact ⟨rfl, _, rfl, (fun v h => by cases h), (fun u h x hx => by cases hx)⟩
  | x :: r, p, e => by
    have ih := rows_l0 L hL a ha r (p ++ [x]) (by rw [e]; simp)
    have hn : a.length = p.length + (r.length + 1) := by rw [e]; simp
    rw [show ((p ++ [x]).length : Int) = (p.length : Int) + 1 by simp] at ih
    obtain ⟨i1, o, i2, i3, i4⟩ := ih
    obtain ⟨v, e1, e2, e3⟩ := row_eq L hL x.1 x.2.1.1.1 x.2.1.1.2.1 x.2.1.1.2.2.1 x.2.1.2.1.1 x.2.1.2.1.2.1 x.2.1.2.1.2.2.1 x.2.1.2.2.1.1 x.2.1.2.2.1.2.1 x.2.1.2.2.1.2.2.1 x.2.2.1.1 x.2.2.1.2.1 x.2.2.1.2.2.1 x.2.2.2.1.1 x.2.2.2.1.2.1 x.2.2.2.1.2.2.1 x.2.2.2.2.1 x.2.2.2.2.2.1
    rw [p_catalog_Check_l0, p_spyref3_RowsFault_l0, e1, e2, bnd_s, bnd_s, cb_d, cb_d]
    by_cases c : v = 0
    case neg => rw [if_neg c, if_neg c]; exact ⟨rfl, _, rfl, (fun w h => by cases h; exact c), (fun u h => by cases h)⟩
    rw [if_pos c, if_pos c]
    have hv : ∀ u, o = .inl u → ∀ y ∈ x :: r, Valid y := fun u h y hy => by
      rcases List.mem_cons.1 hy with rfl | hy
      · exact e3 c
      · exact i4 u h y hy
    by_cases c3 : (p.length : Int) > 0
    · rw [if_pos c3, if_pos c3]
      obtain ⟨q, y, hq⟩ : ∃ q y, p = q ++ [y] := ⟨p.dropLast, p.getLast (by intro h; subst h; simp at c3), (List.dropLast_concat_getLast _).symm⟩
      rw [w64 (by omega), show idx a ((p.length : Int) - 1) = some y by
        rw [show ((p.length : Int) - 1) = (q.length : Int) by rw [hq]; simp, e, hq, List.append_assoc]
        exact idx_app q y _, bnd_s, bnd_s]
      by_cases c4 : x.1 ≤ y.1
      · rw [if_pos c4, if_pos (show y.1 ≥ x.1 from c4)]; exact ⟨rfl, _, rfl, (fun v h => by cases h; decide), (fun u h => by cases h)⟩
      · rw [if_neg c4, if_neg (show ¬ y.1 ≥ x.1 from c4), i1]; exact ⟨rfl, o, i2, i3, hv⟩
    · rw [if_neg c3, if_neg c3, i1]; exact ⟨rfl, o, i2, i3, hv⟩
theorem rows_eq (L : Nat) (hL : 300 < L) (a : List Row) (ha : a.length < L) : ∃ r, p_catalog_Check L a = some r ∧ p_spyref3_RowsFault L a = some r ∧ (r = 0 → a.length ≤ 200 ∧ ∀ x ∈ a, Valid x) := by
  unfold p_catalog_Check p_spyref3_RowsFault
  by_cases c : (a.length : Int) > 200
  · rw [if_pos c, if_pos c]; exact ⟨2, rfl, rfl, by omega⟩
  rw [if_neg c, if_neg c, rq_t ha, rq_t ha]
  obtain ⟨i1, o, i2, i3, i4⟩ := rows_l0 L hL a (by omega) a [] rfl
  simp only [List.length_nil, Int.natCast_zero] at i1 i2
  rw [i1, i2, bnd_s, bnd_s]
  cases o with
  | inr v => exact ⟨v, rfl, rfl, fun h => absurd h (i3 v rfl)⟩
  | inl u => exact ⟨0, rfl, rfl, fun _ => ⟨by omega, i4 u rfl⟩⟩
/-! ### grades -/
theorem min_l0 (L : Nat) (l : List Int) (hl : l.length < 4611686018427387904) : ∀ (r p : List Int) (k : Nat) (m : Int), l = p ++ r → r.length + 1 ≤ k → p_slices_Min_int_l0 L l k m (p.length : Int) = some (r.foldl min m)
  | [], p, k, m, e, h => by
    obtain ⟨k, rfl⟩ : ∃ j, k = j + 1 := ⟨k - 1, by omega⟩
    subst e
    rw [p_slices_Min_int_l0, if_neg (by simp)]; rfl
  | x :: r, p, k, m, e, h => by
    obtain ⟨k, rfl⟩ : ∃ j, k = j + 1 := ⟨k - 1, by omega⟩
    rw [List.length_cons] at h
    have ih := min_l0 L l hl r (p ++ [x]) k (min m x) (by rw [e]; simp) (by omega)
    have hn : l.length = p.length + (r.length + 1) := by rw [e]; simp
    rw [p_slices_Min_int_l0, if_pos (by omega), show idx l (p.length : Int) = some x by rw [e]; exact idx_app p x r, bnd_s, w64 (by omega), min_v, List.foldl_cons, ← ih]
    congr 1
    simp
theorem min_eq (L : Nat) (x : Int) (r : List Int) (h : r.length < 100) (hL : 300 < L) : p_slices_Min_int L (x :: r) = some (r.foldl min x) := by
  have e : p_slices_Min_int_l0 L (x :: r) L x 1 = some (r.foldl min x) := min_l0 L (x :: r) (by simp; omega) r [x] L x rfl (by omega)
  unfold p_slices_Min_int
  rw [if_neg (by simp; omega), idx_z, bnd_s, e, bnd_s]
theorem nears (L : Nat) (hL : 300 < L) (x0 x1 : Int) (xu : Bool) (y0 y1 : Int) (yu : Bool) (z0 z1 : Int) (zu : Bool) : ∀ (l : List Cone), ∃ N : List Int, N.length = l.length ∧ (∀ v ∈ N, 0 ≤ v) ∧
    (∀ s, p_query_grade_l0 L x0 x1 xu y0 y1 yu z0 z1 zu l s = some (N.foldl min s)) ∧ (∀ s : List Int, s.length + l.length < 1000 → p_spyref3_Grade_l0 L x0 x1 xu y0 y1 yu z0 z1 zu l s = some (s ++ N))
  | [] => ⟨[], rfl, (fun v h => by cases h), (fun s => by rw [p_query_grade_l0]; rfl), (fun s _ => by rw [p_spyref3_Grade_l0]; simp)⟩
  | x :: r => by
    obtain ⟨N, n1, n2, n3, n4⟩ := nears L hL x0 x1 xu y0 y1 yu z0 z1 zu r
    obtain ⟨v, hv, e1, e2⟩ := PlQueryNears.both L (by omega) x0 x1 xu y0 y1 yu z0 z1 zu x.1.1 x.1.1 false x.1.2.1 x.1.2.1 false x.1.2.2.1 x.1.2.2.1 false x.2.1
    have ep : p_query_point L x.1.1 x.1.2.1 x.1.2.2.1 = some (x.1.1, x.1.1, false, x.1.2.1, x.1.2.1, false, x.1.2.2.1, x.1.2.2.1, false) := rfl
    have ee : p_spyref3_exact L x.1.1 x.1.2.1 x.1.2.2.1 = some (x.1.1, x.1.1, false, x.1.2.1, x.1.2.1, false, x.1.2.2.1, x.1.2.2.1, false) := rfl
    refine ⟨v :: N, by simp [n1], fun w hw => ?_, fun s => ?_, fun s hs => ?_⟩
    · rcases List.mem_cons.1 hw with rfl | hw
      · exact hv.1
      · exact n2 w hw
    · rw [p_query_grade_l0, ep, bnd_s, e1, bnd_s, n3, min_v]; rfl
    · rw [List.length_cons] at hs
      rw [p_spyref3_Grade_l0, ee, bnd_s, e2, bnd_s, rq_t (by rw [maxRow_v]; omega), rq_t (by rw [maxRow_v]; omega), n4 _ (by simp; omega)]
      simp
theorem fold0 : ∀ (N : List Int), (∀ v ∈ N, 0 ≤ v) → N.foldl min 0 = 0
  | [], _ => rfl
  | x :: r, h => by
    have := h x (by simp)
    rw [List.foldl_cons, show min (0 : Int) x = 0 by omega]
    exact fold0 r fun v hv => h v (by simp [hv])
theorem and_cases (a b : Int) (ha : 0 ≤ a ∧ a ≤ 3) (hb : 0 ≤ b ∧ b ≤ 3) : 0 ≤ bitsI .and .i64 a b := by
  have h1 : a = 0 ∨ a = 1 ∨ a = 2 ∨ a = 3 := by omega
  have h2 : b = 0 ∨ b = 1 ∨ b = 2 ∨ b = 3 := by omega
  rcases h1 with rfl | rfl | rfl | rfl <;> rcases h2 with rfl | rfl | rfl | rfl <;> decide
theorem grade_eq (L : Nat) (hL : 300 < L) (i x0 x1 : Int) (xu : Bool) (y0 y1 : Int) (yu : Bool) (z0 z1 : Int) (zu : Bool) (q0 q1 : Int) (qu : Bool) (t0 t1 : Int) (tu : Bool) (f : List Int) (m : Int) (l : List Cone) (b c d e : Int)
    (hl : l.length ≤ 4) (he : 0 ≤ e ∧ e ≤ 3) (hm : 0 ≤ m ∧ m ≤ 3) (hq : fault q0 q1 qu (-1125899906842624) 1125899906842624 = 0) :
    ∃ r, 0 ≤ r ∧ p_query_grade L i x0 x1 xu y0 y1 yu z0 z1 zu q0 q1 qu t0 t1 tu f m l b c d e = some r ∧ p_spyref3_Grade L i x0 x1 xu y0 y1 yu z0 z1 zu q0 q1 qu t0 t1 tu f m l b c d e = some r := by
  obtain ⟨N, n1, n2, n3, n4⟩ := nears L hL x0 x1 xu y0 y1 yu z0 z1 zu l
  have ha := and_cases m e hm he
  have hq1 : q0 ≤ 1125899906842624 ∧ q1 ≤ 1125899906842624 := by
    unfold fault chk at hq
    grind
  have leaf : ∀ (x : Int) (r : List Int) (v : Int), r.length ≤ 2 → r.foldl min x = v → (rq (l.length < L) <| bnd (p_spyref3_Grade_l0 L x0 x1 xu y0 y1 yu z0 z1 zu l (x :: r)) fun o13 => bnd (p_slices_Min_int L o13) fun r15 => some r15) = some (N.foldl min v) := by
    intro x r v hr hv
    rw [rq_t (by omega), n4 _ (by simp; omega), bnd_s, List.cons_append, min_eq L x _ (by simp; omega) hL, bnd_s, List.foldl_append, hv]
  have fpos : ∀ (N : List Int) (s : Int), 0 ≤ s → (∀ v ∈ N, 0 ≤ v) → 0 ≤ N.foldl min s := by
    intro N
    induction N with
    | nil => intro s hs _; exact hs
    | cons x r ih =>
      intro s hs h
      have := h x (by simp)
      exact ih (min s x) (by omega) fun v hv => h v (by simp [hv])
  unfold p_query_grade p_spyref3_Grade p_query_between_Tick p_query_between_Quanta
  simp only [leaf 2 [1, 1] 1 (by decide) rfl, leaf 2 [1, 0] 0 (by decide) rfl, leaf 2 [1] 1 (by decide) rfl, leaf 2 [0, 1] 0 (by decide) rfl, leaf 2 [0, 0] 0 (by decide) rfl, leaf 2 [0] 0 (by decide) rfl, leaf 2 [] 2 (by decide) rfl, n3, rq_t (show l.length < L by omega), cb_d, min_v, bnd_s]
  obtain ⟨T, hT⟩ : ∃ T, T = (if tu = true then (1 : Int) else if t1 < b then 0 else if t0 > c then 0 else if t0 ≥ b then (if t1 ≤ c then 2 else 1) else 1) := ⟨_, rfl⟩
  obtain ⟨F, hF⟩ : ∃ F, F = (if qu = true then (1 : Int) else if q1 < d then 0 else if q0 ≥ d then 2 else 1) := ⟨_, rfl⟩
  have h1 : (cb tu (some 1) (if t1 < b then some 0 else if t0 > c then some 0 else if t0 ≥ b then if t1 ≤ c then some 2 else some 1 else some 1) : Option Int) = some T := by
    subst hT
    cases tu
    · simp only [cb_f, Bool.false_eq_true, if_false]
      repeat' split
      all_goals rfl
    · rfl
  have h2 : (cb qu (some 1) (if q1 < d then some 0 else if q0 > 1125899906842624 then some 0 else if q0 ≥ d then if q1 ≤ 1125899906842624 then some 2 else some 1 else some 1) : Option Int) = some F := by
    subst hF
    cases qu
    · simp only [cb_f, Bool.false_eq_true, if_false]
      repeat' split
      all_goals first | rfl | (exfalso; omega)
    · rfl
  have hTF : 0 ≤ min T F := by
    subst hT hF
    repeat' split
    all_goals omega
  rw [h1, bnd_s, h2, bnd_s]
  by_cases hM : bitsI .and .i64 m e = 0
  · rw [if_pos hM, if_neg (show ¬ bitsI .and .i64 m e > 0 by omega)]
    refine ⟨_, fpos N _ hTF n2, rfl, ?_⟩
    subst hT hF
    cases tu
    · cases qu
      · simp only [cb_f, Bool.false_eq_true, if_false]
        repeat' split
        all_goals first | rfl | (exfalso; omega)
      · simp only [cb_f, cb_t, Bool.false_eq_true, if_false, if_true]
        repeat' split
        all_goals first | rfl | (exfalso; omega)
    · cases qu
      · simp only [cb_f, cb_t, Bool.false_eq_true, if_false, if_true]
        repeat' split
        all_goals first | rfl | (exfalso; omega)
      · rfl
  · rw [if_neg hM, if_pos (show bitsI .and .i64 m e > 0 by omega), fold0 N n2]
    exact ⟨0, by decide, rfl, rfl⟩
/-! ### the scan -/
theorem scan_l0 (L : Nat) (hL : 300 < L) (l : List Cone) (b c d e : Int) (hl : l.length ≤ 4) (he : 0 ≤ e ∧ e ≤ 3) : ∀ (r : List Row) (s : List (Int × Int × Unit)), (∀ x ∈ r, Valid x) → s.length + r.length < 1000 →
    ∃ o, p_query_Scan_l0 L l b c d e r s = some o ∧ p_spyref3_Scanned_l0 L l b c d e r s = some o ∧ o.length ≤ s.length + r.length
  | [], s, _, _ => by rw [p_query_Scan_l0, p_spyref3_Scanned_l0]; exact ⟨s, rfl, rfl, by simp⟩
  | x :: r, s, hv, h => by
    rw [List.length_cons] at h
    obtain ⟨v1, v2, v3⟩ := hv x (by simp)
    obtain ⟨g, g0, g1, g2⟩ := grade_eq L hL x.1 x.2.1.1.1 x.2.1.1.2.1 x.2.1.1.2.2.1 x.2.1.2.1.1 x.2.1.2.1.2.1 x.2.1.2.1.2.2.1 x.2.1.2.2.1.1 x.2.1.2.2.1.2.1 x.2.1.2.2.1.2.2.1 x.2.2.1.1 x.2.2.1.2.1 x.2.2.1.2.2.1 x.2.2.2.1.1 x.2.2.2.1.2.1 x.2.2.2.1.2.2.1 x.2.2.2.2.1 x.2.2.2.2.2.1 l b c d e hl he ⟨v2, v3⟩ v1
    rw [p_query_Scan_l0, p_spyref3_Scanned_l0, g1, g2, bnd_s, bnd_s, cb_d]
    by_cases k : g = 0
    · rw [if_pos k, if_neg (show ¬ g > 0 by omega)]
      obtain ⟨o, o1, o2, o3⟩ := scan_l0 L hL l b c d e hl he r s (fun y hy => hv y (by simp [hy])) (by omega)
      exact ⟨o, o1, o2, by simp; omega⟩
    · rw [if_neg k, if_pos (show g > 0 by omega)]
      obtain ⟨o, o1, o2, o3⟩ := scan_l0 L hL l b c d e hl he r (s ++ [(x.1, g, ())]) (fun y hy => hv y (by simp [hy])) (by simp; omega)
      simp only [rq_t (show s.length + 1 ≤ maxRow by rw [maxRow_v]; omega), rq_t (show (s.length + 1) * 16 ≤ maxRow by rw [maxRow_v]; omega)]
      exact ⟨o, o1, o2, by simp at o3 ⊢; omega⟩
theorem eq_l (L : Nat) (l : List (Int × Int × Unit)) : ∀ (r p : List (Int × Int × Unit)), l = p ++ r → p_slices_Equal_Answer_l0 L l l r.length (p.length : Int) = some (.inl ())
  | [], p, h => by rw [List.length_nil, p_slices_Equal_Answer_l0]
  | x :: r, p, h => by
    have := eq_l L l r (p ++ [x]) (by rw [h]; simp)
    rw [List.length_cons, p_slices_Equal_Answer_l0, h, idx_app, bnd_s, bnd_s, ← h, show ((p.length : Int) + 1) = ((p ++ [x]).length : Int) by simp, this]
    simp [cb]
theorem same_eq (L : Nat) (l : List (Int × Int × Unit)) (hl : l.length < L) (hb : l.length < 4611686018427387904) : p_slices_Equal_Answer L l l = some true := by
  have := eq_l L l l [] rfl
  simp only [List.length_nil, Int.natCast_zero] at this
  unfold p_slices_Equal_Answer
  simp only [decide_true, cb_t, Int.toNat_natCast]
  rw [rq_t hl, rq_t (by omega), this]; rfl
theorem scan_eq (L : Nat) (hL : 300 < L) (a : List Row) (l : List Cone) (b c d e : Int) (ha : a.length < L) (hl : l.length < L) :
    ∃ r, p_query_Scan L a l b c d e = some r ∧ p_spyref3_Scanned L a l b c d e = some r ∧ r.1.length ≤ 200 := by
  obtain ⟨r, e1, e2, e3⟩ := rows_eq L hL a ha
  obtain ⟨q, f1, f2, f3⟩ := ask_eq L l b c d e hl
  unfold p_query_Scan p_spyref3_Scanned
  rw [e1, e2, bnd_s, bnd_s, cb_d, cb_d, f1, f2, bnd_s, bnd_s, cb_d, cb_d]
  by_cases k : r = 0
  case neg => rw [if_neg k, if_neg k]; exact ⟨_, rfl, rfl, by simp⟩
  rw [if_pos k, if_pos k]
  by_cases k2 : q = 0
  case neg => rw [if_neg k2, if_neg k2]; exact ⟨_, rfl, rfl, by simp⟩
  obtain ⟨h1, h2⟩ := e3 k
  obtain ⟨h3, h4, h5⟩ := f3 k2
  obtain ⟨o, o1, o2, o3⟩ := scan_l0 L hL l b c d e h3 ⟨h4, h5⟩ a [] h2 (by simp; omega)
  rw [if_pos k2, if_pos k2, rq_t ha, rq_t ha, o1, o2]
  simp only [bnd_s]
  exact ⟨_, rfl, rfl, by simp at o3 ⊢; omega⟩
theorem top (a0 : List (Int × ((Int × Int × Bool × Unit) × (Int × Int × Bool × Unit) × (Int × Int × Bool × Unit) × Unit) × (Int × Int × Bool × Unit) × (Int × Int × Bool × Unit) × List Int × Int × Unit)) (a1_0 : List ((Int × Int × Int × Unit) × Int × Unit)) (a1_1 : Int) (a1_2 : Int) (a1_3 : Int) (a1_4 : Int) (h0 : a0.length * 160 ≤ 140737488351232 ∧ ∀ y ∈ a0, ((Lit.int .i64 y.1).wf = true) ∧ ((((Lit.int .i64 y.2.1.1.1).wf = true) ∧ ((Lit.int .i64 y.2.1.1.2.1).wf = true) ∧ (True) ∧ True) ∧ (((Lit.int .i64 y.2.1.2.1.1).wf = true) ∧ ((Lit.int .i64 y.2.1.2.1.2.1).wf = true) ∧ (True) ∧ True) ∧ (((Lit.int .i64 y.2.1.2.2.1.1).wf = true) ∧ ((Lit.int .i64 y.2.1.2.2.1.2.1).wf = true) ∧ (True) ∧ True) ∧ True) ∧ (((Lit.int .i64 y.2.2.1.1).wf = true) ∧ ((Lit.int .i64 y.2.2.1.2.1).wf = true) ∧ (True) ∧ True) ∧ (((Lit.int .i64 y.2.2.2.1.1).wf = true) ∧ ((Lit.int .i64 y.2.2.2.1.2.1).wf = true) ∧ (True) ∧ True) ∧ (y.2.2.2.2.1.length * 8 ≤ 140737488351232 ∧ ∀ zy22221 ∈ y.2.2.2.2.1, (Lit.int .i64 zy22221).wf = true) ∧ ((Lit.int .i64 y.2.2.2.2.2.1).wf = true) ∧ True) (h1 : (a1_0.length * 32 ≤ 140737488351232 ∧ ∀ y ∈ a1_0, (((Lit.int .i64 y.1.1).wf = true) ∧ ((Lit.int .i64 y.1.2.1).wf = true) ∧ ((Lit.int .i64 y.1.2.2.1).wf = true) ∧ True) ∧ ((Lit.int .i64 y.2.1).wf = true) ∧ True) ∧ ((Lit.int .i64 a1_1).wf = true) ∧ ((Lit.int .i64 a1_2).wf = true) ∧ ((Lit.int .i64 a1_3).wf = true) ∧ ((Lit.int .i64 a1_4).wf = true) ∧ True) : ∃ L, L ≤ 4611686018427387904 ∧ p_spylaw3_QueryScans L a0 a1_0 a1_1 a1_2 a1_3 a1_4 = some true := by
  obtain ⟨L, hL⟩ : ∃ L, L = 4611686018427387904 := ⟨_, rfl⟩
  refine ⟨L, by omega, ?_⟩
  have ha : a0.length < L := by have := h0.1; omega
  have hl : a1_0.length < L := by have := h1.1.1; omega
  obtain ⟨r, e1, e2, e3⟩ := scan_eq L (by omega) a0 a1_0 a1_1 a1_2 a1_3 a1_4 ha hl
  obtain ⟨q, f1, f2, f3⟩ := ask_eq L a1_0 a1_1 a1_2 a1_3 a1_4 hl
  unfold p_spylaw3_QueryScans
  rw [e1, bnd_s, e2, bnd_s, show p_spylaw3_queries L = some true from rfl, bnd_s, cb_t, f1, bnd_s, f2, bnd_s, decide_eq_true rfl, cb_t, decide_eq_true rfl, cb_t, same_eq L r.1 (by omega) (by omega), bnd_s]
end Go.Proofs.Ytnojehmbiceceaa.PlQueryScans
end
section
set_option linter.unusedVariables false
set_option linter.unusedSimpArgs false
namespace Go.Proofs.Ytnojehmbiceceaa.queryScans
open Go.ChangeShapes Go.WideShapes Go.ChangeAt Go.RowKit
open Go.ChangeMaps (open_string shut_string)
open Go.Ev (Opens OpensF arg_agg arg_one weight_at law_calls call_of_ev ArgsOk D Fl)
theorem own : ownKnob Try.prog.godebug = none := by kernel_rfl
theorem laidOut : laidOutB Try.prog = true := by kernel_rfl
set_option maxRecDepth 100000 in
set_option maxHeartbeats 4000000 in
theorem lifted (os : Os) (started : os.Started) (H : Type) (enc : TypeId × Value → H) :
    ReturnsInHanded {} Try.checked os 9 .any (Rows.queryScansSpec.pre6 enc Try.prog Try.f9 Rows.queryScansRow.domain false) (Rows.queryScansSpec.post enc Try.prog Try.f9 false true false false) := by
  refine returnsInHanded_of_change_sized (C := Try.checked) own started (by kernel_rfl) Try.func9
    (ChangeSpec.witness6 (enc := enc) (C := Try.checked) false ⟨#[], #[.slice none 0 0, .agg #[.slice none 0 0, .int .i64 0, .int .i64 0, .int .i64 0, .int .i64 0]], []⟩ 8 (by kernel_rfl) (by kernel_rfl) (by kernel_rfl) (by kernel_rfl)) ?_
  intro W base args ds gs before hval0 hW hcnd hsz0 _
  have hsz : (DataW.weightsEach Try.prog (Try.f9.params.toList ++ Rows.queryScansSpec.plain.varTypes Try.prog) (ds ++ gs)).all (· ≤ reachBytes) = true := hsz0
  have hval : ∀ (j : Nat) t v, Try.f9.params[j]? = some t → args[j]? = some v → Value.okWide Try.prog W .any base t v := hval0
  have hW' := hW
  obtain ⟨p, q, hA0, hV, rfl, hfz, hnd⟩ := hW
  have hA : DataW.TrodAll enc Try.prog W 0 (fun _ => true) true Try.f9.params.toList args.toList ds p := hA0
  rw [Try.params9] at hA hval hsz
  obtain ⟨v0, vs0, d0, ds0, p0, q0, hargs, rfl, rfl, h0, r0⟩ := trodAll_cons hA
  obtain ⟨v1, vs1, d1, ds1, p1, q1, rfl, rfl, rfl, h1, r1⟩ := trodAll_cons r0
  obtain ⟨rfl, rfl, rfl⟩ := trodAll_nil r1
  obtain rfl : args = #[v0, v1] := by cases args; simp_all
  obtain ⟨rfl, rfl⟩ := trodVars_none hV
  obtain ⟨A0, len0, c0, rfl⟩ := okWide_slice Try.underlying70 (hval 0 70 v0 rfl rfl)
  have k0_ := h0
  have lt0 : ∀ x ∈ p0, x.block < W.heap.size := by obtain ⟨m, hm⟩ := k0_; exact DataW.trod_lt m _ _ _ hm
  obtain ⟨fuel0, hf0⟩ := h0
  obtain ⟨a0, hK0, hw0⟩ := (Opens.slice (B := 160) Try.underlying70 (of_decide_eq_true (by kernel_rfl)) (by kernel_rfl) (Opens.struct Try.underlying89 (by kernel_rfl) (OpensF.cons rfl (Opens.int Try.underlying3) (OpensF.cons rfl (Opens.struct Try.underlying66 (by kernel_rfl) (OpensF.cons rfl (Opens.struct Try.underlying64 (by kernel_rfl) (OpensF.cons rfl (Opens.int Try.underlying62) (OpensF.cons rfl (Opens.int Try.underlying62) (OpensF.cons rfl (Opens.bool Try.underlying4) OpensF.nil)))) (OpensF.cons rfl (Opens.struct Try.underlying64 (by kernel_rfl) (OpensF.cons rfl (Opens.int Try.underlying62) (OpensF.cons rfl (Opens.int Try.underlying62) (OpensF.cons rfl (Opens.bool Try.underlying4) OpensF.nil)))) (OpensF.cons rfl (Opens.struct Try.underlying64 (by kernel_rfl) (OpensF.cons rfl (Opens.int Try.underlying62) (OpensF.cons rfl (Opens.int Try.underlying62) (OpensF.cons rfl (Opens.bool Try.underlying4) OpensF.nil)))) OpensF.nil)))) (OpensF.cons rfl (Opens.struct Try.underlying35 (by kernel_rfl) (OpensF.cons rfl (Opens.int Try.underlying24) (OpensF.cons rfl (Opens.int Try.underlying24) (OpensF.cons rfl (Opens.bool Try.underlying4) OpensF.nil)))) (OpensF.cons rfl (Opens.struct Try.underlying87 (by kernel_rfl) (OpensF.cons rfl (Opens.int Try.underlying72) (OpensF.cons rfl (Opens.int Try.underlying72) (OpensF.cons rfl (Opens.bool Try.underlying4) OpensF.nil)))) (OpensF.cons rfl (Opens.slice (B := 8) Try.underlying22 (of_decide_eq_true (by kernel_rfl)) (by kernel_rfl) (Opens.int Try.underlying3)) (OpensF.cons rfl (Opens.int Try.underlying3) OpensF.nil)))))))) enc W fuel0 _ _ hf0 (weight_at hsz (j := 0) rfl rfl)
  obtain ⟨cs1, rfl, hcs1⟩ := okWide_struct Try.underlying74 (hval 1 74 v1 rfl rfl)
  have k1_ := h1
  have lt1 : ∀ x ∈ p1, x.block < W.heap.size := by obtain ⟨m, hm⟩ := k1_; exact DataW.trod_lt m _ _ _ hm
  obtain ⟨fuel1, hf1⟩ := h1
  obtain ⟨x1, hK1, hw1⟩ := (Opens.struct Try.underlying74 (by kernel_rfl) (OpensF.cons rfl (Opens.slice (B := 32) Try.underlying71 (of_decide_eq_true (by kernel_rfl)) (by kernel_rfl) (Opens.struct Try.underlying167 (by kernel_rfl) (OpensF.cons rfl (Opens.struct Try.underlying165 (by kernel_rfl) (OpensF.cons rfl (Opens.int Try.underlying2) (OpensF.cons rfl (Opens.int Try.underlying2) (OpensF.cons rfl (Opens.int Try.underlying2) OpensF.nil)))) (OpensF.cons rfl (Opens.int Try.underlying67) OpensF.nil)))) (OpensF.cons rfl (Opens.int Try.underlying72) (OpensF.cons rfl (Opens.int Try.underlying72) (OpensF.cons rfl (Opens.int Try.underlying24) (OpensF.cons rfl (Opens.int Try.underlying3) OpensF.nil)))))) enc W fuel1 _ _ hf1 (weight_at hsz (j := 1) rfl rfl)
  obtain ⟨a1_0, a1_1, a1_2, a1_3, a1_4, ⟨⟩⟩ := x1
  clear hA0 hval0 hsz0 hsz
  obtain ⟨L, hL, hp⟩ := PlQueryScans.top a0 a1_0 a1_1 a1_2 a1_3 a1_4 hw0 hw1
  have ht := P.e_spylaw3_QueryScans L hL a0 a1_0 a1_1 a1_2 a1_3 a1_4 true hp
  have hok : ArgsOk Try.prog (Go.Ev.Old W) W [D.sl 89 (a0.map (fun ya0 : Int × ((Int × Int × Bool × Unit) × (Int × Int × Bool × Unit) × (Int × Int × Bool × Unit) × Unit) × (Int × Int × Bool × Unit) × (Int × Int × Bool × Unit) × List Int × Int × Unit => D.agg 89 [.int .i64 ya0.1, D.agg 66 [D.agg 64 [.int .i64 ya0.2.1.1.1, .int .i64 ya0.2.1.1.2.1, .bool ya0.2.1.1.2.2.1], D.agg 64 [.int .i64 ya0.2.1.2.1.1, .int .i64 ya0.2.1.2.1.2.1, .bool ya0.2.1.2.1.2.2.1], D.agg 64 [.int .i64 ya0.2.1.2.2.1.1, .int .i64 ya0.2.1.2.2.1.2.1, .bool ya0.2.1.2.2.1.2.2.1]], D.agg 35 [.int .i64 ya0.2.2.1.1, .int .i64 ya0.2.2.1.2.1, .bool ya0.2.2.1.2.2.1], D.agg 87 [.int .i64 ya0.2.2.2.1.1, .int .i64 ya0.2.2.2.1.2.1, .bool ya0.2.2.2.1.2.2.1], D.sl 3 (ya0.2.2.2.2.1.map (.int .i64)), .int .i64 ya0.2.2.2.2.2.1])), D.agg 74 [D.sl 167 (a1_0.map (fun ya1_0 : (Int × Int × Int × Unit) × Int × Unit => D.agg 167 [D.agg 165 [.int .i64 ya1_0.1.1, .int .i64 ya1_0.1.2.1, .int .i64 ya1_0.1.2.2.1], .int .i64 ya1_0.2.1])), .int .i64 a1_1, .int .i64 a1_2, .int .i64 a1_3, .int .i64 a1_4]] [(.slice A0 len0 c0 : Value), (.agg cs1 : Value)] := fun σ st => ⟨_, _, rfl, arg_one rfl hK0, ⟨_, _, rfl, arg_agg rfl hK1, rfl⟩⟩
  refine (law_calls Try.func9 (by kernel_rfl) (by kernel_rfl) (call_of_ev Ty.mixed (P.Go_spylaw3_QueryScans L hL) (P.To_spylaw3_QueryScans L) ht (fun _ h => h) hok)).mono fun e W' ⟨he, bel⟩ => ?_
  subst he
  exact ⟨_, rfl, _, _, _, [], _, [], hW', trodAll_mk1 (shut_bool Try.underlying4 _), (trodAll_cons_mk (Below.trod laidOut (by kernel_rfl) (of_decide_eq_true (by kernel_rfl)) k0_ bel lt0) (trodAll_cons_mk (Below.trod laidOut (by kernel_rfl) (of_decide_eq_true (by kernel_rfl)) k1_ bel lt1) trodAll_mk0)), rfl, bel.frame _, fun h => by cases h⟩
theorem over : Rows.queryScansRow.holds Try.pinned (OpenSpec.ofChange Rows.queryScansSpec) :=
  OpenClaim.holds_of_wide 9 Try.f9 rfl rfl rfl rfl rfl rfl rfl ⟨rfl, rfl, rfl, rfl, rfl⟩ rfl rfl rfl rfl rfl (by kernel_rfl) Try.func9 (by kernel_rfl)
    (of_decide_eq_true (by kernel_rfl)) (by unfold Func.isWrapper; first | (rw [if_pos (by decide +kernel)]; kernel_rfl) | (rw [if_neg (by decide +kernel)]; exact ⟨rfl, rfl⟩))
    (fun os started H enc _ => lifted os started H enc)
theorem proved : Rows.QueryScansSaid := over
#print axioms proved
end Go.Proofs.Ytnojehmbiceceaa.queryScans
namespace Go.Proofs.Ytnojehmbiceceaa
/-- The row, under a short name, for the claim. -/
theorem queryScans_holds : Rows.QueryScansSaid := queryScans.proved
end Go.Proofs.Ytnojehmbiceceaa
end
