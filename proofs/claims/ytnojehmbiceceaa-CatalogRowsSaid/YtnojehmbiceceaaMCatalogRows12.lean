/- The row of the law CatalogRows: for every input the call returns true. Over the evaluator's contract of the law's function. No conditions. -/
import Derived.Test.YtnojehmbiceceaaMCatalogRows11
import Derived.Test.YtnojehmbiceceaaRows
import Derived.WalkKit
import Derived.ProofKit
import Derived.OpenShut
import Derived.ShutString
import Derived.ChangeOld
import Derived.Below
import Derived.SizedLaws
import Derived.Carry
import Derived.WideShapes
import Derived.KernelRfl
section
set_option linter.unusedVariables false
set_option linter.unusedSimpArgs false
namespace Go.Proofs.Ytnojehmbiceceaa.PlCatalogRows
open Go Go.Ev Go.IntKind Go.Pl Go.Proofs.Ytnojehmbiceceaa.P
open Go.Proofs.Ytnojehmbiceceaa.PlBndAQuanta (chk fault check_eq fault_eq)
abbrev B := Int × Int × Bool × Unit
abbrev Row := Int × (B × B × B × Unit) × B × B × List Int × Int × Unit
theorem ends_q (L : Nat) (a b : Int) (u : Bool) : p_catalog_ends_Quanta L a b u 1125899906842624 = some (fault a b u (-1125899906842624) 1125899906842624) := by
  unfold p_catalog_ends_Quanta fault
  rw [check_eq, bnd_s, cb_d]
  by_cases c : chk a b u = 0
  · rw [if_pos c, if_neg (show ¬ chk a b u ≠ 0 from fun h => h c), w64 (by decide)]
    by_cases c1 : a < 0 - 1125899906842624
    · rw [if_pos c1, if_pos (.inl (by omega))]
    · rw [if_neg c1]
      by_cases c2 : b > 1125899906842624
      · rw [if_pos c2, if_pos (.inr c2)]
      · rw [if_neg c2, if_neg (by omega)]
  · rw [if_neg c, if_pos c]
theorem ends_c (L : Nat) (a b : Int) (u : Bool) : p_catalog_ends_Coord L a b u 1073741824 = some (fault a b u (-1073741824) 1073741824) := by
  unfold p_catalog_ends_Coord fault
  rw [show p_bound_Check_Coord L a b u = some (chk a b u) from check_eq L a b u, bnd_s, cb_d]
  by_cases c : chk a b u = 0
  · rw [if_pos c, if_neg (show ¬ chk a b u ≠ 0 from fun h => h c), w64 (by decide)]
    by_cases c1 : a < 0 - 1073741824
    · rw [if_pos c1, if_pos (.inl (by omega))]
    · rw [if_neg c1]
      by_cases c2 : b > 1073741824
      · rw [if_pos c2, if_pos (.inr c2)]
      · rw [if_neg c2, if_neg (by omega)]
  · rw [if_neg c, if_pos c]
theorem ends_t (L : Nat) (a b : Int) (u : Bool) : p_catalog_ends_Tick L a b u 17592186044416 = some (fault a b u (-17592186044416) 17592186044416) := by
  unfold p_catalog_ends_Tick fault
  rw [show p_bound_Check_Tick L a b u = some (chk a b u) from check_eq L a b u, bnd_s, cb_d]
  by_cases c : chk a b u = 0
  · rw [if_pos c, if_neg (show ¬ chk a b u ≠ 0 from fun h => h c), w64 (by decide)]
    by_cases c1 : a < 0 - 17592186044416
    · rw [if_pos c1, if_pos (.inl (by omega))]
    · rw [if_neg c1]
      by_cases c2 : b > 17592186044416
      · rw [if_pos c2, if_pos (.inr c2)]
      · rw [if_neg c2, if_neg (by omega)]
  · rw [if_neg c, if_pos c]
theorem bf_c (L : Nat) (a b : Int) (u : Bool) (lo hi : Int) : p_spyref3_BoundFault_Coord L a b u lo hi = some (fault a b u lo hi) := fault_eq L a b u lo hi
theorem bf_t (L : Nat) (a b : Int) (u : Bool) (lo hi : Int) : p_spyref3_BoundFault_Tick L a b u lo hi = some (fault a b u lo hi) := fault_eq L a b u lo hi
/-- The frames of a row. -/
theorem frames_eq (L : Nat) (a : List Int) (ha : a.length < 1000) : ∀ (l p : List Int) (last : Int), a = p ++ l → (∀ q x, p = q ++ [x] → x = last) → p_catalog_CheckRow_l1 L a l (p.length : Int) = p_spyref3_RowFault_l1 L l (p.length : Int) last ∧ ∃ o, p_spyref3_RowFault_l1 L l (p.length : Int) last = some o ∧ ∀ v, o = .inr v → v ≠ 0
  | [], p, last, e, hl => by rw [p_catalog_CheckRow_l1, p_spyref3_RowFault_l1]; exact ⟨rfl, _, rfl, fun v h => by cases h⟩
  | x :: r, p, last, e, hl => by
    have ih := frames_eq L a ha r (p ++ [x]) x (by rw [e]; simp) (fun q y h => by have := List.append_inj_right' h rfl; simpa using this.symm)
    have hn : a.length = p.length + (r.length + 1) := by rw [e]; simp
    rw [show ((p ++ [x]).length : Int) = (p.length : Int) + 1 by simp] at ih
    rw [p_catalog_CheckRow_l1, p_spyref3_RowFault_l1]
    by_cases c1 : x < 1
    · rw [if_pos c1, if_pos c1]; exact ⟨rfl, _, rfl, fun v h => by cases h; decide⟩
    rw [if_neg c1, if_neg c1]
    by_cases c2 : x > 1048576
    · rw [if_pos c2, if_pos c2]; exact ⟨rfl, _, rfl, fun v h => by cases h; decide⟩
    rw [if_neg c2, if_neg c2]
    by_cases c3 : (p.length : Int) > 0
    · rw [if_pos c3, if_pos c3]
      obtain ⟨q, y, hq⟩ : ∃ q y, p = q ++ [y] := ⟨p.dropLast, p.getLast (by intro h; subst h; simp at c3), (List.dropLast_concat_getLast _).symm⟩
      have hy := hl q y hq
      subst hy
      rw [w64 (by omega), show idx a ((p.length : Int) - 1) = some y by
        rw [show ((p.length : Int) - 1) = (q.length : Int) by rw [hq]; simp, e, hq, List.append_assoc]
        exact idx_app q y _, bnd_s]
      by_cases c4 : x ≤ y
      · rw [if_pos c4, if_pos c4]; exact ⟨rfl, _, rfl, fun v h => by cases h; decide⟩
      · rw [if_neg c4, if_neg c4]; exact ih
    · rw [if_neg c3, if_neg c3]; exact ih
/-- The first error of five. -/
theorem first5 (L : Nat) (a b c d e : Int) : p_spyref3_RowFault_l0 L [a, b, c, d, e] 5 0 = some (if a = 0 then if b = 0 then if c = 0 then if d = 0 then if e = 0 then .inl () else .inr e else .inr d else .inr c else .inr b else .inr a) := by
  have i0 : idx [a, b, c, d, e] 0 = some a := rfl
  have i1 : idx [a, b, c, d, e] (0 + 1) = some b := rfl
  have i2 : idx [a, b, c, d, e] (0 + 1 + 1) = some c := rfl
  have i3 : idx [a, b, c, d, e] (0 + 1 + 1 + 1) = some d := rfl
  have i4 : idx [a, b, c, d, e] (0 + 1 + 1 + 1 + 1) = some e := rfl
  simp only [p_spyref3_RowFault_l0, i0, i1, i2, i3, i4, bnd_s, cb_d]
  repeat' split
  all_goals rfl
theorem or2 (L : Nat) (h2 : 2 < L) (x y : Int) : p_cmp_Or_Errno L [x, y] = some (if x = 0 then y else x) := by
  unfold p_cmp_Or_Errno
  rw [rq_t (by simpa using h2), p_cmp_Or_Errno_l0, p_cmp_Or_Errno_l0, p_cmp_Or_Errno_l0, cb_d, cb_d]
  by_cases h : x = 0
  · rw [if_pos h, if_pos h]
    by_cases h' : y = 0
    · rw [if_pos h', h']; rfl
    · rw [if_neg h']; rfl
  · rw [if_neg h, if_neg h]; rfl
theorem box_l0 (L : Nat) (x0 x1 : Int) (xu : Bool) (y0 y1 : Int) (yu : Bool) (z0 z1 : Int) (zu : Bool) (a b c : Int) (ha : a = fault x0 x1 xu (-1073741824) 1073741824) (hb : b = fault y0 y1 yu (-1073741824) 1073741824) (hc : c = fault z0 z1 zu (-1073741824) 1073741824) :
    p_catalog_CheckRow_l0 L x0 x1 xu y0 y1 yu z0 z1 zu 3 0 = some (if a = 0 then if b = 0 then if c = 0 then .inl () else .inr c else .inr b else .inr a) := by
  rw [p_catalog_CheckRow_l0, decide_eq_true (show (0 : Int) = 0 from rfl), cb_t, ends_c, bnd_s, cb_d, ← ha]
  by_cases h1 : a = 0
  · rw [if_pos h1, if_pos h1, p_catalog_CheckRow_l0, decide_eq_false (show ¬ ((0 : Int) + 1 = 0) by decide), cb_f, decide_eq_true (show (0 : Int) + 1 = 1 from rfl), cb_t, ends_c, bnd_s, cb_d, ← hb]
    by_cases h2 : b = 0
    · rw [if_pos h2, if_pos h2, p_catalog_CheckRow_l0, decide_eq_false (show ¬ ((0 : Int) + 1 + 1 = 0) by decide), cb_f, decide_eq_false (show ¬ ((0 : Int) + 1 + 1 = 1) by decide), cb_f, decide_eq_true (show (0 : Int) + 1 + 1 = 2 from rfl), cb_t, ends_c, bnd_s, cb_d, ← hc]
      by_cases h3 : c = 0
      · rw [if_pos h3, if_pos h3]; rfl
      · rw [if_neg h3, if_neg h3]
    · rw [if_neg h2, if_neg h2]
  · rw [if_neg h1, if_neg h1]
theorem row_eq (L : Nat) (hL : 300 < L) (i x0 x1 : Int) (xu : Bool) (y0 y1 : Int) (yu : Bool) (z0 z1 : Int) (zu : Bool) (q0 q1 : Int) (qu : Bool) (t0 t1 : Int) (tu : Bool) (f : List Int) (m : Int) :
    ∃ r, p_catalog_CheckRow L i x0 x1 xu y0 y1 yu z0 z1 zu q0 q1 qu t0 t1 tu f m = some r ∧ p_spyref3_RowFault L i x0 x1 xu y0 y1 yu z0 z1 zu q0 q1 qu t0 t1 tu f m = some r ∧ (r = 0 → fault q0 q1 qu (-1125899906842624) 1125899906842624 = 0 ∧ 0 ≤ m ∧ m ≤ 3) := by
  unfold p_catalog_CheckRow p_spyref3_RowFault
  by_cases k1 : i < 1
  · rw [if_pos k1, if_pos k1]; exact ⟨4, rfl, rfl, by omega⟩
  rw [if_neg k1, if_neg k1]
  by_cases k2 : i > 2147483647
  · rw [if_pos k2, if_pos (show i ≥ 2147483648 by omega)]; exact ⟨4, rfl, rfl, by omega⟩
  rw [if_neg k2, if_neg (show ¬ i ≥ 2147483648 by omega), bf_c, bnd_s, bf_c, bnd_s, bf_c, bnd_s, fault_eq, bnd_s, bf_t, bnd_s, ends_q, ends_t, box_l0 L x0 x1 xu y0 y1 yu z0 z1 zu _ _ _ rfl rfl rfl, rq_t (show 3 < L by omega), rq_t (show 5 < L by omega), first5, bnd_s, bnd_s]
  generalize fault x0 x1 xu (-1073741824) 1073741824 = a
  generalize fault y0 y1 yu (-1073741824) 1073741824 = b
  generalize fault z0 z1 zu (-1073741824) 1073741824 = c
  generalize fault q0 q1 qu (-1125899906842624) 1125899906842624 = d
  generalize fault t0 t1 tu (-17592186044416) 17592186044416 = e
  by_cases h1 : a = 0
  case neg => rw [if_neg h1, if_neg h1]; exact ⟨a, rfl, rfl, fun h => absurd h h1⟩
  rw [if_pos h1, if_pos h1]
  by_cases h2 : b = 0
  case neg => rw [if_neg h2, if_neg h2]; exact ⟨b, rfl, rfl, fun h => absurd h h2⟩
  rw [if_pos h2, if_pos h2]
  by_cases h3 : c = 0
  case neg => rw [if_neg h3, if_neg h3]; exact ⟨c, rfl, rfl, fun h => absurd h h3⟩
  rw [if_pos h3, if_pos h3]
  simp only [bnd_s, or2 L (show 2 < L by omega), cb_d]
  by_cases h4 : d = 0
  case neg => rw [if_neg h4, if_neg h4, if_neg h4]; exact ⟨d, rfl, rfl, fun h => absurd h h4⟩
  rw [if_pos h4, if_pos h4]
  by_cases h5 : e = 0
  case neg => rw [if_neg h5, if_neg h5]; exact ⟨e, rfl, rfl, fun h => absurd h h5⟩
  rw [if_pos h5, if_pos h5]
  simp only
  by_cases h6 : (f.length : Int) = 0
  · rw [if_pos h6, if_pos h6]; exact ⟨3, rfl, rfl, by omega⟩
  rw [if_neg h6, if_neg h6]
  by_cases h7 : (f.length : Int) > 8
  · rw [if_pos h7, if_pos h7]; exact ⟨2, rfl, rfl, by omega⟩
  rw [if_neg h7, if_neg h7]
  obtain ⟨g1, o, g2, g3⟩ := frames_eq L f (by omega) f [] 0 rfl (fun q x h => by simp at h)
  simp only [List.length_nil, Int.natCast_zero] at g1 g2
  rw [rq_t (show f.length < L by omega), rq_t (show f.length < L by omega), g1, g2, bnd_s, bnd_s]
  cases o with
  | inr v => exact ⟨v, rfl, rfl, fun h => absurd h (g3 v rfl)⟩
  | inl _ =>
    simp only
    by_cases h8 : m < 0
    · rw [if_pos h8]; exact ⟨4, rfl, rfl, by omega⟩
    rw [if_neg h8]
    by_cases h9 : m > 3
    · rw [if_pos h9]; exact ⟨4, rfl, rfl, by omega⟩
    rw [if_neg h9]
    exact ⟨0, rfl, rfl, fun _ => ⟨h4, by omega, by omega⟩⟩
def Valid (x : Row) : Prop := fault x.2.2.1.1 x.2.2.1.2.1 x.2.2.1.2.2.1 (-1125899906842624) 1125899906842624 = 0 ∧ 0 ≤ x.2.2.2.2.2.1 ∧ x.2.2.2.2.2.1 ≤ 3
theorem rows_l0 (L : Nat) (hL : 300 < L) (a : List Row) (ha : a.length < 1000) : ∀ (l p : List Row), a = p ++ l → p_catalog_Check_l0 L a l (p.length : Int) = p_spyref3_RowsFault_l0 L a l (p.length : Int) ∧ ∃ o, p_spyref3_RowsFault_l0 L a l (p.length : Int) = some o ∧ (∀ v, o = .inr v → v ≠ 0) ∧ (∀ u, o = .inl u → ∀ x ∈ l, Valid x)
  | [], p, e => by rw [p_catalog_Check_l0, p_spyref3_RowsFault_l0]; exact ⟨rfl, _, rfl, (fun v h => by cases h), (fun u h x hx => by cases hx)⟩
  | x :: r, p, e => by
    have ih := rows_l0 L hL a ha r (p ++ [x]) (by rw [e]; simp)
    have hn : a.length = p.length + (r.length + 1) := by rw [e]; simp
    rw [show ((p ++ [x]).length : Int) = (p.length : Int) + 1 by simp] at ih
    obtain ⟨i1, o, i2, i3, i4⟩ := ih
    obtain ⟨v, e1, e2, e3⟩ := row_eq L hL x.1 x.2.1.1.1 x.2.1.1.2.1 x.2.1.1.2.2.1 x.2.1.2.1.1 x.2.1.2.1.2.1 x.2.1.2.1.2.2.1 x.2.1.2.2.1.1 x.2.1.2.2.1.2.1 x.2.1.2.2.1.2.2.1 x.2.2.1.1 x.2.2.1.2.1 x.2.2.1.2.2.1 x.2.2.2.1.1 x.2.2.2.1.2.1 x.2.2.2.1.2.2.1 x.2.2.2.2.1 x.2.2.2.2.2.1
    rw [p_catalog_Check_l0, p_spyref3_RowsFault_l0, e1, e2, bnd_s, bnd_s, cb_d, cb_d]
    by_cases c : v = 0
    case neg => rw [if_neg c, if_neg c]; exact ⟨rfl, _, rfl, (fun w h => by cases h; exact c), (fun u h => by cases h)⟩
    rw [if_pos c, if_pos c]
    have hv : ∀ u, o = .inl u → ∀ y ∈ x :: r, Valid y := fun u h y hy => by
      rcases List.mem_cons.1 hy with rfl | hy
      · exact e3 c
      · exact i4 u h y hy
    by_cases c3 : (p.length : Int) > 0
    · rw [if_pos c3, if_pos c3]
      obtain ⟨q, y, hq⟩ : ∃ q y, p = q ++ [y] := ⟨p.dropLast, p.getLast (by intro h; subst h; simp at c3), (List.dropLast_concat_getLast _).symm⟩
      rw [w64 (by omega), show idx a ((p.length : Int) - 1) = some y by
        rw [show ((p.length : Int) - 1) = (q.length : Int) by rw [hq]; simp, e, hq, List.append_assoc]
        exact idx_app q y _, bnd_s, bnd_s]
      by_cases c4 : x.1 ≤ y.1
      · rw [if_pos c4, if_pos (show y.1 ≥ x.1 from c4)]; exact ⟨rfl, _, rfl, (fun v h => by cases h; decide), (fun u h => by cases h)⟩
      · rw [if_neg c4, if_neg (show ¬ y.1 ≥ x.1 from c4), i1]; exact ⟨rfl, o, i2, i3, hv⟩
    · rw [if_neg c3, if_neg c3, i1]; exact ⟨rfl, o, i2, i3, hv⟩
theorem rows_eq (L : Nat) (hL : 300 < L) (a : List Row) (ha : a.length < L) : ∃ r, p_catalog_Check L a = some r ∧ p_spyref3_RowsFault L a = some r ∧ (r = 0 → a.length ≤ 200 ∧ ∀ x ∈ a, Valid x) := by
  unfold p_catalog_Check p_spyref3_RowsFault
  by_cases c : (a.length : Int) > 200
  · rw [if_pos c, if_pos c]; exact ⟨2, rfl, rfl, by omega⟩
  rw [if_neg c, if_neg c, rq_t ha, rq_t ha]
  obtain ⟨i1, o, i2, i3, i4⟩ := rows_l0 L hL a (by omega) a [] rfl
  simp only [List.length_nil, Int.natCast_zero] at i1 i2
  rw [i1, i2, bnd_s, bnd_s]
  cases o with
  | inr v => exact ⟨v, rfl, rfl, fun h => absurd h (i3 v rfl)⟩
  | inl u => exact ⟨0, rfl, rfl, fun _ => ⟨by omega, i4 u rfl⟩⟩

/-! ### the same rows -/
theorem eqg (L : Nat) : ∀ (s t p : List Int), s.length = t.length → p_slices_Equal_int_l0 L (p ++ s) (p ++ t) s.length (p.length : Int) = some (if s = t then .inl () else .inr ())
  | [], [], p, _ => by rw [if_pos rfl]; rfl
  | [], _ :: _, p, h => by simp at h
  | _ :: _, [], p, h => by simp at h
  | x :: s, y :: t, p, h => by
    rw [List.length_cons, p_slices_Equal_int_l0, idx_app, bnd_s, idx_app, bnd_s, cb_d]
    by_cases e : x = y
    · subst e
      have := eqg L s t (p ++ [x]) (by simpa using h)
      rw [if_pos rfl, show ((p.length : Int) + 1) = ((p ++ [x]).length : Int) by simp, show p ++ x :: s = (p ++ [x]) ++ s by simp, show p ++ x :: t = (p ++ [x]) ++ t by simp, this]
      by_cases e2 : s = t
      · rw [if_pos e2, if_pos (by rw [e2])]
      · rw [if_neg e2, if_neg (by intro h; exact e2 (List.cons.inj h).2)]
    · rw [if_neg e, if_neg (by intro h; exact e (List.cons.inj h).1)]
theorem eqi (L : Nat) (a b : List Int) (hl : a.length < L) (hb : a.length < 4611686018427387904) : p_slices_Equal_int L a b = some (decide (a = b)) := by
  unfold p_slices_Equal_int
  rw [cb_d]
  by_cases h : (a.length : Int) = b.length
  · have := eqg L a b [] (by omega)
    simp only [List.nil_append, List.length_nil, Int.natCast_zero] at this
    rw [if_pos h, Int.toNat_natCast, rq_t hl, rq_t (by omega), this, bnd_s]
    by_cases e : a = b
    · rw [if_pos e]; simp [e]
    · rw [if_neg e]; simp [e]
  · rw [if_neg h]
    have : a ≠ b := by intro e; subst e; exact h rfl
    simp [this]
theorem cb_perm (d1 b1 b2 b3 d5 e : Bool) : cb d1 (cb b1 (cb b2 (cb b3 (cb d5 (some e) (some false)) (some false)) (some false)) (some false)) (some false) = cb e (cb d1 (cb b1 (cb b2 (cb b3 (some d5) (some false)) (some false)) (some false)) (some false)) (some false) := by
  cases d1 <;> cases b1 <;> cases b2 <;> cases b3 <;> cases d5 <;> cases e <;> rfl
theorem cb_some (d : Bool) : ∃ r, cb d (some true) (some false) = some r := ⟨d, by cases d <;> rfl⟩
theorem same_eq (L : Nat) (x y : Row) (hl : x.2.2.2.2.1.length < L) (hb : x.2.2.2.2.1.length < 4611686018427387904) : ∃ r, p_catalog_Same L x.1 x.2.1.1.1 x.2.1.1.2.1 x.2.1.1.2.2.1 x.2.1.2.1.1 x.2.1.2.1.2.1 x.2.1.2.1.2.2.1 x.2.1.2.2.1.1 x.2.1.2.2.1.2.1 x.2.1.2.2.1.2.2.1 x.2.2.1.1 x.2.2.1.2.1 x.2.2.1.2.2.1 x.2.2.2.1.1 x.2.2.2.1.2.1 x.2.2.2.1.2.2.1 x.2.2.2.2.1 x.2.2.2.2.2.1 y.1 y.2.1.1.1 y.2.1.1.2.1 y.2.1.1.2.2.1 y.2.1.2.1.1 y.2.1.2.1.2.1 y.2.1.2.1.2.2.1 y.2.1.2.2.1.1 y.2.1.2.2.1.2.1 y.2.1.2.2.1.2.2.1 y.2.2.1.1 y.2.2.1.2.1 y.2.2.1.2.2.1 y.2.2.2.1.1 y.2.2.2.1.2.1 y.2.2.2.1.2.2.1 y.2.2.2.2.1 y.2.2.2.2.2.1 = some r ∧ p_spyref3_SameRow L x.1 x.2.1.1.1 x.2.1.1.2.1 x.2.1.1.2.2.1 x.2.1.2.1.1 x.2.1.2.1.2.1 x.2.1.2.1.2.2.1 x.2.1.2.2.1.1 x.2.1.2.2.1.2.1 x.2.1.2.2.1.2.2.1 x.2.2.1.1 x.2.2.1.2.1 x.2.2.1.2.2.1 x.2.2.2.1.1 x.2.2.2.1.2.1 x.2.2.2.1.2.2.1 x.2.2.2.2.1 x.2.2.2.2.2.1 y.1 y.2.1.1.1 y.2.1.1.2.1 y.2.1.1.2.2.1 y.2.1.2.1.1 y.2.1.2.1.2.1 y.2.1.2.1.2.2.1 y.2.1.2.2.1.1 y.2.1.2.2.1.2.1 y.2.1.2.2.1.2.2.1 y.2.2.1.1 y.2.2.1.2.1 y.2.2.1.2.2.1 y.2.2.2.1.1 y.2.2.2.1.2.1 y.2.2.2.1.2.2.1 y.2.2.2.2.1 y.2.2.2.2.2.1 = some r := by
  have h : p_catalog_Same L x.1 x.2.1.1.1 x.2.1.1.2.1 x.2.1.1.2.2.1 x.2.1.2.1.1 x.2.1.2.1.2.1 x.2.1.2.1.2.2.1 x.2.1.2.2.1.1 x.2.1.2.2.1.2.1 x.2.1.2.2.1.2.2.1 x.2.2.1.1 x.2.2.1.2.1 x.2.2.1.2.2.1 x.2.2.2.1.1 x.2.2.2.1.2.1 x.2.2.2.1.2.2.1 x.2.2.2.2.1 x.2.2.2.2.2.1 y.1 y.2.1.1.1 y.2.1.1.2.1 y.2.1.1.2.2.1 y.2.1.2.1.1 y.2.1.2.1.2.1 y.2.1.2.1.2.2.1 y.2.1.2.2.1.1 y.2.1.2.2.1.2.1 y.2.1.2.2.1.2.2.1 y.2.2.1.1 y.2.2.1.2.1 y.2.2.1.2.2.1 y.2.2.2.1.1 y.2.2.2.1.2.1 y.2.2.2.1.2.2.1 y.2.2.2.2.1 y.2.2.2.2.2.1 = p_spyref3_SameRow L x.1 x.2.1.1.1 x.2.1.1.2.1 x.2.1.1.2.2.1 x.2.1.2.1.1 x.2.1.2.1.2.1 x.2.1.2.1.2.2.1 x.2.1.2.2.1.1 x.2.1.2.2.1.2.1 x.2.1.2.2.1.2.2.1 x.2.2.1.1 x.2.2.1.2.1 x.2.2.1.2.2.1 x.2.2.2.1.1 x.2.2.2.1.2.1 x.2.2.2.1.2.2.1 x.2.2.2.2.1 x.2.2.2.2.2.1 y.1 y.2.1.1.1 y.2.1.1.2.1 y.2.1.1.2.2.1 y.2.1.2.1.1 y.2.1.2.1.2.1 y.2.1.2.1.2.2.1 y.2.1.2.2.1.1 y.2.1.2.2.1.2.1 y.2.1.2.2.1.2.2.1 y.2.2.1.1 y.2.2.1.2.1 y.2.2.1.2.2.1 y.2.2.2.1.1 y.2.2.2.1.2.1 y.2.2.2.1.2.2.1 y.2.2.2.2.1 y.2.2.2.2.2.1 := by
    unfold p_catalog_Same p_spyref3_SameRow
    rw [eqi L _ _ hl hb, bnd_s, bnd_s]
    exact cb_perm _ _ _ _ _ _
  rw [← h]
  have : ∃ r, p_catalog_Same L x.1 x.2.1.1.1 x.2.1.1.2.1 x.2.1.1.2.2.1 x.2.1.2.1.1 x.2.1.2.1.2.1 x.2.1.2.1.2.2.1 x.2.1.2.2.1.1 x.2.1.2.2.1.2.1 x.2.1.2.2.1.2.2.1 x.2.2.1.1 x.2.2.1.2.1 x.2.2.1.2.2.1 x.2.2.2.1.1 x.2.2.2.1.2.1 x.2.2.2.1.2.2.1 x.2.2.2.2.1 x.2.2.2.2.2.1 y.1 y.2.1.1.1 y.2.1.1.2.1 y.2.1.1.2.2.1 y.2.1.2.1.1 y.2.1.2.1.2.1 y.2.1.2.1.2.2.1 y.2.1.2.2.1.1 y.2.1.2.2.1.2.1 y.2.1.2.2.1.2.2.1 y.2.2.1.1 y.2.2.1.2.1 y.2.2.1.2.2.1 y.2.2.2.1.1 y.2.2.2.1.2.1 y.2.2.2.1.2.2.1 y.2.2.2.2.1 y.2.2.2.2.2.1 = some r := by
    unfold p_catalog_Same
    rw [eqi L _ _ hl hb, bnd_s]
    simp only [cb_v]
    repeat' split
    all_goals exact ⟨_, rfl⟩
  obtain ⟨r, hr⟩ := this
  exact ⟨r, hr, hr⟩
theorem self_eq (L : Nat) (x : Row) (hl : x.2.2.2.2.1.length < L) (hb : x.2.2.2.2.1.length < 4611686018427387904) : p_catalog_Same L x.1 x.2.1.1.1 x.2.1.1.2.1 x.2.1.1.2.2.1 x.2.1.2.1.1 x.2.1.2.1.2.1 x.2.1.2.1.2.2.1 x.2.1.2.2.1.1 x.2.1.2.2.1.2.1 x.2.1.2.2.1.2.2.1 x.2.2.1.1 x.2.2.1.2.1 x.2.2.1.2.2.1 x.2.2.2.1.1 x.2.2.2.1.2.1 x.2.2.2.1.2.2.1 x.2.2.2.2.1 x.2.2.2.2.2.1 x.1 x.2.1.1.1 x.2.1.1.2.1 x.2.1.1.2.2.1 x.2.1.2.1.1 x.2.1.2.1.2.1 x.2.1.2.1.2.2.1 x.2.1.2.2.1.1 x.2.1.2.2.1.2.1 x.2.1.2.2.1.2.2.1 x.2.2.1.1 x.2.2.1.2.1 x.2.2.1.2.2.1 x.2.2.2.1.1 x.2.2.2.1.2.1 x.2.2.2.1.2.2.1 x.2.2.2.2.1 x.2.2.2.2.2.1 = some true := by
  unfold p_catalog_Same
  rw [eqi L _ _ hl hb, bnd_s]
  simp [cb]
theorem selfR_eq (L : Nat) (x : Row) (hl : x.2.2.2.2.1.length < L) (hb : x.2.2.2.2.1.length < 4611686018427387904) : p_spyref3_SameRow L x.1 x.2.1.1.1 x.2.1.1.2.1 x.2.1.1.2.2.1 x.2.1.2.1.1 x.2.1.2.1.2.1 x.2.1.2.1.2.2.1 x.2.1.2.2.1.1 x.2.1.2.2.1.2.1 x.2.1.2.2.1.2.2.1 x.2.2.1.1 x.2.2.1.2.1 x.2.2.1.2.2.1 x.2.2.2.1.1 x.2.2.2.1.2.1 x.2.2.2.1.2.2.1 x.2.2.2.2.1 x.2.2.2.2.2.1 x.1 x.2.1.1.1 x.2.1.1.2.1 x.2.1.1.2.2.1 x.2.1.2.1.1 x.2.1.2.1.2.1 x.2.1.2.1.2.2.1 x.2.1.2.2.1.1 x.2.1.2.2.1.2.1 x.2.1.2.2.1.2.2.1 x.2.2.1.1 x.2.2.1.2.1 x.2.2.1.2.2.1 x.2.2.2.1.1 x.2.2.2.1.2.1 x.2.2.2.1.2.2.1 x.2.2.2.2.1 x.2.2.2.2.2.1 = some true := by
  obtain ⟨r, h1, h2⟩ := same_eq L x x hl hb
  rw [self_eq L x hl hb] at h1
  rw [h2, ← h1]
theorem same_l (L : Nat) (a : List Row) (h : ∀ x ∈ a, x.2.2.2.2.1.length < L ∧ x.2.2.2.2.1.length < 4611686018427387904) : ∀ (s p : List Row), a = p ++ s → p_spyref3_SameRows_l0 L a s (p.length : Int) = some (.inl ())
  | [], p, _ => rfl
  | x :: s, p, e => by
    have := same_l L a h s (p ++ [x]) (by simp [e])
    have hx := h x (by simp [e])
    rw [p_spyref3_SameRows_l0, show idx a (p.length : Int) = some x by rw [e]; exact idx_app _ _ _, bnd_s, selfR_eq L x hx.1 hx.2, bnd_s, cb_t, show ((p.length : Int) + 1) = ((p ++ [x]).length : Int) by simp, this]
theorem rowsSame (L : Nat) (a : List Row) (hl : a.length < L) (h : ∀ x ∈ a, x.2.2.2.2.1.length < L ∧ x.2.2.2.2.1.length < 4611686018427387904) : p_spyref3_SameRows L a a = some true := by
  have := same_l L a h a [] rfl
  simp only [List.length_nil, Int.natCast_zero] at this
  unfold p_spyref3_SameRows
  rw [decide_eq_true rfl, cb_t, rq_t hl, this]; rfl
/-! ### copies -/
theorem clone_eq (L : Nat) (l : List Int) (h : l.length * 8 ≤ 140737488355328) : p_slices_Clone_int L l = some l := by
  unfold p_slices_Clone_int
  rw [cb_d]
  by_cases c : l.length = 0
  · rw [if_pos c]
  · rw [if_neg c, rq_t (by rw [maxRow_v]; omega), rq_t (by rw [maxRow_v]; omega)]
theorem copy_l (L : Nat) (a : List Row) (h : ∀ x ∈ a, x.2.2.2.2.1.length * 8 ≤ 140737488355328) : ∀ (s p : List Row), a = p ++ s → p_catalog_Copy_l1 L s.length (p.length : Int) a = some a
  | [], p, _ => rfl
  | x :: s, p, e => by
    have := copy_l L a h s (p ++ [x]) (by simp [e])
    have hx := h x (by simp [e])
    have hset : a.set p.length x = a := by rw [e]; simp
    rw [List.length_cons, p_catalog_Copy_l1, show idx a (p.length : Int) = some x by rw [e]; exact idx_app _ _ _, bnd_s, clone_eq L _ hx, bnd_s, Int.toNat_natCast]
    rw [show a.set p.length (x.1, x.2.1, x.2.2.1, x.2.2.2.1, x.2.2.2.2.1, x.2.2.2.2.2.1, ()) = a from hset, show ((p.length : Int) + 1) = ((p ++ [x]).length : Int) by simp, this]
theorem copy_eq (L : Nat) (a : List Row) (hl : a.length < L) (hs : a.length * 160 ≤ 140737488355328) (h : ∀ x ∈ a, x.2.2.2.2.1.length * 8 ≤ 140737488355328) : p_catalog_Copy L a = some a := by
  unfold p_catalog_Copy
  rw [cb_d]
  by_cases c : a.length = 0
  · have : a = [] := List.eq_nil_of_length_eq_zero c
    subst this
    rw [if_pos c, rq_t (by simpa using hl), rq_t (by simp)]; rfl
  · have := copy_l L a h a [] rfl
    simp only [List.length_nil, Int.natCast_zero] at this
    rw [if_neg c, rq_t (by rw [maxRow_v]; omega), rq_t (by rw [maxRow_v]; omega), Int.toNat_natCast, rq_t hl, rq_t (by omega), this, bnd_s]
theorem law_l (L : Nat) (hL : 300 < L) (a : List Row) (h : ∀ x ∈ a, x.2.2.2.2.1.length < L ∧ x.2.2.2.2.1.length < 4611686018427387904) : ∀ (s p : List Row), a = p ++ s → p_spylaw3_CatalogRows_l0 L a s = some (.inl ())
  | [], p, _ => rfl
  | x :: s, p, e => by
    have ih := law_l L hL a h s (p ++ [x]) (by simp [e])
    have hx := h x (by simp [e])
    obtain ⟨y, hy⟩ : ∃ y, idx a 0 = some y := by
      cases a with
      | nil => simp at e
      | cons y r => exact ⟨y, rfl⟩
    obtain ⟨v, e1, e2, e3⟩ := row_eq L hL x.1 x.2.1.1.1 x.2.1.1.2.1 x.2.1.1.2.2.1 x.2.1.2.1.1 x.2.1.2.1.2.1 x.2.1.2.1.2.2.1 x.2.1.2.2.1.1 x.2.1.2.2.1.2.1 x.2.1.2.2.1.2.2.1 x.2.2.1.1 x.2.2.1.2.1 x.2.2.1.2.2.1 x.2.2.2.1.1 x.2.2.2.1.2.1 x.2.2.2.1.2.2.1 x.2.2.2.2.1 x.2.2.2.2.2.1
    obtain ⟨r, f1, f2⟩ := same_eq L x y hx.1 hx.2
    rw [p_spylaw3_CatalogRows_l0, e1, bnd_s, e2, bnd_s, decide_eq_true rfl, cb_t, hy, bnd_s, f1, bnd_s, f2, bnd_s, beq_self_eq_true, cb_t, self_eq L x hx.1 hx.2, bnd_s, cb_t, ih]
theorem top (a0 : List (Int × ((Int × Int × Bool × Unit) × (Int × Int × Bool × Unit) × (Int × Int × Bool × Unit) × Unit) × (Int × Int × Bool × Unit) × (Int × Int × Bool × Unit) × List Int × Int × Unit)) (h0 : a0.length * 160 ≤ 140737488351232 ∧ ∀ y ∈ a0, ((Lit.int .i64 y.1).wf = true) ∧ ((((Lit.int .i64 y.2.1.1.1).wf = true) ∧ ((Lit.int .i64 y.2.1.1.2.1).wf = true) ∧ (True) ∧ True) ∧ (((Lit.int .i64 y.2.1.2.1.1).wf = true) ∧ ((Lit.int .i64 y.2.1.2.1.2.1).wf = true) ∧ (True) ∧ True) ∧ (((Lit.int .i64 y.2.1.2.2.1.1).wf = true) ∧ ((Lit.int .i64 y.2.1.2.2.1.2.1).wf = true) ∧ (True) ∧ True) ∧ True) ∧ (((Lit.int .i64 y.2.2.1.1).wf = true) ∧ ((Lit.int .i64 y.2.2.1.2.1).wf = true) ∧ (True) ∧ True) ∧ (((Lit.int .i64 y.2.2.2.1.1).wf = true) ∧ ((Lit.int .i64 y.2.2.2.1.2.1).wf = true) ∧ (True) ∧ True) ∧ (y.2.2.2.2.1.length * 8 ≤ 140737488351232 ∧ ∀ zy22221 ∈ y.2.2.2.2.1, (Lit.int .i64 zy22221).wf = true) ∧ ((Lit.int .i64 y.2.2.2.2.2.1).wf = true) ∧ True) : ∃ L, L ≤ 4611686018427387904 ∧ p_spylaw3_CatalogRows L a0 = some true := by
  obtain ⟨L, hL⟩ : ∃ L, L = 4611686018427387904 := ⟨_, rfl⟩
  refine ⟨L, by omega, ?_⟩
  have hl : a0.length < L := by have := h0.1; omega
  have hf : ∀ x ∈ a0, x.2.2.2.2.1.length * 8 ≤ 140737488355328 := fun x hx => by have := (h0.2 x hx).2.2.2.2.1.1; omega
  have hf2 : ∀ x ∈ a0, x.2.2.2.2.1.length < L ∧ x.2.2.2.2.1.length < 4611686018427387904 := fun x hx => by have := hf x hx; omega
  obtain ⟨r, e1, e2, _⟩ := rows_eq L (by omega) a0 hl
  unfold p_spylaw3_CatalogRows
  rw [show p_spylaw3_catalogs L = some true from rfl, bnd_s, cb_t, e1, bnd_s, e2, bnd_s, decide_eq_true rfl, cb_t, copy_eq L a0 hl (by have := h0.1; omega) hf, bnd_s, rowsSame L a0 hl hf2, bnd_s, cb_t, rq_t hl, law_l L (by omega) a0 hf2 a0 [] rfl]
  rfl
end Go.Proofs.Ytnojehmbiceceaa.PlCatalogRows
end
section
set_option linter.unusedVariables false
set_option linter.unusedSimpArgs false
namespace Go.Proofs.Ytnojehmbiceceaa.catalogRows
open Go.ChangeShapes Go.WideShapes Go.ChangeAt Go.RowKit
open Go.ChangeMaps (open_string shut_string)
open Go.Ev (Opens OpensF arg_agg arg_one weight_at law_calls call_of_ev ArgsOk D Fl)
theorem own : ownKnob Try.prog.godebug = none := by kernel_rfl
theorem laidOut : laidOutB Try.prog = true := by kernel_rfl
set_option maxRecDepth 100000 in
set_option maxHeartbeats 4000000 in
theorem lifted (os : Os) (started : os.Started) (H : Type) (enc : TypeId × Value → H) :
    ReturnsInHanded {} Try.checked os 10 .any (Rows.catalogRowsSpec.pre6 enc Try.prog Try.f10 Rows.catalogRowsRow.domain false) (Rows.catalogRowsSpec.post enc Try.prog Try.f10 false true false false) := by
  refine returnsInHanded_of_change_sized (C := Try.checked) own started (by kernel_rfl) Try.func10
    (ChangeSpec.witness6 (enc := enc) (C := Try.checked) false ⟨#[], #[.slice none 0 0], []⟩ 8 (by kernel_rfl) (by kernel_rfl) (by kernel_rfl) (by kernel_rfl)) ?_
  intro W base args ds gs before hval0 hW hcnd hsz0 _
  have hsz : (DataW.weightsEach Try.prog (Try.f10.params.toList ++ Rows.catalogRowsSpec.plain.varTypes Try.prog) (ds ++ gs)).all (· ≤ reachBytes) = true := hsz0
  have hval : ∀ (j : Nat) t v, Try.f10.params[j]? = some t → args[j]? = some v → Value.okWide Try.prog W .any base t v := hval0
  have hW' := hW
  obtain ⟨p, q, hA0, hV, rfl, hfz, hnd⟩ := hW
  have hA : DataW.TrodAll enc Try.prog W 0 (fun _ => true) true Try.f10.params.toList args.toList ds p := hA0
  rw [Try.params10] at hA hval hsz
  obtain ⟨v0, vs0, d0, ds0, p0, q0, hargs, rfl, rfl, h0, r0⟩ := trodAll_cons hA
  obtain ⟨rfl, rfl, rfl⟩ := trodAll_nil r0
  obtain rfl : args = #[v0] := by cases args; simp_all
  obtain ⟨rfl, rfl⟩ := trodVars_none hV
  obtain ⟨A0, len0, c0, rfl⟩ := okWide_slice Try.underlying70 (hval 0 70 v0 rfl rfl)
  have k0_ := h0
  have lt0 : ∀ x ∈ p0, x.block < W.heap.size := by obtain ⟨m, hm⟩ := k0_; exact DataW.trod_lt m _ _ _ hm
  obtain ⟨fuel0, hf0⟩ := h0
  obtain ⟨a0, hK0, hw0⟩ := (Opens.slice (B := 160) Try.underlying70 (of_decide_eq_true (by kernel_rfl)) (by kernel_rfl) (Opens.struct Try.underlying89 (by kernel_rfl) (OpensF.cons rfl (Opens.int Try.underlying3) (OpensF.cons rfl (Opens.struct Try.underlying66 (by kernel_rfl) (OpensF.cons rfl (Opens.struct Try.underlying64 (by kernel_rfl) (OpensF.cons rfl (Opens.int Try.underlying62) (OpensF.cons rfl (Opens.int Try.underlying62) (OpensF.cons rfl (Opens.bool Try.underlying4) OpensF.nil)))) (OpensF.cons rfl (Opens.struct Try.underlying64 (by kernel_rfl) (OpensF.cons rfl (Opens.int Try.underlying62) (OpensF.cons rfl (Opens.int Try.underlying62) (OpensF.cons rfl (Opens.bool Try.underlying4) OpensF.nil)))) (OpensF.cons rfl (Opens.struct Try.underlying64 (by kernel_rfl) (OpensF.cons rfl (Opens.int Try.underlying62) (OpensF.cons rfl (Opens.int Try.underlying62) (OpensF.cons rfl (Opens.bool Try.underlying4) OpensF.nil)))) OpensF.nil)))) (OpensF.cons rfl (Opens.struct Try.underlying35 (by kernel_rfl) (OpensF.cons rfl (Opens.int Try.underlying24) (OpensF.cons rfl (Opens.int Try.underlying24) (OpensF.cons rfl (Opens.bool Try.underlying4) OpensF.nil)))) (OpensF.cons rfl (Opens.struct Try.underlying87 (by kernel_rfl) (OpensF.cons rfl (Opens.int Try.underlying72) (OpensF.cons rfl (Opens.int Try.underlying72) (OpensF.cons rfl (Opens.bool Try.underlying4) OpensF.nil)))) (OpensF.cons rfl (Opens.slice (B := 8) Try.underlying22 (of_decide_eq_true (by kernel_rfl)) (by kernel_rfl) (Opens.int Try.underlying3)) (OpensF.cons rfl (Opens.int Try.underlying3) OpensF.nil)))))))) enc W fuel0 _ _ hf0 (weight_at hsz (j := 0) rfl rfl)
  clear hA0 hval0 hsz0 hsz
  obtain ⟨L, hL, hp⟩ := PlCatalogRows.top a0 hw0
  have ht := P.e_spylaw3_CatalogRows L hL a0 true hp
  have hok : ArgsOk Try.prog (Go.Ev.Old W) W [D.sl 89 (a0.map (fun ya0 : Int × ((Int × Int × Bool × Unit) × (Int × Int × Bool × Unit) × (Int × Int × Bool × Unit) × Unit) × (Int × Int × Bool × Unit) × (Int × Int × Bool × Unit) × List Int × Int × Unit => D.agg 89 [.int .i64 ya0.1, D.agg 66 [D.agg 64 [.int .i64 ya0.2.1.1.1, .int .i64 ya0.2.1.1.2.1, .bool ya0.2.1.1.2.2.1], D.agg 64 [.int .i64 ya0.2.1.2.1.1, .int .i64 ya0.2.1.2.1.2.1, .bool ya0.2.1.2.1.2.2.1], D.agg 64 [.int .i64 ya0.2.1.2.2.1.1, .int .i64 ya0.2.1.2.2.1.2.1, .bool ya0.2.1.2.2.1.2.2.1]], D.agg 35 [.int .i64 ya0.2.2.1.1, .int .i64 ya0.2.2.1.2.1, .bool ya0.2.2.1.2.2.1], D.agg 87 [.int .i64 ya0.2.2.2.1.1, .int .i64 ya0.2.2.2.1.2.1, .bool ya0.2.2.2.1.2.2.1], D.sl 3 (ya0.2.2.2.2.1.map (.int .i64)), .int .i64 ya0.2.2.2.2.2.1]))] [(.slice A0 len0 c0 : Value)] := fun σ st => ⟨_, _, rfl, arg_one rfl hK0, rfl⟩
  refine (law_calls Try.func10 (by kernel_rfl) (by kernel_rfl) (call_of_ev Ty.mixed (P.Go_spylaw3_CatalogRows L hL) (P.To_spylaw3_CatalogRows L) ht (fun _ h => h) hok)).mono fun e W' ⟨he, bel⟩ => ?_
  subst he
  exact ⟨_, rfl, _, _, _, [], _, [], hW', trodAll_mk1 (shut_bool Try.underlying4 _), (trodAll_cons_mk (Below.trod laidOut (by kernel_rfl) (of_decide_eq_true (by kernel_rfl)) k0_ bel lt0) trodAll_mk0), rfl, bel.frame _, fun h => by cases h⟩
theorem over : Rows.catalogRowsRow.holds Try.pinned (OpenSpec.ofChange Rows.catalogRowsSpec) :=
  OpenClaim.holds_of_wide 10 Try.f10 rfl rfl rfl rfl rfl rfl rfl ⟨rfl, rfl, rfl, rfl, rfl⟩ rfl rfl rfl rfl rfl (by kernel_rfl) Try.func10 (by kernel_rfl)
    (of_decide_eq_true (by kernel_rfl)) (by unfold Func.isWrapper; first | (rw [if_pos (by decide +kernel)]; kernel_rfl) | (rw [if_neg (by decide +kernel)]; exact ⟨rfl, rfl⟩))
    (fun os started H enc _ => lifted os started H enc)
theorem proved : Rows.CatalogRowsSaid := over
#print axioms proved
end Go.Proofs.Ytnojehmbiceceaa.catalogRows
namespace Go.Proofs.Ytnojehmbiceceaa
/-- The row, under a short name, for the claim. -/
theorem catalogRows_holds : Rows.CatalogRowsSaid := catalogRows.proved
end Go.Proofs.Ytnojehmbiceceaa
end
