/- The law MasterHolds: Counted and Held answer as the reference says, for all cameras, biases and frames. No conditions. -/
import Derived.Test.YtjplkbeolakbjaaSayMasterHolds
import Derived.Test.YtjplkbeolakbjaaHeldHolds
set_option linter.unusedVariables false
set_option linter.unusedSimpArgs false
namespace Go.Proofs.Ytjplkbeolakbjaa.Pure
open Go.RowKit Go.Proofs.Ytjplkbeolakbjaa.PHolds Go.Proofs.YtjplkbeolakbjaaW.PrintWords Go.Proofs.YtjplkbeolakbjaaW.PrintLast Go.Proofs.YtjplkbeolakbjaaW.PrintMore

theorem masters_200 : spylaw3_masters.f 200 = some true := by kernel_rfl
/-- A bound of quanta. -/
def mkq (p : Int × Int × Bool) : S43 := ⟨p.1, p.2.1, p.2.2⟩
section
variable (w h : Nat) (full gain noise : Int) (b : List S41) (cs : List Int)
/-- What cell i held. -/
def hat (i : Nat) : Int × Int × Bool := had w h full gain noise (b.getD i z41).f0 (b.getD i z41).f1 (b.getD i z41).f2 (cs.getD i 0)
/-- May cell i be full? -/
def fat (i : Nat) : Bool := (hat w h full gain noise b cs i).2.2 || decide ((hat w h full gain noise b cs i).2.1 ≥ full)
/-- The bound of cell i of n. -/
def bat (n i : Nat) : S43 :=
  if fat w h full gain noise b cs i = true ∨ (w ≤ i ∧ fat w h full gain noise b cs (i - w) = true) ∨ (i + w < n ∧ fat w h full gain noise b cs (i + w) = true) then ⟨0, 0, true⟩ else mkq (hat w h full gain noise b cs i)
end
theorem getD_set {α : Type} (l : List α) (i j : Nat) (a z : α) (h : i < l.length) : (l.set i a).getD j z = if j = i then a else l.getD j z := by
  rw [List.getD_eq_getElem?_getD, List.getD_eq_getElem?_getD, List.getElem?_set]
  by_cases e : i = j
  · subst e; rw [if_pos rfl, if_pos h, if_pos rfl]; rfl
  · rw [if_neg e, if_neg (fun x => e x.symm)]
theorem fat_of {w h : Nat} {full gain noise : Int} {b : List S41} {cs : List Int} {i : Nat} : fat w h full gain noise b cs i = (if (hat w h full gain noise b cs i).2.2 = true then true else decide ((hat w h full gain noise b cs i).2.1 ≥ full)) := by
  unfold fat
  cases (hat w h full gain noise b cs i).2.2 <;> simp

theorem held0 (w h : Nat) (full gain noise : Int) (b : List S41) (cs : List Int) (n : Nat) (hn : n ≤ 1024) (hb : b.length = n) (hc : cs.length = n) (k : Nat) (hk : 3 ≤ k) (d : Nat) :
    ∀ (x9 : List S43) (x10 : List Bool) (i : Nat), i + d = n → x9.length = n → x10.length = n → (∀ j, j < i → x9.getD j z43 = mkq (hat w h full gain noise b cs j)) → (∀ j, j < i → x10.getD j false = fat w h full gain noise b cs j) →
    ∃ y9 y10, y9.length = n ∧ y10.length = n ∧ (∀ j, j < n → y9.getD j z43 = mkq (hat w h full gain noise b cs j)) ∧ (∀ j, j < n → y10.getD j false = fat w h full gain noise b cs j) ∧
      master_Held.l0 (k + d + 1) b x9 x10 cs (n : Int) (i : Int) w h full gain noise = master_Held.l1 k y9 y10 (n : Int) 0 w h full gain noise := by
  induction d with
  | zero =>
    intro x9 x10 i hi h9 h10 e9 e10
    refine ⟨x9, x10, h9, h10, fun j hj => e9 j (by omega), fun j hj => e10 j (by omega), ?_⟩
    rw [master_Held.l0, if_neg (by omega), h9]
    try rfl
  | succ d ih =>
    intro x9 x10 i hi h9 h10 e9 e10
    rw [master_Held.l0, if_pos (by omega), if_pos (by omega), if_pos (by omega), if_pos (by omega), counted _ (by omega), ob, if_pos (by omega), ob, wrap_next1 (by omega) (by omega)]
    have eh : had w h full gain noise (rd_T41 b (i : Int)).f0 (rd_T41 b (i : Int)).f1 (rd_T41 b (i : Int)).f2 (rd cs (i : Int)) = hat w h full gain noise b cs i := rfl
    rw [eh]
    have er : rd_T43 (x9.set (i : Int).toNat (⟨(hat w h full gain noise b cs i).1, (hat w h full gain noise b cs i).2.1, (hat w h full gain noise b cs i).2.2⟩ : S43)) (i : Int) = mkq (hat w h full gain noise b cs i) := by
      show (x9.set i _).getD i _ = _
      rw [getD_set _ _ _ _ _ (by omega), if_pos rfl]; rfl
    rw [er]
    have step : ∀ v : Bool, v = fat w h full gain noise b cs i → ∃ y9 y10, y9.length = n ∧ y10.length = n ∧ (∀ j, j < n → y9.getD j z43 = mkq (hat w h full gain noise b cs j)) ∧ (∀ j, j < n → y10.getD j false = fat w h full gain noise b cs j) ∧
        master_Held.l0 (k + d + 1) b (x9.set (i : Int).toNat (⟨(hat w h full gain noise b cs i).1, (hat w h full gain noise b cs i).2.1, (hat w h full gain noise b cs i).2.2⟩ : S43)) (x10.set (i : Int).toNat v) cs (n : Int) ((i : Int) + 1) w h full gain noise = master_Held.l1 k y9 y10 (n : Int) 0 w h full gain noise := by
      intro v hv
      have := ih (x9.set i (⟨(hat w h full gain noise b cs i).1, (hat w h full gain noise b cs i).2.1, (hat w h full gain noise b cs i).2.2⟩ : S43)) (x10.set i v) (i + 1) (by omega) (by rw [List.length_set, h9]) (by rw [List.length_set, h10])
        (fun j hj => by
          rw [getD_set _ _ _ _ _ (by omega)]
          split
          · rename_i e; rw [e]; rfl
          · exact e9 j (by omega))
        (fun j hj => by
          rw [getD_set _ _ _ _ _ (by omega)]
          split
          · rename_i e; rw [e, hv]
          · exact e10 j (by omega))
      rw [show ((i + 1 : Nat) : Int) = (i : Int) + 1 by omega] at this
      exact this
    rw [show k + (d + 1) = k + d + 1 by omega]
    have e2 : (mkq (hat w h full gain noise b cs i)).f2 = (hat w h full gain noise b cs i).2.2 := rfl
    have e1 : (mkq (hat w h full gain noise b cs i)).f1 = (hat w h full gain noise b cs i).2.1 := rfl
    rw [e1, e2]
    by_cases cu : (hat w h full gain noise b cs i).2.2 = true
    · rw [if_pos cu, if_pos (by omega)]
      exact step true (by rw [fat_of, if_pos cu])
    · rw [if_neg cu, if_pos (by omega)]
      exact step _ (by rw [fat_of, if_neg cu])

theorem held1 (w h : Nat) (hw : 1 ≤ w ∧ w ≤ 32) (full gain noise : Int) (b : List S41) (cs : List Int) (n : Nat) (hn : n ≤ 1024) (x10 : List Bool) (h10 : x10.length = n) (e10 : ∀ j, j < n → x10.getD j false = fat w h full gain noise b cs j) (k : Nat) (d : Nat) :
    ∀ (x9 : List S43) (i : Nat), i + d = n → x9.length = n → (∀ j, j < i → x9.getD j z43 = bat w h full gain noise b cs n j) → (∀ j, i ≤ j → j < n → x9.getD j z43 = mkq (hat w h full gain noise b cs j)) →
    ∃ y9, y9.length = n ∧ (∀ j, j < n → y9.getD j z43 = bat w h full gain noise b cs n j) ∧ master_Held.l1 (k + d + 1) x9 x10 (n : Int) (i : Int) w h full gain noise = some (y9, 0) := by
  induction d with
  | zero =>
    intro x9 i hi h9 e9 f9
    refine ⟨x9, h9, fun j hj => e9 j (by omega), ?_⟩
    rw [master_Held.l1, if_neg (by omega)]
  | succ d ih =>
    intro x9 i hi h9 e9 f9
    have yes : bat w h full gain noise b cs n i = ⟨0, 0, true⟩ → ∃ y9, y9.length = n ∧ (∀ j, j < n → y9.getD j z43 = bat w h full gain noise b cs n j) ∧ master_Held.l1 (k + d + 1) (x9.set (i : Int).toNat (⟨0, 0, true⟩ : S43)) x10 (n : Int) ((i : Int) + 1) w h full gain noise = some (y9, 0) := by
      intro hy
      have := ih (x9.set i ⟨0, 0, true⟩) (i + 1) (by omega) (by rw [List.length_set, h9])
        (fun j hj => by
          rw [getD_set _ _ _ _ _ (by omega)]
          split
          · rename_i e; rw [e, hy]
          · exact e9 j (by omega))
        (fun j hj hj2 => by
          rw [getD_set _ _ _ _ _ (by omega), if_neg (by omega)]
          exact f9 j (by omega) hj2)
      rw [show ((i + 1 : Nat) : Int) = (i : Int) + 1 by omega] at this
      exact this
    have nay : bat w h full gain noise b cs n i = mkq (hat w h full gain noise b cs i) → ∃ y9, y9.length = n ∧ (∀ j, j < n → y9.getD j z43 = bat w h full gain noise b cs n j) ∧ master_Held.l1 (k + d + 1) x9 x10 (n : Int) ((i : Int) + 1) w h full gain noise = some (y9, 0) := by
      intro hy
      have := ih x9 (i + 1) (by omega) h9
        (fun j hj => by
          by_cases e : j = i
          · rw [e, hy]; exact f9 i (by omega) (by omega)
          · exact e9 j (by omega))
        (fun j hj hj2 => f9 j (by omega) hj2)
      rw [show ((i + 1 : Nat) : Int) = (i : Int) + 1 by omega] at this
      exact this
    rw [show k + (d + 1) + 1 = k + d + 1 + 1 by omega, master_Held.l1, if_pos (by omega), if_pos (by omega), if_pos (by omega), wrap_next1 (by omega) (by omega), w64_id (n := (i : Int) - w) (by omega) (by omega), w64_id (n := (i : Int) + w) (by omega) (by omega)]
    unfold bound_None__Quanta.f
    rw [show rdOf false x10 (i : Int) = fat w h full gain noise b cs i from e10 i (by omega)]
    by_cases c1 : fat w h full gain noise b cs i = true
    · rw [if_pos c1, ob, if_pos (by omega)]
      exact yes (by unfold bat; rw [if_pos (.inl c1)])
    · rw [if_neg c1]
      have low : (w ≤ i ∧ fat w h full gain noise b cs (i - w) = true) ∨ ¬ (w ≤ i ∧ fat w h full gain noise b cs (i - w) = true) := Classical.em _
      have rest : ¬ (w ≤ i ∧ fat w h full gain noise b cs (i - w) = true) → ∃ y9, y9.length = n ∧ (∀ j, j < n → y9.getD j z43 = bat w h full gain noise b cs n j) ∧ (if (i : Int) + w < (x9.length : Int) then (if 0 ≤ (i : Int) + w then (if (i : Int) + w < (x10.length : Int) then (if rdOf false x10 ((i : Int) + w) = true then ((some ((0, 0, true) : Int × Int × Bool)).bind fun bt => (if (i : Int) < (x9.length : Int) then (master_Held.l1 (k + d + 1) (x9.set (i : Int).toNat (⟨bt.1, bt.2.1, bt.2.2⟩ : S43)) x10 (n : Int) ((i : Int) + 1) w h full gain noise) else none)) else (master_Held.l1 (k + d + 1) x9 x10 (n : Int) ((i : Int) + 1) w h full gain noise)) else none) else none) else (master_Held.l1 (k + d + 1) x9 x10 (n : Int) ((i : Int) + 1) w h full gain noise)) = some (y9, 0) := by
        intro hlow
        by_cases c3 : i + w < n
        · rw [if_pos (by omega), if_pos (by omega), if_pos (by omega), show rdOf false x10 ((i : Int) + w) = fat w h full gain noise b cs (i + w) from (by rw [show ((i : Int) + w) = ((i + w : Nat) : Int) by omega]; exact e10 (i + w) c3)]
          by_cases c4 : fat w h full gain noise b cs (i + w) = true
          · rw [if_pos c4, ob, if_pos (by omega)]
            exact yes (by unfold bat; rw [if_pos (.inr (.inr ⟨c3, c4⟩))])
          · rw [if_neg c4]
            exact nay (by unfold bat; rw [if_neg (fun x => x.elim c1 (fun y => y.elim hlow (fun z => c4 z.2)))])
        · rw [if_neg (by omega)]
          exact nay (by unfold bat; rw [if_neg (fun x => x.elim c1 (fun y => y.elim hlow (fun z => c3 z.1)))])
      by_cases c2 : w ≤ i
      · rw [if_pos (by omega), if_pos (by omega), if_pos (by omega), show rdOf false x10 ((i : Int) - w) = fat w h full gain noise b cs (i - w) from (by rw [show ((i : Int) - w) = ((i - w : Nat) : Int) by omega]; exact e10 (i - w) (by omega))]
        by_cases c4 : fat w h full gain noise b cs (i - w) = true
        · rw [if_pos c4, ob, if_pos (by omega)]
          exact yes (by unfold bat; rw [if_pos (.inr (.inl ⟨c2, c4⟩))])
        · rw [if_neg c4]
          exact rest (fun x => c4 x.2)
      · rw [if_neg (by omega)]
        exact rest (fun x => c2 x.1)
/-- The bounds of all cells. -/
theorem held_all (w h : Nat) (hw : 1 ≤ w ∧ w ≤ 32) (full gain noise : Int) (b : List S41) (cs : List Int) (n : Nat) (hn : n ≤ 1024) (hb : b.length = n) (hc : cs.length = n) (K : Nat) (hK : n + 4 ≤ K) :
    master_Held.l0 (K + n + 1) b (List.replicate n z43) (List.replicate n false) cs (n : Int) 0 w h full gain noise = some ((List.range n).map (bat w h full gain noise b cs n), 0) := by
  obtain ⟨y9, y10, l9, l10, e9, e10, e⟩ := held0 w h full gain noise b cs n hn hb hc K (by omega) n (List.replicate n z43) (List.replicate n false) 0 (by omega) (by simp) (by simp) (fun j hj => by omega) (fun j hj => by omega)
  obtain ⟨z9, m9, f9, e'⟩ := held1 w h hw full gain noise b cs n hn y10 l10 e10 (K - n - 1) n y9 0 (by omega) l9 (fun j hj => by omega) (fun j _ hj => e9 j hj)
  rw [show K - n - 1 + n + 1 = K by omega] at e'
  refine e.trans (e'.trans ?_)
  rw [show z9 = (List.range n).map (bat w h full gain noise b cs n) from ?_]
  apply List.ext_getElem
  · simp [m9]
  · intro i h1 h2
    have := f9 i (by omega)
    rw [List.getD_eq_getElem?_getD, List.getElem?_eq_getElem h1] at this
    simpa using this

/-! ### the reference -/
theorem full_in (k : Nat) (hk : 1 ≤ k) (w h : Nat) (hw : 1 ≤ w ∧ w ≤ 32) (hh : 1 ≤ h ∧ h ≤ 32) (full gain noise : Int) (b : List S41) (cs : List Int) (hb : b.length = h * w) (hc : cs.length = h * w) (p q : Int) (tags : List S182) (x y : Nat) (hx : x < w) (hy : y < h) :
    spyref3_AllHad_1.f k (x : Int) (y : Int) w h full gain noise b p q tags cs = some (fat w h full gain noise b cs (y * w + x)) := by
  have hy2 : y * w + w ≤ h * w := by have := Nat.mul_le_mul_right w (show y + 1 ≤ h by omega); rw [Nat.add_mul, Nat.one_mul] at this; exact this
  have hm : h * w ≤ 1024 := Nat.le_trans (Nat.mul_le_mul hh.2 hw.2) (by decide)
  have e1 : (y : Int) * (w : Int) = ((y * w : Nat) : Int) := by rw [Int.natCast_mul]
  unfold spyref3_AllHad_1.f
  rw [if_neg (by omega), if_neg (by omega), e1, w64_id (n := ((y * w : Nat) : Int)) (by omega) (by omega), w64_id (n := ((y * w : Nat) : Int) + x) (by omega) (by omega), if_pos (by omega), if_pos (by omega), if_pos (by omega), show ((y * w : Nat) : Int) + x = ((y * w + x : Nat) : Int) by omega, had_ref k hk, ob]
  have eh : had w h full gain noise (rd_T41 b ((y * w + x : Nat) : Int)).f0 (rd_T41 b ((y * w + x : Nat) : Int)).f1 (rd_T41 b ((y * w + x : Nat) : Int)).f2 (rd cs ((y * w + x : Nat) : Int)) = hat w h full gain noise b cs (y * w + x) := rfl
  rw [eh, fat_of]
  by_cases cu : (hat w h full gain noise b cs (y * w + x)).2.2 = true
  · rw [if_pos cu, if_pos cu]
  · rw [if_neg cu, if_neg cu]
theorem full_low (k : Nat) (w h : Nat) (full gain noise : Int) (b : List S41) (cs : List Int) (p q : Int) (tags : List S182) (x y : Int) (hy : y < 0) :
    spyref3_AllHad_1.f k x y w h full gain noise b p q tags cs = some false := by unfold spyref3_AllHad_1.f; rw [if_pos hy]
theorem full_high (k : Nat) (w h : Nat) (full gain noise : Int) (b : List S41) (cs : List Int) (p q : Int) (tags : List S182) (x y : Int) (hy : y ≥ h) :
    spyref3_AllHad_1.f k x y w h full gain noise b p q tags cs = some false := by unfold spyref3_AllHad_1.f; rw [if_neg (by omega), if_pos hy]
/-- The three tests of a cell. -/
theorem tests (w h : Nat) (hw : 1 ≤ w ∧ w ≤ 32) (hh : 1 ≤ h ∧ h ≤ 32) (full gain noise : Int) (b : List S41) (cs : List Int) (hb : b.length = h * w) (hc : cs.length = h * w) (p q : Int) (tags : List S182) (x y : Nat) (hx : x < w) (hy : y < h) :
    ∃ u v : Bool, (∀ k, 1 ≤ k → spyref3_AllHad_1.f k (x : Int) ((y : Int) - 1) w h full gain noise b p q tags cs = some u) ∧ (∀ k, 1 ≤ k → spyref3_AllHad_1.f k (x : Int) ((y : Int) + 1) w h full gain noise b p q tags cs = some v) ∧
      (bat w h full gain noise b cs (h * w) (y * w + x) = if u = true ∨ fat w h full gain noise b cs (y * w + x) = true ∨ v = true then ⟨0, 0, true⟩ else mkq (hat w h full gain noise b cs (y * w + x))) := by
  have up : w ≤ y * w + x ↔ 1 ≤ y := by
    cases y with
    | zero => rw [Nat.zero_mul]; omega
    | succ y => rw [Nat.add_mul, Nat.one_mul]; omega
  have dn : (y * w + x) + w < h * w ↔ y + 1 < h := by
    constructor
    · intro z
      rcases Nat.lt_or_ge (y + 1) h with c | c
      · exact c
      · have := Nat.mul_le_mul_right w c; rw [Nat.add_mul, Nat.one_mul] at this; omega
    · intro z
      have := Nat.mul_le_mul_right w (show y + 1 + 1 ≤ h by omega); rw [Nat.add_mul, Nat.one_mul, Nat.add_mul, Nat.one_mul] at this; omega
  refine ⟨decide (1 ≤ y) && fat w h full gain noise b cs (y * w + x - w), decide (y + 1 < h) && fat w h full gain noise b cs (y * w + x + w), ?_, ?_, ?_⟩
  · intro k hk
    cases y with
    | zero => rw [full_low _ _ _ _ _ _ _ _ _ _ _ _ _ (by omega)]; simp
    | succ y =>
      rw [show ((y + 1 : Nat) : Int) - 1 = (y : Int) by omega, full_in k hk w h hw hh full gain noise b cs hb hc p q tags x y hx (by omega)]
      rw [show (y + 1) * w + x - w = y * w + x by rw [Nat.add_mul, Nat.one_mul]; omega]
      simp
  · intro k hk
    by_cases c : y + 1 < h
    · rw [show (y : Int) + 1 = ((y + 1 : Nat) : Int) by omega, full_in k hk w h hw hh full gain noise b cs hb hc p q tags x (y + 1) hx c]
      rw [show (y + 1) * w + x = y * w + x + w by rw [Nat.add_mul, Nat.one_mul]; omega]
      simp [c]
    · rw [full_high _ _ _ _ _ _ _ _ _ _ _ _ _ (by omega)]; simp [c]
  · unfold bat
    simp only [up, dn, Bool.and_eq_true, decide_eq_true_eq]
    by_cases a : fat w h full gain noise b cs (y * w + x) = true
    · rw [if_pos (.inl a), if_pos (.inr (.inl a))]
    · by_cases c : (1 ≤ y ∧ fat w h full gain noise b cs (y * w + x - w) = true) ∨ (y + 1 < h ∧ fat w h full gain noise b cs (y * w + x + w) = true)
      · rw [if_pos (.inr c), if_pos (c.elim .inl (fun z => .inr (.inr z)))]
      · rw [if_neg (fun z => z.elim a c), if_neg (fun z => z.elim (fun z => c (.inl z)) (fun z => z.elim a (fun z => c (.inr z))))]
theorem row1 (w h : Nat) (hw : 1 ≤ w ∧ w ≤ 32) (hh : 1 ≤ h ∧ h ≤ 32) (full gain noise : Int) (b : List S41) (cs : List Int) (hb : b.length = h * w) (hc : cs.length = h * w) (p q : Int) (tags : List S182) (y : Nat) (hy : y < h) (k : Nat) (hk : 1 ≤ k) (d : Nat) : ∀ x : Nat, x + d = w →
    spyref3_AllHad.l1 (k + d + 1) ((List.range (y * w + x)).map (bat w h full gain noise b cs (h * w))) (y : Int) (h : Int) (y : Int) (w : Int) (x : Int) w h full gain noise b p q tags cs = spyref3_AllHad.l0 k ((List.range ((y + 1) * w)).map (bat w h full gain noise b cs (h * w))) (h : Int) ((y + 1 : Nat) : Int) w h full gain noise b p q tags cs := by
  have hy2 : y * w + w ≤ h * w := by have := Nat.mul_le_mul_right w (show y + 1 ≤ h by omega); rw [Nat.add_mul, Nat.one_mul] at this; exact this
  have hm : h * w ≤ 1024 := Nat.le_trans (Nat.mul_le_mul hh.2 hw.2) (by decide)
  have e1 : (y : Int) * (w : Int) = ((y * w : Nat) : Int) := by rw [Int.natCast_mul]
  induction d with
  | zero =>
    intro x hx
    rw [spyref3_AllHad.l1, if_neg (by omega), wrap_next1 (by omega) (by omega), show (y : Int) + 1 = ((y + 1 : Nat) : Int) by omega, show y * w + x = (y + 1) * w by rw [Nat.add_mul, Nat.one_mul]; omega]
    try rfl
  | succ d ih =>
    intro x hx
    obtain ⟨u, v, hu, hv, he⟩ := tests w h hw hh full gain noise b cs hb hc p q tags x y (by omega) hy
    have nxt : (List.range (y * w + x)).map (bat w h full gain noise b cs (h * w)) ++ [bat w h full gain noise b cs (h * w) (y * w + x)] = (List.range (y * w + (x + 1))).map (bat w h full gain noise b cs (h * w)) := by
      rw [show y * w + (x + 1) = y * w + x + 1 by omega, List.range_succ, List.map_append]; rfl
    have ih' := ih (x + 1) (by omega)
    rw [← nxt, show ((x + 1 : Nat) : Int) = (x : Int) + 1 by omega] at ih'
    have hl : ((List.range (y * w + x)).map (bat w h full gain noise b cs (h * w))).length < 5864062014805 := by rw [List.length_map, List.length_range]; omega
    rw [show k + (d + 1) + 1 = k + d + 1 + 1 by omega, spyref3_AllHad.l1, if_pos (by omega), w64_id (n := (y : Int) - 1) (by omega) (by omega), hu _ (by omega), ob]
    rw [he] at ih'
    rw [wrap_next1 (i := (x : Int)) (by omega) (by omega)]
    by_cases c1 : u = true
    · rw [if_pos c1, if_pos hl]
      rw [if_pos (.inl c1)] at ih'
      exact ih'
    · rw [if_neg c1, full_in _ (by omega) w h hw hh full gain noise b cs hb hc p q tags x y (by omega) hy, ob]
      by_cases c2 : fat w h full gain noise b cs (y * w + x) = true
      · rw [if_pos c2, if_pos hl]
        rw [if_pos (.inr (.inl c2))] at ih'
        exact ih'
      · rw [if_neg c2, wrap_next1 (i := (y : Int)) (by omega) (by omega), hv _ (by omega), ob]
        by_cases c3 : v = true
        · rw [if_pos c3, if_pos hl]
          rw [if_pos (.inr (.inr c3))] at ih'
          exact ih'
        · rw [if_neg (fun z => z.elim c1 (fun z => z.elim c2 c3))] at ih'
          rw [if_neg c3, e1, w64_id (n := ((y * w : Nat) : Int)) (by omega) (by omega), w64_id (n := ((y * w : Nat) : Int) + x) (by omega) (by omega), if_pos (by omega), if_pos (by omega), if_pos (by omega), show ((y * w : Nat) : Int) + x = ((y * w + x : Nat) : Int) by omega, had_ref _ (by omega), ob, if_pos hl]
          exact ih'
theorem rows0 (w h : Nat) (hw : 1 ≤ w ∧ w ≤ 32) (hh : 1 ≤ h ∧ h ≤ 32) (full gain noise : Int) (b : List S41) (cs : List Int) (hb : b.length = h * w) (hc : cs.length = h * w) (p q : Int) (tags : List S182) (e : Nat) : ∀ y : Nat, y + e = h →
    spyref3_AllHad.l0 (e * (w + 2) + 1) ((List.range (y * w)).map (bat w h full gain noise b cs (h * w))) (h : Int) (y : Int) w h full gain noise b p q tags cs = some ((List.range (h * w)).map (bat w h full gain noise b cs (h * w)), 0) := by
  induction e with
  | zero =>
    intro y hy
    rw [spyref3_AllHad.l0, if_neg (by omega), show y = h by omega]
  | succ e ih =>
    intro y hy
    rw [show (e + 1) * (w + 2) + 1 = (e * (w + 2) + 1 + w + 1) + 1 by rw [Nat.add_mul, Nat.one_mul]; omega, spyref3_AllHad.l0, if_pos (by omega)]
    have := row1 w h hw hh full gain noise b cs hb hc p q tags y (by omega) (e * (w + 2) + 1) (by omega) w 0 (by omega)
    rw [Nat.add_zero] at this
    exact this.trans (ih (y + 1) (by omega))
/-! ### the law -/
theorem same_loop (l : List S43) (hl : l.length ≤ 140737488355328) (k : Nat) (d : Nat) : ∀ i : Nat, i + d = l.length → slices_Equal__Bound_Quanta.l0 (k + d + 1) l l (l.length : Int) (i : Int) = some true := by
  induction d with
  | zero => intro i hi; rw [slices_Equal__Bound_Quanta.l0, if_neg (by omega)]
  | succ d ih =>
    intro i hi
    have := ih (i + 1) (by omega)
    rw [show ((i + 1 : Nat) : Int) = (i : Int) + 1 by omega] at this
    rw [show k + (d + 1) + 1 = k + d + 1 + 1 by omega, slices_Equal__Bound_Quanta.l0, if_pos (by omega), if_pos (by omega), if_pos (by omega), if_pos (by omega), w64_id (n := (i : Int) + 1) (by omega) (by omega), if_neg (by simp)]
    exact this
theorem same (l : List S43) (hl : l.length ≤ 140737488355328) (k : Nat) (hk : l.length + 1 ≤ k) : slices_Equal__Bound_Quanta.f k l l = some true := by
  unfold slices_Equal__Bound_Quanta.f
  rw [if_pos rfl]
  have := same_loop l hl (k - l.length - 1) l.length 0 (by omega)
  rw [show k - l.length - 1 + l.length + 1 = k by omega] at this
  exact this
theorem law_loop (w h full gain noise : Int) (b : List S41) (hb : b.length ≤ 140737488355328) (cs : List Int) (p q : Int) (tags : List S182) (l : List S43) (hl : l.length ≤ 140737488355328) (e : Int) (k : Nat) (hk : l.length + 200 ≤ k) (d : Nat) : ∀ i : Nat, i + d = b.length →
    spylaw3_MasterHolds.l0 (k + d + 1) l e l e b (b.length : Int) (i : Int) w h full gain noise p q tags cs = some true := by
  induction d with
  | zero =>
    intro i hi
    have hm := at_rounds (g := fun k => spylaw3_masters.f k) (fun k => spylaw3_masters.mono k) (show 200 ≤ k by omega) masters_200
    rw [spylaw3_MasterHolds.l0, if_neg (by omega), hm, ob, if_pos rfl, if_pos rfl, same l hl k (by omega), ob]
  | succ d ih =>
    intro i hi
    have ih' := ih (i + 1) (by omega)
    rw [show ((i + 1 : Nat) : Int) = (i : Int) + 1 by omega] at ih'
    rw [show k + (d + 1) + 1 = k + d + 1 + 1 by omega, spylaw3_MasterHolds.l0, if_pos (by omega), if_pos (by omega), if_pos (by omega), w64_id (n := (i : Int) + 1) (by omega) (by omega)]
    split
    · rw [counted _ (by omega), ob, had_ref _ (by omega), ob, if_neg (by simp)]
      exact ih'
    · exact ih'
theorem MasterHolds : MasterHoldsPure := by
  intro w' h' full gain noise b p q tags cs _ _ _ _ _ hb _ _ _ hc
  have hbl : b.length ≤ 140737488351232 := by have := hb.1; omega
  have fin : ∀ (l : List S43) (e : Int), l.length ≤ 1024 → (∃ k, master_Held.f k w' h' full gain noise b p q tags cs = some (l, e)) → (∃ k, spyref3_AllHad.f k w' h' full gain noise b p q tags cs = some (l, e)) → ∃ k, spylaw3_MasterHolds.f k w' h' full gain noise b p q tags cs = some true := by
    rintro l e hl ⟨k1, h1⟩ ⟨k2, h2⟩
    refine ⟨(k1 + k2 + l.length + 200) + b.length + 1, ?_⟩
    have h1' := at_rounds (g := fun k => master_Held.f k w' h' full gain noise b p q tags cs) (fun k => master_Held.mono _ _ _ _ _ _ _ _ _ _ k) (show k1 ≤ (k1 + k2 + l.length + 200) + b.length + 1 by omega) h1
    have h2' := at_rounds (g := fun k => spyref3_AllHad.f k w' h' full gain noise b p q tags cs) (fun k => spyref3_AllHad.mono _ _ _ _ _ _ _ _ _ _ k) (show k2 ≤ (k1 + k2 + l.length + 200) + b.length + 1 by omega) h2
    unfold spylaw3_MasterHolds.f
    rw [h1', ob, h2', ob]
    exact law_loop w' h' full gain noise b (by omega) cs p q tags l (by omega) e (k1 + k2 + l.length + 200) (by omega) b.length 0 (by omega)
  by_cases c0 : cam w' h' full gain noise = 0
  · obtain ⟨a1, a2, a3, a4, _⟩ := cam_0 c0
    obtain ⟨w, rfl⟩ : ∃ n : Nat, w' = (n : Int) := ⟨w'.toNat, by omega⟩
    obtain ⟨h, rfl⟩ : ∃ n : Nat, h' = (n : Int) := ⟨h'.toNat, by omega⟩
    have e0 : (w : Int) * (h : Int) = ((h * w : Nat) : Int) := by rw [Int.natCast_mul, Int.mul_comm]
    have hm : h * w ≤ 1024 := Nat.le_trans (Nat.mul_le_mul (show h ≤ 32 by omega) (show w ≤ 32 by omega)) (by decide)
    have e2 : wrap64 ((w : Int) * (h : Int)) = ((h * w : Nat) : Int) := by rw [e0]; exact w64_id (by omega) (by omega)
    clear e0
    have w1 : 1 ≤ w := by omega
    have w2 : w ≤ 32 := by omega
    have h1 : 1 ≤ h := by omega
    have h2 : h ≤ 32 := by omega
    by_cases c : b.length = h * w ∧ p = w ∧ q = h ∧ cs.length = h * w
    · obtain ⟨n1, rfl, rfl, n2⟩ := c
      obtain ⟨K, hK⟩ : ∃ K, K = h * w + 4 := ⟨_, rfl⟩
      refine fin ((List.range (h * w)).map (bat w h full gain noise b cs (h * w))) 0 (by rw [List.length_map, List.length_range]; exact hm) ⟨K + h * w + 1 + 1, ?_⟩ ⟨(h * (w + 2) + 1) + 1, ?_⟩
      · unfold master_Held.f
        have f1 : (b.length : Int) = ((h * w : Nat) : Int) := by rw [n1]
        have f2 : (0 : Int) ≤ (b.length : Int) := Int.natCast_nonneg _
        have f3 : ((b.length : Int) : Int).toNat = h * w := by rw [n1]; exact Int.toNat_natCast _
        have f4 : h * w ≤ 11728124029610 := Nat.le_trans hm (by decide)
        have f5 : h * w ≤ 281474976710656 := Nat.le_trans hm (by decide)
        rw [camera _ (Nat.succ_le_succ (Nat.zero_le _)), ob, c0, if_pos rfl, e2, if_pos f1, if_pos rfl, if_pos rfl, master_Held.j0, if_neg (by rw [n1, n2]; simp), if_pos f2, f3, if_pos f4, if_pos f5, n2]
        exact held_all w h ⟨w1, w2⟩ full gain noise b cs (h * w) hm n1 n2 K (Nat.le_of_eq hK.symm)
      · unfold spyref3_AllHad.f
        have f1 : (b.length : Int) = ((h * w : Nat) : Int) := by rw [n1]
        rw [camera_ref, ob, c0, if_pos rfl, e2, if_pos f1, if_pos rfl, if_pos rfl, spyref3_AllHad.j0, if_neg (by rw [n2]; simp)]
        have := rows0 w h ⟨w1, w2⟩ ⟨h1, h2⟩ full gain noise b cs n1 n2 w h tags h 0 (Nat.zero_add _)
        rw [Nat.zero_mul] at this
        exact this
    · have y1 : ∀ bb, bb = true → master_Held.j0 2 b bb w h full gain noise p q tags cs = some ([], 3) := by
        rintro bb rfl; rw [master_Held.j0, if_pos rfl]
      have y2 : ∀ bb, bb = true → spyref3_AllHad.j0 2 bb w h full gain noise b p q tags cs = some ([], 3) := by
        rintro bb rfl; rw [spyref3_AllHad.j0, if_pos rfl]
      refine fin [] 3 (by simp) ⟨2, ?_⟩ ⟨2, ?_⟩
      · unfold master_Held.f
        rw [camera _ (by omega), ob, c0, if_pos rfl, e2]
        by_cases n1 : (b.length : Int) = ((h * w : Nat) : Int)
        · rw [if_pos n1]
          by_cases n2 : p = (w : Int)
          · rw [if_pos n2]
            by_cases n3 : q = (h : Int)
            · rw [if_pos n3]
              exact y1 _ (by rw [n1, bne_iff_ne]; intro z; exact c ⟨Int.ofNat_inj.1 n1, n2, n3, Int.ofNat_inj.1 z⟩)
            · rw [if_neg n3]; exact y1 _ rfl
          · rw [if_neg n2]; exact y1 _ rfl
        · rw [if_neg n1]; exact y1 _ rfl
      · unfold spyref3_AllHad.f
        rw [camera_ref, ob, c0, if_pos rfl, e2]
        by_cases n1 : (b.length : Int) = ((h * w : Nat) : Int)
        · rw [if_pos n1]
          by_cases n2 : p = (w : Int)
          · rw [if_pos n2]
            by_cases n3 : q = (h : Int)
            · rw [if_pos n3]
              exact y2 _ (by rw [bne_iff_ne]; intro z; exact c ⟨Int.ofNat_inj.1 n1, n2, n3, Int.ofNat_inj.1 z⟩)
            · rw [if_neg n3]; exact y2 _ rfl
          · rw [if_neg n2]; exact y2 _ rfl
        · rw [if_neg n1]; exact y2 _ rfl
  · refine fin [] (cam w' h' full gain noise) (by simp) ⟨1, ?_⟩ ⟨1, ?_⟩
    · unfold master_Held.f
      rw [camera _ (by omega), ob, if_neg c0]
    · unfold spyref3_AllHad.f
      rw [camera_ref, ob, if_neg c0]
end Go.Proofs.Ytjplkbeolakbjaa.Pure
