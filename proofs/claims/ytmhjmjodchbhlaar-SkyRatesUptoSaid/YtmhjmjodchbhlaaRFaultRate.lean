/- What is wrong with a sky: plain Lean. -/
import Derived.Test.YtmhjmjodchbhlaaRTypesRate
set_option linter.unusedVariables false
set_option linter.unusedSimpArgs false
namespace Go.Proofs.YtmhjmjodchbhlaaR.FaultRate
open Go.Ev Go.Proofs.YtmhjmjodchbhlaaR.PullPull Go.Proofs.YtmhjmjodchbhlaaR.TypesRate
open Go.Proofs.YtmhjmjodchbhlaaR.PathPath (Bod bD cBod)
open Go.Proofs.YtmhjmjodchbhlaaR.Pull2Pull (okV_spec)
/-- An object of a sky. -/
inductive Thing where
  | st (s : Star)
  | ga (g : Gal)
  | bo (b : Bod)
def Thing.id : Thing → Int
  | .st s => s.id
  | .ga g => g.id
  | .bo b => b.1
def Thing.rate : Thing → Int
  | .st s => s.rate
  | .ga g => g.rate
  | .bo b => b.2.2.2
/-- The objects of a sky in order. -/
def things (s : Sky) : List Thing := s.stars.map Thing.st ++ (s.gals.map Thing.ga ++ s.bods.map Thing.bo)
/-- What is wrong with a direction. -/
def chkV (v : Vec) : Int := if okV 1048576 v = true then (if v = (0, 0, 0) then 8 else 0) else 4
def waveBad (rate q : Int) : Bool := decide (q < 0) || decide (q > 1048576 - rate)
def tickBad (t : Int) : Bool := decide (t < -17592186044416) || decide (t > 17592186044416)
def perBad (n : Nat) (p : Int) : Bool := decide (p < 1) || (decide (p > 17592186044416) || !decide (p.tmod n = 0))
def starF (s : Star) : Int :=
  if chkV s.p = 0 then (if s.wave.length > 16 then 2
    else if s.wave.length = 0 ∧ ¬ s.period = 0 then 3
    else if 0 < s.wave.length ∧ perBad s.wave.length s.period = true then 4
    else if s.wave.any (waveBad s.rate) = true then 4
    else if tickBad s.start = true ∨ tickBad s.stop = true then 4
    else if s.start > s.stop then 11 else 0) else chkV s.p
def sizeOk (k : Int) : Bool := decide (k = 1) || (decide (k = 2) || decide (k = 4))
def galF (g : Gal) : Int := if chkV g.p = 0 then (if sizeOk g.wide = true ∧ sizeOk g.high = true then 0 else 4) else chkV g.p
def bodF (b : Bod) : Int := if okV 4194304 b.2.1 = true ∧ okV 4194304 b.2.2.1 = true then 0 else 4
def own : Thing → Int
  | .st s => starF s
  | .ga g => galF g
  | .bo b => bodF b
/-- What is wrong with what all objects have. -/
def headF (seen : List Int) (id rate : Int) : Int := if id < 1 ∨ id > 1073741824 then 4 else if id ∈ seen then 7 else if rate < 0 ∨ rate > 1048576 then 4 else 0
def one (seen : List Int) (x : Thing) : Int := if headF seen x.id x.rate = 0 then own x else headF seen x.id x.rate
def faults (seen : List Int) : List Thing → Int
  | [] => 0
  | x :: r => if one seen x = 0 then faults (seen ++ [x.id]) r else one seen x
def fault (s : Sky) : Int :=
  if s.stars.length + s.gals.length + s.bods.length > 40 then 2
  else if s.back < 0 ∨ s.back > 1048576 then 4
  else if faults [] (things s) = 0 then (if ¬ s.home.1 = 0 ∨ ¬ s.home.2.2.2 = 0 then 3 else bodF s.home)
  else faults [] (things s)
theorem things_len (s : Sky) : (things s).length = s.stars.length + s.gals.length + s.bods.length := by simp [things]; omega
theorem faults_append (a b : List Thing) : ∀ seen, faults seen (a ++ b) = if faults seen a = 0 then faults (seen ++ a.map Thing.id) b else faults seen a := by
  induction a with
  | nil => intro seen; simp [faults]
  | cons x r ih =>
    intro seen
    by_cases h : one seen x = 0
    · have e1 : faults seen (x :: r) = faults (seen ++ [x.id]) r := if_pos h
      have e2 : faults seen (x :: r ++ b) = faults (seen ++ [x.id]) (r ++ b) := if_pos h
      rw [e1, e2, ih]; simp
    · have e1 : faults seen (x :: r) = one seen x := if_neg h
      have e2 : faults seen (x :: r ++ b) = one seen x := if_neg h
      rw [e1, e2, if_neg h]
theorem faults_snoc {seen : List Int} {a : List Thing} {x : Thing} (h : faults seen a = 0) : faults seen (a ++ [x]) = one (seen ++ a.map Thing.id) x := by
  rw [faults_append, if_pos h]
  simp only [faults]
  by_cases h2 : one (seen ++ a.map Thing.id) x = 0
  · rw [if_pos h2, h2]
  · rw [if_neg h2]
theorem faults_stop {seen : List Int} {a : List Thing} (b : List Thing) (h : ¬ faults seen a = 0) : faults seen (a ++ b) = faults seen a := by rw [faults_append, if_neg h]
theorem faults_take {l : List Thing} {i : Nat} (hi : i < l.length) (h : faults [] (l.take i) = 0) : (one ((l.take i).map Thing.id) l[i] = 0 → faults [] (l.take (i + 1)) = 0) ∧ (¬ one ((l.take i).map Thing.id) l[i] = 0 → faults [] l = one ((l.take i).map Thing.id) l[i]) := by
  have ht : l.take (i + 1) = l.take i ++ [l[i]] := by rw [List.take_add_one]; simp [hi]
  have hs := faults_snoc (x := l[i]) h
  rw [List.nil_append] at hs
  refine ⟨fun h1 => by rw [ht, hs, h1], fun h1 => ?_⟩
  have e : l = l.take (i + 1) ++ l.drop (i + 1) := (List.take_append_drop _ _).symm
  rw [ht] at e
  conv => lhs; rw [e]
  rw [faults_stop _ (by rw [hs]; exact h1), hs]
theorem one_zero {seen : List Int} {x : Thing} (h : one seen x = 0) : own x = 0 ∧ 0 ≤ x.rate ∧ x.rate ≤ 1048576 := by
  unfold one at h
  split at h
  · rename_i h1
    refine ⟨h, ?_⟩
    unfold headF at h1
    split at h1
    · cases h1
    · split at h1
      · cases h1
      · split at h1
        · cases h1
        · omega
  · rename_i h1; exact absurd h h1
theorem faults_zero {l : List Thing} : ∀ {seen : List Int}, faults seen l = 0 → ∀ x ∈ l, own x = 0 ∧ 0 ≤ x.rate ∧ x.rate ≤ 1048576 := by
  induction l with
  | nil => intro _ _ x hx; cases hx
  | cons y r ih =>
    intro seen h x hx
    simp only [faults] at h
    split at h
    · rename_i h1
      rcases List.mem_cons.1 hx with rfl | hx
      · exact one_zero h1
      · exact ih h x hx
    · rename_i h1; exact absurd h h1
theorem fault_zero {s : Sky} (h : fault s = 0) : faults [] (things s) = 0 ∧ bodF s.home = 0 ∧ s.stars.length + s.gals.length + s.bods.length ≤ 40 := by
  unfold fault at h
  split at h
  · cases h
  · split at h
    · cases h
    · split at h
      · rename_i h1
        split at h
        · cases h
        · exact ⟨h1, h, by omega⟩
      · rename_i h1; exact absurd h h1
theorem fault_star {s : Sky} (h : fault s = 0) {x : Star} (hx : x ∈ s.stars) : starF x = 0 ∧ 0 ≤ x.rate ∧ x.rate ≤ 1048576 :=
  faults_zero (fault_zero h).1 (.st x) (by simp [things, hx])
/-- What holds of a star that has no fault. -/
theorem starF_zero {s : Star} (h : starF s = 0) : s.wave.length ≤ 16 ∧ (0 < s.wave.length → 1 ≤ s.period ∧ s.period ≤ 17592186044416 ∧ s.period.tmod s.wave.length = 0) ∧ s.wave.any (waveBad s.rate) = false := by
  unfold starF at h
  split at h
  · split at h
    · cases h
    · rename_i h1
      split at h
      · cases h
      · split at h
        · cases h
        · rename_i h2
          split at h
          · cases h
          · rename_i h3
            refine ⟨by omega, fun hp => ?_, by simpa using h3⟩
            have : perBad s.wave.length s.period = false := by
              cases hb : perBad s.wave.length s.period with
              | false => rfl
              | true => exact absurd ⟨hp, hb⟩ h2
            simp only [perBad, Bool.or_eq_false_iff, decide_eq_false_iff_not, Bool.not_eq_false', decide_eq_true_eq] at this
            omega
  · rename_i h1; exact absurd h h1
/-- The period is judged alike in both words. -/
theorem per_b {n : Nat} {p : Int} (hn : 0 < n) (hn2 : n ≤ 16) : perBad n p = true ↔ (p < n ∨ p > 17592186044416 ∨ ¬ p.tdiv n * n = p) := by
  simp only [perBad, Bool.or_eq_true, decide_eq_true_eq, Bool.not_eq_true', decide_eq_false_iff_not]
  have h := Int.tdiv_mul_add_tmod p n
  constructor
  · rintro (h1 | h1 | h1)
    · exact .inl (by omega)
    · exact .inr (.inl h1)
    · exact .inr (.inr (by omega))
  · rintro (h1 | h1 | h1)
    · by_cases hp : p < 1
      · exact .inl hp
      · refine .inr (.inr fun h0 => ?_)
        rw [h0, Int.add_zero] at h
        have hz : p.tdiv n = 0 := Int.tdiv_eq_zero_of_lt (by omega) h1
        rw [hz] at h
        omega
    · exact .inr (.inl h1)
    · exact .inr (.inr (by omega))
end Go.Proofs.YtmhjmjodchbhlaaR.FaultRate
