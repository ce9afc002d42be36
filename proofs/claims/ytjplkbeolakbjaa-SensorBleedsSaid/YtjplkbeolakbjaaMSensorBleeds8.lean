/- Parts of one proof, joined: Pour, Plain, Bleed1Sens, RevSens, Bleed2Sens. -/
import Derived.Test.YtjplkbeolakbjaaMSensorBleeds7
section
set_option linter.unusedVariables false
set_option linter.unusedSimpArgs false
namespace Go.Pour
abbrev Held := Nat → Int
def put (h : Held) (i : Nat) (v : Int) : Held := fun j => if j = i then v else h j
theorem put_at (h : Held) (i : Nat) (v : Int) : put h i v i = v := by simp [put]
theorem put_ne {h : Held} {i j : Nat} {v : Int} (e : j ≠ i) : put h i v j = h j := by simp [put, e]
theorem put_comm {h : Held} {i j : Nat} {v u : Int} (e : i ≠ j) : put (put h i v) j u = put (put h j u) i v := by
  funext k; simp only [put]; split <;> split <;> first | rfl | (subst_vars; exact absurd rfl e)
theorem put_put (h : Held) (i : Nat) (v u : Int) : put (put h i v) i u = put h i u := by
  funext k; simp only [put]; split <;> rfl
def take (full f x : Int) : Int := if f ≤ full - x then f else full - x
def pour (full : Int) (ex : Nat → Int) : List Nat → Int → Held → Held × Int
  | [], f, h => (h, f)
  | i :: r, f, h => pour full ex r (f + (ex i - take full f (h i))) (put h i (h i + take full f (h i)))
variable {full : Int}
theorem pour_keep {ex : Nat → Int} {j : Nat} : ∀ {l : List Nat} {f : Int} {h : Held}, j ∉ l → (pour full ex l f h).1 j = h j
  | [], f, h, _ => rfl
  | i :: r, f, h, hj => by
    simp only [List.mem_cons, not_or] at hj
    rw [pour, pour_keep hj.2, put_ne hj.1]
theorem pour_put {ex : Nat → Int} {i : Nat} {v : Int} : ∀ {l : List Nat} {f : Int} {h : Held}, i ∉ l → pour full ex l f (put h i v) = (put (pour full ex l f h).1 i v, (pour full ex l f h).2)
  | [], f, h, _ => rfl
  | k :: r, f, h, hi => by
    simp only [List.mem_cons, not_or] at hi
    rw [pour, pour, put_ne (Ne.symm hi.1), put_comm hi.1, pour_put hi.2]
theorem pour_congr {ex ex' : Nat → Int} : ∀ {l : List Nat} {f : Int} {h : Held}, (∀ i ∈ l, ex i = ex' i) → pour full ex l f h = pour full ex' l f h
  | [], f, h, _ => rfl
  | k :: r, f, h, hi => by
    rw [pour, pour, hi k (by simp), pour_congr fun i h => hi i (by simp [h])]
def zero : Nat → Int := fun _ => 0
theorem pour_none : ∀ {l : List Nat} {h : Held}, (∀ i, h i ≤ full) → pour full zero l 0 h = (h, 0)
  | [], h, _ => rfl
  | k :: r, h, hh => by
    have e : take full 0 (h k) = 0 := by have := hh k; unfold take; split <;> omega
    have e2 : put h k (h k + 0) = h := by funext j; simp only [put]; split <;> simp_all
    rw [pour, e, e2]; exact pour_none hh
theorem le_put {h : Held} {i : Nat} {v : Int} (hh : ∀ j, h j ≤ full) (hv : v ≤ full) : ∀ j, put h i v j ≤ full := by
  intro j; simp only [put]; split
  · exact hv
  · exact hh j
theorem pour_le {ex : Nat → Int} : ∀ {l : List Nat} {f : Int} {h : Held}, 0 ≤ f → (∀ i, 0 ≤ ex i) → (∀ i, h i ≤ full) → (∀ i, (pour full ex l f h).1 i ≤ full) ∧ 0 ≤ (pour full ex l f h).2
  | [], f, h, hf, _, hh => ⟨hh, hf⟩
  | k :: r, f, h, hf, he, hh => by
    have h1 := hh k
    have h2 := he k
    have a : 0 ≤ f + (ex k - take full f (h k)) := by unfold take; split <;> omega
    have b : h k + take full f (h k) ≤ full := by unfold take; split <;> omega
    exact pour_le (l := r) a he (le_put hh b)
/-- More that flows in is what is poured behind. -/
theorem pour_add {ex : Nat → Int} : ∀ {l : List Nat} {f e : Int} {h : Held}, l.Nodup → 0 ≤ f → 0 ≤ e → (∀ i, 0 ≤ ex i) → (∀ i, h i ≤ full) →
    pour full ex l (f + e) h = ((pour full zero l e (pour full ex l f h).1).1, (pour full ex l f h).2 + (pour full zero l e (pour full ex l f h).1).2)
  | [], f, e, h, _, _, _, _, _ => rfl
  | i :: r, f, e, h, hn, hf, he, hx, hh => by
    obtain ⟨hir, hnr⟩ := List.nodup_cons.1 hn
    have h1 := hh i
    have h2 := hx i
    have b : h i + take full f (h i) ≤ full := by unfold take; split <;> omega
    have c : 0 ≤ f + (ex i - take full f (h i)) := by unfold take; split <;> omega
    have hk : (pour full ex r (f + (ex i - take full f (h i))) (put h i (h i + take full f (h i)))).1 i = h i + take full f (h i) := by rw [pour_keep hir, put_at]
    have d1 : take full (f + e) (h i) = take full f (h i) + take full e (h i + take full f (h i)) := by unfold take; split <;> split <;> split <;> omega
    have d2 : 0 ≤ e - take full e (h i + take full f (h i)) := by unfold take; split <;> split <;> omega
    have ea : f + e + (ex i - take full (f + e) (h i)) = (f + (ex i - take full f (h i))) + (e - take full e (h i + take full f (h i))) := by omega
    have eb : h i + take full (f + e) (h i) = h i + take full f (h i) + take full e (h i + take full f (h i)) := by omega
    have b2 : h i + take full f (h i) + take full e (h i + take full f (h i)) ≤ full := by unfold take; split <;> split <;> omega
    rw [pour, pour, pour, hk, ea, eb, pour_add hnr c d2 hx (le_put hh b2)]
    have ep : pour full ex r (f + (ex i - take full f (h i))) (put h i (h i + take full f (h i) + take full e (h i + take full f (h i)))) =
        (put (pour full ex r (f + (ex i - take full f (h i))) (put h i (h i + take full f (h i)))).1 i (h i + take full f (h i) + take full e (h i + take full f (h i))), (pour full ex r (f + (ex i - take full f (h i))) (put h i (h i + take full f (h i)))).2) := by
      rw [← pour_put hir, put_put]
    have ez : e + (zero i - take full e (h i + take full f (h i))) = e - take full e (h i + take full f (h i)) := by simp [zero]; omega
    rw [ep, ez]
def plus (ex : Nat → Int) (i : Nat) (e : Int) : Nat → Int := fun j => if j = i then ex j + e else ex j
/-- One more excess is what is poured behind its place. -/
theorem pour_plus {ex : Nat → Int} {i : Nat} {e : Int} {b : List Nat} : ∀ {a : List Nat} {f : Int} {h : Held}, (a ++ i :: b).Nodup → 0 ≤ f → 0 ≤ e → (∀ i, 0 ≤ ex i) → (∀ i, h i ≤ full) →
    pour full (plus ex i e) (a ++ i :: b) f h = ((pour full zero b e (pour full ex (a ++ i :: b) f h).1).1, (pour full ex (a ++ i :: b) f h).2 + (pour full zero b e (pour full ex (a ++ i :: b) f h).1).2)
  | [], f, h, hn, hf, he, hx, hh => by
    obtain ⟨hib, hnb⟩ := List.nodup_cons.1 hn
    have h1 := hh i
    have h2 := hx i
    have bb : h i + take full f (h i) ≤ full := by unfold take; split <;> omega
    have c : 0 ≤ f + (ex i - take full f (h i)) := by unfold take; split <;> omega
    have e1 : plus ex i e i = ex i + e := by simp [plus]
    have e2 : f + (ex i + e - take full f (h i)) = f + (ex i - take full f (h i)) + e := by omega
    rw [List.nil_append, pour, pour, e1, e2, pour_congr (ex := plus ex i e) (ex' := ex), pour_add hnb c he hx (le_put hh bb)]
    intro j hj
    have : j ≠ i := fun q => hib (q ▸ hj)
    simp [plus, this]
  | x :: a, f, h, hn, hf, he, hx, hh => by
    obtain ⟨hxr, hnr⟩ := List.nodup_cons.1 hn
    have hxi : x ≠ i := fun q => hxr (by simp [q])
    have h1 := hh x
    have h2 := hx x
    have bb : h x + take full f (h x) ≤ full := by unfold take; split <;> omega
    have c : 0 ≤ f + (ex x - take full f (h x)) := by unfold take; split <;> omega
    have e1 : plus ex i e x = ex x := by simp [plus, hxi]
    rw [List.cons_append, pour, pour, e1, pour_plus hnr c he hx (le_put hh bb)]
abbrev St := Held × Int
def act (full : Int) (ex : Nat → Int) (l : List Nat) (e : Int) (s : St) : St := ((pour full ex l e s.1).1, s.2 + (pour full ex l e s.1).2)
theorem pour_comm {ex ex' : Nat → Int} : ∀ {l l' : List Nat} {f f' : Int} {h : Held}, (∀ i ∈ l, i ∉ l') → (pour full ex' l' f' (pour full ex l f h).1).1 = (pour full ex l f (pour full ex' l' f' h).1).1 ∧ (pour full ex' l' f' (pour full ex l f h).1).2 = (pour full ex' l' f' h).2
  | [], l', f, f', h, _ => ⟨rfl, rfl⟩
  | i :: r, l', f, f', h, hd => by
    have hi : i ∉ l' := hd i (by simp)
    have hr : ∀ j ∈ r, j ∉ l' := fun j hj => hd j (by simp [hj])
    obtain ⟨a1, a2⟩ := pour_comm (ex := ex) (ex' := ex') (f := f + (ex i - take full f (h i))) (f' := f') (h := put h i (h i + take full f (h i))) hr
    rw [pour, pour]
    constructor
    · rw [a1, pour_put hi, pour_keep hi]
    · rw [a2, pour_put hi]
theorem act_comm {ex ex' : Nat → Int} {l l' : List Nat} {e e' : Int} (hd : ∀ i ∈ l, i ∉ l') (s : St) : act full ex' l' e' (act full ex l e s) = act full ex l e (act full ex' l' e' s) := by
  have hd' : ∀ i ∈ l', i ∉ l := fun i h1 h2 => hd i h2 h1
  obtain ⟨a1, a2⟩ := pour_comm (full := full) (ex := ex) (ex' := ex') (f := e) (f' := e') (h := s.1) hd
  obtain ⟨b1, b2⟩ := pour_comm (full := full) (ex := ex') (ex' := ex) (f := e') (f' := e) (h := s.1) hd'
  unfold act
  simp only
  refine Prod.ext a1 ?_
  simp only [a2, b2]
  omega
theorem act_le {ex : Nat → Int} {l : List Nat} {e : Int} {s : St} (he : 0 ≤ e) (hx : ∀ i, 0 ≤ ex i) (hs : ∀ i, s.1 i ≤ full) : ∀ i, (act full ex l e s).1 i ≤ full := (pour_le he hx hs).1
/-- One more excess, in the column where it lies. -/
theorem act_plus {ex : Nat → Int} {i : Nat} {e : Int} {a b : List Nat} {s : St} (hn : (a ++ i :: b).Nodup) (he : 0 ≤ e) (hx : ∀ i, 0 ≤ ex i) (hs : ∀ i, s.1 i ≤ full) :
    act full (plus ex i e) (a ++ i :: b) 0 s = act full zero b e (act full ex (a ++ i :: b) 0 s) := by
  unfold act
  rw [pour_plus hn (Int.le_refl 0) he hx hs]
  simp only [Int.add_assoc]
theorem act_congr {ex ex' : Nat → Int} {l : List Nat} {e : Int} {s : St} (h : ∀ i ∈ l, ex i = ex' i) : act full ex l e s = act full ex' l e s := by unfold act; rw [pour_congr h]
/-- Columns: no cell lies in two of them. -/
def Cols (L : Nat → List Nat) (xs : List Nat) : Prop := xs.Nodup ∧ (∀ x ∈ xs, (L x).Nodup) ∧ ∀ x ∈ xs, ∀ y ∈ xs, x ≠ y → ∀ i ∈ L x, i ∉ L y
theorem fold_le {ex : Nat → Int} {L : Nat → List Nat} (hx : ∀ i, 0 ≤ ex i) : ∀ (xs : List Nat) (s : St), (∀ i, s.1 i ≤ full) → ∀ i, (xs.foldl (fun s x => act full ex (L x) 0 s) s).1 i ≤ full
  | [], s, hs => hs
  | x :: r, s, hs => by rw [List.foldl_cons]; exact fold_le hx r _ (act_le (Int.le_refl 0) hx hs)
theorem fold_comm {ex ex' : Nat → Int} {L : Nat → List Nat} {l : List Nat} {e : Int} : ∀ (xs : List Nat) (s : St), (∀ x ∈ xs, ∀ i ∈ l, i ∉ L x) → xs.foldl (fun s x => act full ex (L x) 0 s) (act full ex' l e s) = act full ex' l e (xs.foldl (fun s x => act full ex (L x) 0 s) s)
  | [], s, _ => rfl
  | x :: r, s, hd => by
    rw [List.foldl_cons, List.foldl_cons, act_comm (hd x (by simp)), fold_comm r _ fun y hy => hd y (by simp [hy])]
theorem fold_congr {ex ex' : Nat → Int} {L : Nat → List Nat} : ∀ (xs : List Nat) (s : St), (∀ x ∈ xs, ∀ i ∈ L x, ex i = ex' i) → xs.foldl (fun s x => act full ex (L x) 0 s) s = xs.foldl (fun s x => act full ex' (L x) 0 s) s
  | [], s, _ => rfl
  | x :: r, s, hd => by
    rw [List.foldl_cons, List.foldl_cons, act_congr (hd x (by simp)), fold_congr r _ fun y hy => hd y (by simp [hy])]
theorem fold_plus {ex : Nat → Int} {L : Nat → List Nat} {i x0 : Nat} {e : Int} {a b : List Nat} (hL : L x0 = a ++ i :: b) (he : 0 ≤ e) (hx : ∀ i, 0 ≤ ex i) : ∀ (xs : List Nat) (s : St), Cols L xs → x0 ∈ xs → (∀ i, s.1 i ≤ full) →
    xs.foldl (fun s x => act full (plus ex i e) (L x) 0 s) s = act full zero b e (xs.foldl (fun s x => act full ex (L x) 0 s) s)
  | [], s, _, h, _ => by simp at h
  | x :: r, s, hc, h0, hs => by
    obtain ⟨c1, c2, c3⟩ := hc
    obtain ⟨hxr, hnr⟩ := List.nodup_cons.1 c1
    have hcr : Cols L r := ⟨hnr, fun y hy => c2 y (by simp [hy]), fun y hy z hz => c3 y (by simp [hy]) z (by simp [hz])⟩
    rw [List.foldl_cons, List.foldl_cons]
    by_cases hx0 : x0 = x
    · subst hx0
      have hno : ∀ y ∈ r, ∀ j ∈ L x0, j ∉ L y := fun y hy => c3 x0 (by simp) y (by simp [hy]) (fun q => hxr (q ▸ hy))
      rw [hL, act_plus (hL ▸ c2 x0 (by simp)) he hx hs, fold_congr (ex := plus ex i e) (ex' := ex) r, fold_comm r]
      · intro y hy j hj
        exact hno y hy j (by rw [hL]; simp [hj])
      · intro y hy j hj
        have : j ≠ i := fun q => hno y hy i (by rw [hL]; simp) (q ▸ hj)
        simp [plus, this]
    · have hin : x0 ∈ r := by
        rcases List.mem_cons.1 h0 with h | h
        · exact absurd h hx0
        · exact h
      have hno : ∀ j ∈ L x, j ≠ i := fun j hj q => c3 x (by simp) x0 h0 (Ne.symm hx0) j hj (by rw [hL, q]; simp)
      rw [act_congr (ex := plus ex i e) (ex' := ex), fold_plus hL he hx r _ hcr hin (act_le (Int.le_refl 0) hx hs)]
      intro j hj
      simp [plus, hno j hj]
def upto (ex : Nat → Int) (k : Nat) : Nat → Int := fun i => if i < k then ex i else 0
theorem upto_succ (ex : Nat → Int) (k : Nat) : upto ex (k + 1) = plus (upto ex k) k (ex k) := by
  funext i
  simp only [upto, plus]
  by_cases h : i = k
  · subst h; simp
  · by_cases h2 : i < k
    · simp [h, h2, show i < k + 1 by omega]
    · simp [h, h2, show ¬ i < k + 1 by omega]
/-- All excesses, each by itself. -/
theorem spills {ex : Nat → Int} {L : Nat → List Nat} {xs : List Nat} {n : Nat} {path : Nat → List Nat} (hc : Cols L xs) (hp : ∀ i, i < n → ∃ x ∈ xs, ∃ a, L x = a ++ i :: path i) (hx : ∀ i, 0 ≤ ex i) {s : St} (hs : ∀ i, s.1 i ≤ full) :
    ∀ k, k ≤ n → (List.range k).foldl (fun s i => act full zero (path i) (ex i) s) s = xs.foldl (fun s x => act full (upto ex k) (L x) 0 s) s
  | 0, _ => by
    have : ∀ (ys : List Nat), ys.foldl (fun s x => act full (upto ex 0) (L x) 0 s) s = s := by
      intro ys
      induction ys with
      | nil => rfl
      | cons y r ih =>
        have e : upto ex 0 = zero := by funext i; simp [upto, zero]
        rw [List.foldl_cons]
        have : act full (upto ex 0) (L y) 0 s = s := by
          unfold act
          rw [e, pour_none hs]; simp
        rw [this, ih]
    rw [this]; rfl
  | k + 1, hk => by
    obtain ⟨x, hxs, a, hL⟩ := hp k (by omega)
    have hu : ∀ i, 0 ≤ upto ex k i := fun i => by simp only [upto]; split <;> first | exact hx i | exact Int.le_refl 0
    rw [List.range_succ, List.foldl_append, spills hc hp hx hs k (by omega), upto_succ, fold_plus hL (hx k) hu xs s hc hxs hs]
    rfl
/-- Two passes over each column are two passes over all columns. -/
theorem fold_two {ex ex' : Nat → Int} {L L' : Nat → List Nat} : ∀ (xs : List Nat) (s : St), xs.Nodup → (∀ x ∈ xs, ∀ y ∈ xs, x ≠ y → ∀ i ∈ L' x, i ∉ L y) →
    xs.foldl (fun s x => act full ex' (L' x) 0 (act full ex (L x) 0 s)) s = xs.foldl (fun s x => act full ex' (L' x) 0 s) (xs.foldl (fun s x => act full ex (L x) 0 s) s)
  | [], s, _, _ => rfl
  | x :: r, s, hn, hd => by
    obtain ⟨hxr, hnr⟩ := List.nodup_cons.1 hn
    rw [List.foldl_cons, List.foldl_cons, List.foldl_cons, fold_two r _ hnr fun y hy z hz => hd y (by simp [hy]) z (by simp [hz]), fold_comm r]
    intro y hy
    exact hd x (by simp) y (by simp [hy]) (fun q => hxr (q ▸ hy))
end Go.Pour
end
section
set_option linter.unusedVariables false
namespace Go.Bleed
open Go.Pour
/-- The cells of a column, from the top. -/
def col (w h x : Nat) : List Nat := (List.range h).map fun y => y * w + x
/-- The cells of column x from row y on. -/
def dn (w h x y : Nat) : List Nat := ((List.range h).drop y).map fun y => y * w + x
/-- The cells of column x above row y, from the nearest on. -/
def up (w x y : Nat) : List Nat := (List.range y).reverse.map fun y => y * w + x
theorem dn_step {w h x y : Nat} (hy : y < h) : dn w h x y = (y * w + x) :: dn w h x (y + 1) := by
  unfold dn
  rw [List.drop_eq_getElem_cons (by simpa using hy)]
  simp
theorem dn_end {w h x y : Nat} (hy : h ≤ y) : dn w h x y = [] := by
  unfold dn
  rw [List.drop_eq_nil_of_le (by simpa using hy)]; rfl
theorem up_step {w x y : Nat} : up w x (y + 1) = (y * w + x) :: up w x y := by
  unfold up
  rw [List.range_succ, List.reverse_append]; rfl
theorem up_zero {w x : Nat} : up w x 0 = [] := rfl
theorem col_dn {w h x y : Nat} (hy : y < h) : col w h x = (List.range y).map (fun y => y * w + x) ++ (y * w + x) :: dn w h x (y + 1) := by
  rw [← dn_step hy]
  unfold col dn
  rw [← List.map_append]
  congr 1
  have e : (List.range h).take y = List.range y := by rw [List.take_range]; congr 1; omega
  rw [← e, List.take_append_drop]
theorem rev_up {w h x y : Nat} (hy : y < h) : (col w h x).reverse = (dn w h x (y + 1)).reverse ++ (y * w + x) :: up w x y := by
  rw [col_dn hy, List.reverse_append, List.reverse_cons, List.append_assoc, List.singleton_append]
  congr 2
  unfold up
  rw [List.map_reverse]
theorem mem_col {w h x i : Nat} (hx : x < w) : i ∈ col w h x ↔ i < w * h ∧ i % w = x := by
  unfold col
  rw [List.mem_map]
  constructor
  · rintro ⟨y, hy, rfl⟩
    rw [List.mem_range] at hy
    refine ⟨?_, ?_⟩
    · have := Nat.mul_le_mul_right w (show y + 1 ≤ h by omega)
      rw [Nat.add_mul, Nat.one_mul, Nat.mul_comm h w] at this
      omega
    · rw [Nat.mul_comm, Nat.mul_add_mod, Nat.mod_eq_of_lt hx]
  · rintro ⟨h1, h2⟩
    refine ⟨i / w, ?_, ?_⟩
    · rw [List.mem_range]
      exact Nat.div_lt_of_lt_mul h1
    · have := Nat.div_add_mod i w
      rw [Nat.mul_comm]; omega
theorem nodup_col {w h x : Nat} (hx : x < w) : (col w h x).Nodup := by
  unfold col
  unfold List.Nodup
  rw [List.pairwise_map]
  refine List.Pairwise.imp (fun {a b} hab e => hab ?_) (List.nodup_range (n := h))
  have : a * w = b * w := by simpa using e
  exact Nat.eq_of_mul_eq_mul_right (by omega) this
theorem cols (w h : Nat) : Cols (col w h) (List.range w) := by
  refine ⟨List.nodup_range, fun x hx => nodup_col (by simpa using hx), fun x hx y hy hne i hi hj => ?_⟩
  rw [List.mem_range] at hx hy
  rw [mem_col hx] at hi
  rw [mem_col hy] at hj
  exact hne (hi.2.symm.trans hj.2)
theorem cols_rev (w h : Nat) : Cols (fun x => (col w h x).reverse) (List.range w) := by
  obtain ⟨a, b, c⟩ := cols w h
  refine ⟨a, fun x hx => List.pairwise_reverse.2 ((b x hx).imp Ne.symm), fun x hx y hy hne i hi hj => ?_⟩
  exact c x hx y hy hne i (List.mem_reverse.1 hi) (List.mem_reverse.1 hj)
variable {full : Int}
theorem act_none {l : List Nat} {s : St} (hs : ∀ i, s.1 i ≤ full) : act full zero l 0 s = s := by
  unfold act
  rw [pour_none hs]; simp
def over (full : Int) (q : Nat → Int) (i : Nat) : Int := if q i ≤ full then 0 else q i - full
def exD (full : Int) (q : Nat → Int) (i : Nat) : Int := (over full q i + 1) / 2
def exU (full : Int) (q : Nat → Int) (i : Nat) : Int := over full q i / 2
theorem over_nonneg (q : Nat → Int) (i : Nat) : 0 ≤ over full q i := by unfold over; split <;> omega
theorem exD_nonneg (q : Nat → Int) (i : Nat) : 0 ≤ exD full q i := by have := over_nonneg (full := full) q i; unfold exD; omega
theorem exU_nonneg (q : Nat → Int) (i : Nat) : 0 ≤ exU full q i := by have := over_nonneg (full := full) q i; unfold exU; omega
/-- Column by column. -/
def bleed (full : Int) (q : Nat → Int) (w h k : Nat) (s : St) : St := (List.range k).foldl (fun s x => act full (exU full q) (col w h x).reverse 0 (act full (exD full q) (col w h x) 0 s)) s
/-- Each excess by itself: to the one side, then to the other. -/
def bledD (full : Int) (q : Nat → Int) (w h k : Nat) (s : St) : St := (List.range k).foldl (fun s i => act full zero (dn w h (i % w) (i / w + 1)) (exD full q i) s) s
def bledU (full : Int) (q : Nat → Int) (w k : Nat) (s : St) : St := (List.range k).foldl (fun s i => act full zero (up w (i % w) (i / w)) (exU full q i) s) s
theorem bledD_le (q : Nat → Int) (w h : Nat) : ∀ (k : Nat) (s : St), (∀ i, s.1 i ≤ full) → ∀ i, (bledD full q w h k s).1 i ≤ full
  | 0, s, hs => hs
  | k + 1, s, hs => by
    unfold bledD
    rw [List.range_succ, List.foldl_append]
    exact act_le (exD_nonneg q k) (fun _ => Int.le_refl 0) (bledD_le q w h k s hs)
theorem fold_upto {ex : Nat → Int} {L : Nat → List Nat} {w h : Nat} (hL : ∀ x, x < w → ∀ i ∈ L x, i < w * h) (s : St) : (List.range w).foldl (fun s x => act full (upto ex (w * h)) (L x) 0 s) s = (List.range w).foldl (fun s x => act full ex (L x) 0 s) s :=
  fold_congr (List.range w) s fun x hx i hi => by
    have := hL x (by simpa using hx) i hi
    simp [upto, this]
theorem same (q : Nat → Int) (w h : Nat) (s : St) (hs : ∀ i, s.1 i ≤ full) : bledU full q w (w * h) (bledD full q w h (w * h) s) = bleed full q w h w s := by
  have hD : bledD full q w h (w * h) s = (List.range w).foldl (fun s x => act full (exD full q) (col w h x) 0 s) s := by
    unfold bledD
    rw [spills (L := col w h) (xs := List.range w) (n := w * h) (path := fun i => dn w h (i % w) (i / w + 1)) (cols w h) (fun i hi => ?_) (exD_nonneg q) hs (w * h) (Nat.le_refl _)]
    · exact fold_upto (h := h) (fun x hx i hi => ((mem_col hx).1 hi).1) s
    · have hw : 0 < w := Nat.pos_of_ne_zero fun e => by simp [e] at hi
      refine ⟨i % w, by simpa using Nat.mod_lt i hw, (List.range (i / w)).map (fun y => y * w + i % w), ?_⟩
      have hy : i / w < h := Nat.div_lt_of_lt_mul hi
      rw [col_dn hy]
      have : i / w * w + i % w = i := by rw [Nat.mul_comm]; exact Nat.div_add_mod i w
      rw [this]
  have hU : ∀ s : St, (∀ i, s.1 i ≤ full) → bledU full q w (w * h) s = (List.range w).foldl (fun s x => act full (exU full q) (col w h x).reverse 0 s) s := by
    intro s hs
    unfold bledU
    rw [spills (L := fun x => (col w h x).reverse) (xs := List.range w) (n := w * h) (path := fun i => up w (i % w) (i / w)) (cols_rev w h) (fun i hi => ?_) (exU_nonneg q) hs (w * h) (Nat.le_refl _)]
    · exact fold_upto (h := h) (fun x hx i hi => ((mem_col hx).1 (List.mem_reverse.1 hi)).1) s
    · have hw : 0 < w := Nat.pos_of_ne_zero fun e => by simp [e] at hi
      refine ⟨i % w, by simpa using Nat.mod_lt i hw, (dn w h (i % w) (i / w + 1)).reverse, ?_⟩
      have hy : i / w < h := Nat.div_lt_of_lt_mul hi
      have : i / w * w + i % w = i := by rw [Nat.mul_comm]; exact Nat.div_add_mod i w
      have hr := rev_up (w := w) (x := i % w) hy
      rw [this] at hr
      exact hr
  rw [hU _ (bledD_le q w h _ s hs), hD]
  unfold bleed
  rw [fold_two (ex := exD full q) (ex' := exU full q) (L := col w h) (L' := fun x => (col w h x).reverse) (List.range w) s List.nodup_range]
  intro x hx y hy hne i hi
  exact (cols w h).2.2 x hx y hy hne i (List.mem_reverse.1 hi)
end Go.Bleed
end
section
set_option linter.unusedVariables false
set_option linter.unusedSimpArgs false
set_option maxRecDepth 100000
namespace Go.Proofs.Ytjplkbeolakbjaa.Bleed1Sens
open Go.Ev Go.Proofs.Ytjplkbeolakbjaa.FxSens Go.Proofs.Ytjplkbeolakbjaa.Out84Sens Go.Proofs.Ytjplkbeolakbjaa.ChkSens Go.Proofs.Ytjplkbeolakbjaa.SizSens
open Go.Pour (put pour take Held zero put_at put_ne pour_le)
open Go.Bleed (over exD exU over_nonneg exD_nonneg exU_nonneg)
attribute [local go_sem] Ev.putR_s Ev.putR_0 Ev.thenO_s Ev.thenO_0 Ev.seqR_n Ev.seqR_e Ev.seqR_r Ev.seqR_0 Ev.blkR_e Ev.blkR_n Ev.blkR_r Ev.blkR_0 Ev.normR_s Ev.normR_0 Ev.outR_r Ev.outR_n Ev.outR_0 Ev.retS_s Ev.retS_0 Ev.pureO_s Ev.pureO_0 Ev.topR_0 Ev.topR_t Ev.topR_t0 Ev.oneL_0 Ev.oneL_s Ev.topR_d Ev.topR_nils Ev.topR_agg Ev.topR_rs Ev.evOp_move Ev.evOp_assign Ev.evOp_pick Ev.evOp_alloc Ev.evOp_box Ev.evOp_build Ev.evOp_buildSlice Ev.evOp_load Ev.evOp_store Ev.evOp_makeMap Ev.evOp_lookup Ev.evOp_mapUpdate Ev.evOp_insert Ev.evOp_nilCheck Ev.evOp_binOp Ev.evOp_unOp Ev.evOp_convert Ev.evOp_makeFunc Ev.evOp_makeSlice Ev.evOp_slice Ev.evOp_fieldAddr Ev.evOp_field Ev.evOp_indexAddr Ev.evOp_index Ev.evOp_extract Ev.evOp_call Ev.evOp_append Ev.evOp_len Ev.evOp_min Ev.evOp_max Ev.condR_b Ev.condR_t Ev.evOps_nil Ev.evOps_plain Ev.evOps_guard Ev.runG_eq Ev.skipG_eq Ev.condL_tt Ev.condL_ff Ev.condL_tf Ev.condL_ft Ev.condL_u Ev.condC_t Ev.condC_f Ev.evC_skip Ev.evC_ret Ev.evC_exit Ev.evC_label Ev.evC_region Ev.evC_draw Ev.evC_seq Ev.evC_cond Ev.evC_block Ev.evC_loop Ev.fin_d Ev.fin_nils Ev.fin_agg_ Ev.fin_rs Ev.finS_s Ev.mapO_fin Ev.upd_upd Ev.argv_d Ev.argv_nils Ev.argv_agg Ev.argv_rs Ev.argv_p Ev.appendTo_nils Ev.appendTo_rs Ev.consV_d Ev.consV_agg Ev.consV_p Ev.consV_rs Ev.consV_nils Ev.consV_fn Ev.consV_und Ev.consV_jk Ev.consV_grown Ev.topR_grown Ev.len_grown Ev.consV_mp Ev.sameK_i Ev.sameK_s Ev.mget_0 Ev.mget_hit Ev.mget_miss Ev.mput_0 Ev.mput_hit Ev.mput_miss Ev.apartAll Ev.apartL Ev.apartV Ev.freeAll Ev.sel Ev.keyOfV Ev.evLookup Ev.evPut Ev.hintOk Ev.keyOk Ev.consP Ev.lookV Ev.guardV Ev.dstAt Ev.evPure Ev.evStore Ev.evPureB Ev.evBin Ev.evBinO Ev.evNil Ev.isNilC Ev.evUn Ev.evConv Ev.evSlice Ev.optI Ev.lenV Ev.elemT Ev.foldI Ev.capsOk Ev.noTup Ev.nth Ev.setN Ev.pad Ev.V.get Ev.V.put Ev.putD Ev.hasT Ev.newBlk Ev.upd Ev.keq Ev.empty Ev.evCall Ev.V.args Ev.argP Ev.callOf Ev.evNilP Ev.isNilP Ev.look Ev.V.view.views Ev.V.view Ev.V.toD Ev.V.toD.V.toDs Ev.V.pure.pures Ev.V.pure Ev.D.flat.flats Ev.D.flat Ev.mkAgg Ev.allD Ev.aggParts Ev.setParts Ev.setElems Ev.getPath Ev.setPath Ev.subL Ev.eqD Ev.eqD.eqDs Ev.and2 Ev.strCut Ev.evalT Ev.constT Ev.evArgs Ev.mask Ev.maskOf Ev.tableOf Ev.compT Ev.resV Ev.retV Ev.mapO Ev.elemsOf Int.cast_ofNat_Int IntWalk.i64_in IntWalk.u64_in IntWalk.u8_in beq_self_eq_true Bool.true_beq Bool.false_beq Bool.and_true Bool.true_and Bool.false_and Bool.and_false Bool.and_self Bool.not_true Bool.not_false Bool.not_eq_true cond_true cond_false if_true if_false and_true true_and and_self decide_true decide_false Bool.or_true Bool.true_or Bool.or_false Bool.false_or List.isEmpty List.isEmpty_nil List.size_toArray List.map List.length_map List.length_cons List.length_nil Option.map Option.bind Option.getD Option.isSome List.replicate Bool.false_eq_true implies_true forall_const Array.toList Array.isEmpty List.append List.nil_append List.cons_append List.drop_zero List.take_length List.take_succ_cons List.take_zero List.take_nil List.getElem?_map List.getElem?_cons_zero List.getElem?_cons_succ List.getElem?_nil List.append_nil
attribute [local go_sem] FxSens.tk2 FxSens.ik2 FxSens.zv2 FxSens.tk3 FxSens.ik3 FxSens.zv3 FxSens.by3 FxSens.so3 FxSens.tk4 FxSens.ub4 FxSens.zv4 FxSens.tk22 FxSens.ik22 FxSens.zv22 FxSens.tk27 FxSens.ik27 FxSens.zv27 FxSens.by27 FxSens.so27 FxSens.tk32 FxSens.zv32 FxSens.tk36 FxSens.ik36 FxSens.zv36 FxSens.tk47 FxSens.ik47 FxSens.zv47 FxSens.by47 FxSens.so47 FxSens.tk54 FxSens.zv54 FxSens.tk56 FxSens.ct56 FxSens.zv56 FxSens.tk73 FxSens.zv73 FxSens.tk96 FxSens.ik96 FxSens.zv96 FxSens.tk97 FxSens.ct97 FxSens.zv97 FxSens.by97 FxSens.so97 FxSens.tk98 FxSens.zv98 FxSens.tk107 FxSens.zv107 FxSens.tk120 FxSens.zv120 FxSens.tk124 FxSens.zv124 FxSens.tk152 FxSens.zv152 FxSens.tk155 FxSens.zv155 FxSens.mk10_1000000 FxSens.mk15_1000000 FxSens.dw17_6 FxSens.nc17_6 FxSens.mk17_0 FxSens.mk17_1000001 FxSens.mk17_1000002 FxSens.mk17_1000000 FxSens.mk18_1000000 FxSens.mk19_1000000 FxSens.dw39_6 FxSens.nc39_6 FxSens.mk39_0 FxSens.mk39_1000001 FxSens.mk39_1000002 FxSens.mk39_1000000 FxSens.mk42_1000000 FxSens.mk43_1000001 FxSens.mk43_1000000 FxSens.mk44_0 FxSens.mk44_2 FxSens.mk44_1000001 FxSens.mk44_1000002 FxSens.mk44_1000003 FxSens.mk44_1000004 FxSens.mk44_1000000 FxSens.mk45_0 FxSens.mk45_2 FxSens.mk45_4 FxSens.mk45_1000001 FxSens.mk45_1000002 FxSens.mk45_1000003 FxSens.mk45_1000004 FxSens.mk45_1000005 FxSens.mk45_1000006 FxSens.mk45_1000000 FxSens.dw46_28 FxSens.nc46_28 FxSens.mk46_0 FxSens.mk46_2 FxSens.mk46_4 FxSens.mk46_1000001 FxSens.mk46_1000002 FxSens.mk46_1000003 FxSens.mk46_1000004 FxSens.mk46_1000005 FxSens.mk46_1000006 FxSens.mk46_1000000 FxSens.dw47_6 FxSens.nc47_6 FxSens.mk47_0 FxSens.mk47_1000001 FxSens.mk47_1000002 FxSens.mk47_1000000 FxSens.dw48_10 FxSens.nc48_10 FxSens.dw48_11 FxSens.nc48_11 FxSens.mk48_0 FxSens.mk48_1000001 FxSens.mk48_1000002 FxSens.mk48_1000000 FxSens.mk61_1000000 FxSens.mk83_1000000 FxSens.mk84_1000000 FxSens.mk85_1000000 FxSens.mk86_1000000 FxSens.mk87_1000000 FxSens.dw88_1 FxSens.nc88_1 FxSens.mk88_1000000 FxSens.dw89_5 FxSens.nc89_5 FxSens.mk89_0 FxSens.mk89_1000001 FxSens.mk89_1000002 FxSens.mk89_1000000 FxSens.mk90_1000000 FxSens.dw91_3 FxSens.nc91_3 FxSens.mk91_0 FxSens.mk91_1000001 FxSens.mk91_1000002 FxSens.mk91_1000000 FxSens.mk92_1000000 FxSens.mk93_1000000 FxSens.mk94_0 FxSens.mk94_1000001 FxSens.mk94_1000002 FxSens.mk94_1000000 FxSens.dw95_3 FxSens.nc95_3 FxSens.dw95_6 FxSens.nc95_6 FxSens.mk95_0 FxSens.mk95_1000001 FxSens.mk95_1000002 FxSens.mk95_1000000 FxSens.mk114_1000000 FxSens.mk115_1000000 FxSens.mk116_1000000 FxSens.mk117_1000000 FxSens.mk118_1000000 FxSens.mk119_1000000 FxSens.mk128_0 FxSens.mk128_1000001 FxSens.mk128_1000002 FxSens.mk128_1000000 FxSens.mk129_0 FxSens.mk129_1000001 FxSens.mk129_1000002 FxSens.mk129_1000000 FxSens.mk130_0 FxSens.mk130_1000001 FxSens.mk130_1000002 FxSens.mk130_1000000
/-! ### rows as functions -/
def row (n : Nat) (h : Nat → Int) : List V := (List.range n).map fun i => V.d (.int .i64 (h i))
theorem row_len (n : Nat) (h : Nat → Int) : (row n h).length = n := by simp [row]
theorem row_nth {n i : Nat} (h : Nat → Int) (hi : i < n) : nth (row n h) i = some (.d (.int .i64 (h i))) := by
  rw [nth_eq, row, List.getElem?_map, List.getElem?_range hi]; rfl
theorem row_congr {n : Nat} {g h : Nat → Int} (e : ∀ i, i < n → g i = h i) : row n g = row n h := by
  unfold row
  exact List.map_congr_left fun i hi => by rw [e i (by simpa using hi)]
theorem row_set {n i : Nat} (h : Nat → Int) (v : Int) (hi : i < n) : setN (row n h) i (.d (.int .i64 v)) = row n (put h i v) := by
  rw [setN_eq]
  refine List.ext_getElem (by simp [row]) fun j h1 h2 => ?_
  simp only [row, List.length_set, List.length_map, List.length_range] at h1
  simp only [row, List.getElem_set, List.getElem_map, List.getElem_range, put]
  by_cases e : i = j
  · subst e; simp
  · rw [if_neg e, if_neg fun h => e h.symm]
def cel (l : List Nat) : List V := l.map fun (i : Nat) => V.d (.int .i64 (i : Int))
theorem cel_nth {l : List Nat} {k : Nat} (hk : k < l.length) : nth (cel l) k = some (.d (.int .i64 (l[k] : Nat))) := by
  rw [nth_eq, cel, List.getElem?_map, List.getElem?_eq_getElem hk]; rfl
def qf (q : List Int) (i : Nat) : Int := q.getD i 0
theorem qf_get {q : List Int} {i : Nat} (h : i < q.length) : (q.map (D.int .i64))[i]? = some (.int .i64 (qf q i)) := by
  simp [qf, h]
theorem qf_bd {q : List Int} (h : outside q 4294967296 = false) (i : Nat) : 0 ≤ qf q i ∧ qf q i ≤ 4294967296 := by
  unfold qf
  by_cases hi : i < q.length
  · have := List.any_eq_false.1 h q[i] (List.getElem_mem _)
    simp only [outB, Bool.or_eq_true, decide_eq_true_eq, not_or] at this
    have e : q.getD i 0 = q[i] := by simp [hi]
    rw [e]; omega
  · have e : q.getD i 0 = 0 := by simp [show q.length ≤ i by omega]
    rw [e]; omega
theorem over_bd {full : Int} {q : List Int} (h : outside q 4294967296 = false) (hf : 1 ≤ full) (i : Nat) : 0 ≤ over full (qf q) i ∧ over full (qf q) i ≤ 4294967296 := by
  have := qf_bd h i
  unfold over
  split <;> omega
theorem exD_bd {full : Int} {q : List Int} (h : outside q 4294967296 = false) (hf : 1 ≤ full) (i : Nat) : 0 ≤ exD full (qf q) i ∧ exD full (qf q) i ≤ 4294967296 := by
  have := over_bd h hf i
  unfold exD; omega
theorem exU_bd {full : Int} {q : List Int} (h : outside q 4294967296 = false) (hf : 1 ≤ full) (i : Nat) : 0 ≤ exU full (qf q) i ∧ exU full (qf q) i ≤ 4294967296 := by
  have := over_bd h hf i
  unfold exU; omega
/-! ### the closures -/
noncomputable def G : Specs := [(86, sz), (87, Out87Sens.s87)]
noncomputable def T : Table := tableOf [(45, en45), (88, en88), (89, en89), (90, en90), (91, en91), (92, en92)]
theorem G_ok : ∀ g s, Ev.look G g = some s → SpecOk Try.prog g s := specs_cons sa_ok (specs_cons Out87Sens.s87_ok specs_nil)
theorem T_ok : TableOk Try.prog (G.map (·.1)) T := (table_cons Try.func45 (by kernel_rfl) (by kernel_rfl) (table_cons Try.func88 (by kernel_rfl) (by kernel_rfl) (table_cons Try.func89 (by kernel_rfl) (by kernel_rfl) (table_cons Try.func90 (by kernel_rfl) (by kernel_rfl) (table_cons Try.func91 (by kernel_rfl) (by kernel_rfl) (table_cons Try.func92 (by kernel_rfl) (by kernel_rfl) table_nil))))))
theorem look86 : Ev.look G 86 = some sz := nr rfl
theorem look87 : Ev.look G 87 = some Out87Sens.s87 := nr rfl
theorem look88 : Ev.look G 88 = none := nr rfl
theorem look90 : Ev.look G 90 = none := nr rfl
theorem look92 : Ev.look G 92 = none := nr rfl
def bS (s : Sen) : Blk := ⟨1, 56, [.d s.D], true⟩
def bQ (q : List Int) : Blk := ⟨1, 73, [.d (.sl 27 (q.map (.int .i64)))], true⟩
def bO : Blk := ⟨1, 120, [.fn 88 [.p (0, 3) 1 0 [], .p (0, 2) 1 0 []]], true⟩
theorem e88 (L c lv : Nat) (s : Sen) (q : List Int) (st : Store) (h2 : st (0, 2) = bS s) (h3 : st (0, 3) = bQ q) (hq : outside q 4294967296 = false) (hf : 1 ≤ s.full ∧ s.full ≤ 1048576) (hl : q.length ≤ 1024) (i : Nat) (hi : i < q.length) :
    evF Try.prog G T L (c + 1) 88 [.d (.int .i64 i), .p (0, 3) 1 0 [], .p (0, 2) 1 0 []] lv st = some (.d (.int .i64 (over s.full (qf q) i)), st) := by
  have hx := qf_get hi
  have hb := qf_bd hq i
  have hlt : (i : Int) < q.length := by omega
  have g0 : (0 : Int) ≤ (i : Int) := by omega
  have ht : ((i : Int)).toNat = i := by omega
  have hov : maxI 0 (qf q i - s.full) = over s.full (qf q) i := by unfold maxI over; split <;> split <;> omega
  obtain ⟨w, h, b, d, f, full, gain, noise⟩ := s
  simp only at hf hov
  have w1 : IntKind.i64.wrap (qf q i - full) = qf q i - full := IntWalk.i64_in _ (by omega)
  rw [evF_s (fn := Try.f88) (msk := en88.ms) (hT := by rfl) (hb := by rfl)]
  simp only [Try.f88, go_sem, Nat.reduceAdd, Nat.reduceSub, Nat.reduceMul, Nat.reduceEqDiff, Nat.reduceBEq, Nat.reduceLT, Nat.reduceLeDiff, Nat.reducePow, Int.reduceToNat, Int.reduceLT, Int.reduceLE, Int.reduceGT, Int.reduceGE, Int.reduceEq, Int.reduceNeg, Int.reduceAdd, Int.reduceSub, ↓reduceIte, reduceCtorEq, h2, h3, bS, bQ, Sen.D, sen, hx, hlt, g0, ht, w1, hov]
theorem e90 (L c lv : Nat) (s : Sen) (q : List Int) (st : Store) (h2 : st (0, 2) = bS s) (h3 : st (0, 3) = bQ q) (h10 : st (0, 10) = bO) (hq : outside q 4294967296 = false) (hf : 1 ≤ s.full ∧ s.full ≤ 1048576) (hl : q.length ≤ 1024) (i : Nat) (hi : i < q.length) :
    evF Try.prog G T L (c + 2) 90 [.d (.int .i64 i), .p (0, 10) 1 0 []] lv st = some (.d (.int .i64 (exD s.full (qf q) i)), st) := by
  have hb := over_bd hq hf.1 i
  have hov := fun lv => e88 L c lv s q st h2 h3 hq hf hl i hi
  have hx : (over s.full (qf q) i + 1).tdiv 2 = exD s.full (qf q) i := by rw [Int.tdiv_eq_ediv_of_nonneg (by omega)]; rfl
  generalize over s.full (qf q) i = o at *
  generalize exD s.full (qf q) i = r at *
  have w1 : IntKind.i64.wrap (o + 1) = o + 1 := IntWalk.i64_in _ (by omega)
  have w2 : IntKind.i64.wrap ((o + 1).tdiv 2) = r := by rw [← hx]; exact IntWalk.i64_in _ (by rw [Int.tdiv_eq_ediv_of_nonneg (by omega)]; omega)
  rw [evF_s (fn := Try.f90) (msk := en90.ms) (hT := by rfl) (hb := by rfl)]
  simp only [Try.f90, go_sem, Nat.reduceAdd, Nat.reduceSub, Nat.reduceMul, Nat.reduceEqDiff, Nat.reduceBEq, Nat.reduceLT, Nat.reduceLeDiff, Nat.reducePow, Int.reduceToNat, Int.reduceLT, Int.reduceLE, Int.reduceGT, Int.reduceGE, Int.reduceEq, Int.reduceNeg, Int.reduceAdd, Int.reduceSub, ↓reduceIte, reduceCtorEq, look88, h10, bO, hov, w1, w2]
theorem e92 (L c lv : Nat) (s : Sen) (q : List Int) (st : Store) (h2 : st (0, 2) = bS s) (h3 : st (0, 3) = bQ q) (h10 : st (0, 10) = bO) (hq : outside q 4294967296 = false) (hf : 1 ≤ s.full ∧ s.full ≤ 1048576) (hl : q.length ≤ 1024) (i : Nat) (hi : i < q.length) :
    evF Try.prog G T L (c + 2) 92 [.d (.int .i64 i), .p (0, 10) 1 0 []] lv st = some (.d (.int .i64 (exU s.full (qf q) i)), st) := by
  have hb := over_bd hq hf.1 i
  have hov := fun lv => e88 L c lv s q st h2 h3 hq hf hl i hi
  have hx : (over s.full (qf q) i).tdiv 2 = exU s.full (qf q) i := by rw [Int.tdiv_eq_ediv_of_nonneg (by omega)]; rfl
  generalize over s.full (qf q) i = o at *
  generalize exU s.full (qf q) i = r at *
  have w2 : IntKind.i64.wrap (o.tdiv 2) = r := by rw [← hx]; exact IntWalk.i64_in _ (by rw [Int.tdiv_eq_ediv_of_nonneg (by omega)]; omega)
  rw [evF_s (fn := Try.f92) (msk := en92.ms) (hT := by rfl) (hb := by rfl)]
  simp only [Try.f92, go_sem, Nat.reduceAdd, Nat.reduceSub, Nat.reduceMul, Nat.reduceEqDiff, Nat.reduceBEq, Nat.reduceLT, Nat.reduceLeDiff, Nat.reducePow, Int.reduceToNat, Int.reduceLT, Int.reduceLE, Int.reduceGT, Int.reduceGE, Int.reduceEq, Int.reduceNeg, Int.reduceAdd, Int.reduceSub, ↓reduceIte, reduceCtorEq, look88, h10, bO, hov, w2]
/-! ### pour -/
theorem take_min (full f x : Int) : minI f (full - x) = take full f x := by unfold minI take; split <;> split <;> omega
def p (d : Nat) : V := .p (0, d) 1 0 []
/-- Which of the two closures pour is handed, and where it is called. -/
def Which (s : Sen) (q : List Int) (lv F : Nat) (ex : Nat → Int) : Prop := (lv = 68 ∧ F = 90 ∧ ex = exD s.full (qf q)) ∨ (lv = 77 ∧ F = 92 ∧ ex = exU s.full (qf q))
abbrev X := Nat × Int × Held × Store
def Fr (s : Sen) (lv : Nat) (st0 st : Store) : Prop := (∀ d, d ≠ 25 → st (0, d) = st0 (0, d)) ∧ st (lv, 4) = ⟨(st0 (lv, 4)).ver + 1, 56, [.d s.D], true⟩
def hdP (F lv v4 vc n : Nat) (ord : List Nat) (x : X) : List V := hd89_0 (.rs 27 (0, 25) 1 0 n true) (.fn F [p 10]) (.p (lv, 4) v4 0 []) (.d (.int .i64 x.2.1)) (.rs 3 (0, 60) vc 0 ord.length true) (.d (.int .i64 ord.length)) (.d (.int .i64 x.1))
def JP (s : Sen) (n : Nat) (ex : Nat → Int) (ord : List Nat) (h0 : Held) (lv : Nat) (st0 : Store) (x : X) : Prop :=
  x.1 ≤ ord.length ∧ x.2.2.2 (0, 25) = ⟨1, 27, row n x.2.2.1, true⟩ ∧ Fr s lv st0 x.2.2.2 ∧ (∀ i, 0 ≤ x.2.2.1 i ∧ x.2.2.1 i ≤ s.full) ∧ (0 ≤ x.2.1 ∧ x.2.1 ≤ x.1 * 4294967296) ∧ pour s.full ex (ord.drop x.1) x.2.1 x.2.2.1 = pour s.full ex ord 0 h0
def QP (s : Sen) (n : Nat) (ex : Nat → Int) (ord : List Nat) (h0 : Held) (lv : Nat) (st0 : Store) (x : X) (o : Out) : Prop :=
  ∃ st', o = some (.exit 0, hx89_0 (.d (.int .i64 (pour s.full ex ord 0 h0).2)), st') ∧ st' (0, 25) = ⟨1, 27, row n (pour s.full ex ord 0 h0).1, true⟩ ∧ Fr s lv st0 st' ∧ (∀ i, 0 ≤ (pour s.full ex ord 0 h0).1 i ∧ (pour s.full ex ord 0 h0).1 i ≤ s.full) ∧ 0 ≤ (pour s.full ex ord 0 h0).2 ∧ (pour s.full ex ord 0 h0).2 ≤ ord.length * 4294967296
theorem loopP (L c : Nat) (s : Sen) (q : List Int) (lv F : Nat) (ex : Nat → Int) (hW : Which s q lv F ex) (vc : Nat) (ord : List Nat) (h0 : Held) (st0 : Store) (h2 : st0 (0, 2) = bS s) (h3 : st0 (0, 3) = bQ q) (h10 : st0 (0, 10) = bO) (h60 : st0 (0, 60) = ⟨vc, 3, cel ord, true⟩)
    (hq : outside q 4294967296 = false) (hf : 1 ≤ s.full ∧ s.full ≤ 1048576) (hl : q.length ≤ 1024) (ho : ord.length ≤ 1024) (hi : ∀ i ∈ ord, i < q.length) :
    ∀ (m : Nat) (x : X) (env : List V), JP s q.length ex ord h0 lv st0 x → ord.length - x.1 < m → mask (maskOf en89.ms 0) env = hdP F lv ((st0 (lv, 4)).ver + 1) vc q.length ord x →
      QP s q.length ex ord h0 lv st0 x (iter (evC Try.prog G (evF Try.prog G T L (c + 2)) L en89.ms lv 0 lb89_0) (maskOf en89.ms 0) m env x.2.2.2) := by
  refine iter_rel _ _ (JP s q.length ex ord h0 lv st0) (hdP F lv ((st0 (lv, 4)).ver + 1) vc q.length ord) (fun x => x.2.2.2) (QP s q.length ex ord h0 lv st0) (fun x => ord.length - x.1) ?_
  rintro ⟨k, f, h, st⟩ ⟨hk, q25, ⟨qF, q4⟩, qh, ⟨f0, f1⟩, qe⟩ kk hkk
  simp only at hk q25 qF q4 qh f0 f1 qe
  by_cases hin : k < ord.length
  case neg =>
    obtain rfl : k = ord.length := by omega
    have hlt : ¬ (ord.length : Int) < ord.length := by omega
    rw [List.drop_length] at qe
    simp only [pour] at qe
    unfold QP
    rw [← qe]
    refine ⟨st, ?_, q25, ⟨qF, q4⟩, qh, f0, f1⟩
    simp only [lb89_0, loopN, loops, hdP, hd89_0, hx89_0, Try.f89, go_sem, Nat.reduceAdd, Nat.reduceSub, Nat.reduceMul, Nat.reduceEqDiff, Nat.reduceBEq, Nat.reduceLT, Nat.reduceLeDiff, Nat.reducePow, Int.reduceToNat, Int.reduceLT, Int.reduceLE, Int.reduceGT, Int.reduceGE, Int.reduceEq, Int.reduceNeg, Int.reduceAdd, Int.reduceSub, ↓reduceIte, reduceCtorEq, hlt]
  have hlt : (k : Int) < ord.length := by omega
  have g0 : (0 : Int) ≤ (k : Int) := by omega
  have ht : ((k : Int)).toNat = k := by omega
  have hw1 : IntKind.i64.wrap ((k : Int) + 1) = ((k + 1 : Nat) : Int) := by rw [IntWalk.i64_in _ (by omega)]; rfl
  have hc := cel_nth hin
  have him := hi ord[k] (List.getElem_mem _)
  rw [List.drop_eq_getElem_cons hin, pour] at qe
  have hkk' := fun f' h' st1 env a b e => (hkk (k + 1, f', h', st1) env a b e : QP s q.length ex ord h0 lv st0 (k + 1, f', h', st1) _)
  have hQ : ∀ f' h' st1 o, QP s q.length ex ord h0 lv st0 (k + 1, f', h', st1) o → QP s q.length ex ord h0 lv st0 (k, f, h, st) o := fun _ _ _ _ h => h
  generalize ord[k] = i at *
  have hn := row_nth h him
  have hi0 : (0 : Int) ≤ (i : Int) := by omega
  have hit : ((i : Int)).toNat = i := by omega
  have hil : (i : Int) < q.length := by omega
  obtain ⟨x0, x1⟩ := qh i
  have htk := take_min s.full f (h i)
  have hkb : 0 ≤ take s.full f (h i) ∧ take s.full f (h i) ≤ f ∧ h i + take s.full f (h i) ≤ s.full := by unfold take; split <;> omega
  have hset := row_set h (h i + take s.full f (h i)) him
  have r2 : st (0, 2) = bS s := by rw [qF 2 (by decide)]; exact h2
  have r3 : st (0, 3) = bQ q := by rw [qF 3 (by decide)]; exact h3
  have r10 : st (0, 10) = bO := by rw [qF 10 (by decide)]; exact h10
  have r60 : st (0, 60) = ⟨vc, 3, cel ord, true⟩ := by rw [qF 60 (by decide)]; exact h60
  have hex : (0 ≤ ex i ∧ ex i ≤ 4294967296) := by
    rcases hW with ⟨_, _, rfl⟩ | ⟨_, _, rfl⟩
    · exact exD_bd hq hf.1 i
    · exact exU_bd hq hf.1 i
  have hcl : (cel ord).length = ord.length := by simp [cel]
  have hrl := row_len q.length h
  have e9 := fun st' a b d => e90 L c 0 s q st' a b d hq hf hl i him
  have e9a := fun lv st' a b d => e90 L c lv s q st' a b d hq hf hl i him
  have e9b := fun lv st' a b d => e92 L c lv s q st' a b d hq hf hl i him
  have hD : s.D = .agg 56 [.int .i64 s.w, .int .i64 s.h, .sl 3 (s.b.map (.int .i64)), .sl 47 (s.d.map (.int .i64)), .sl 3 (s.f.map (.int .i64)), .int .i64 s.full, .int .i64 s.gain, .int .i64 s.noise] := rfl
  rw [hD] at q4
  have w1 : IntKind.i64.wrap (s.full - h i) = s.full - h i := IntWalk.i64_in _ (by omega)
  generalize take s.full f (h i) = tk at *
  have w2 : IntKind.i64.wrap (h i + tk) = h i + tk := IntWalk.i64_in _ (by omega)
  have hbd : f + (ex i - tk) ≤ ((k + 1 : Nat) : Int) * 4294967296 ∧ (k : Int) * 4294967296 ≤ 4398046511104 := by omega
  have w3 : IntKind.i64.wrap (ex i - tk) = ex i - tk := IntWalk.i64_in _ (by omega)
  have w4 : IntKind.i64.wrap (f + (ex i - tk)) = f + (ex i - tk) := IntWalk.i64_in _ (by omega)
  have fin : ∀ st1 env, st1 (0, 25) = ⟨1, 27, row q.length (put h i (h i + tk)), true⟩ → Fr s lv st0 st1 → mask (maskOf en89.ms 0) env = hdP F lv ((st0 (lv, 4)).ver + 1) vc q.length ord (k + 1, f + (ex i - tk), put h i (h i + tk), st1) → QP s q.length ex ord h0 lv st0 (k, f, h, st) (kk env st1) := by
    intro st1 env a b e
    have hput : ∀ j, 0 ≤ put h i (h i + tk) j ∧ put h i (h i + tk) j ≤ s.full := by
      intro j
      by_cases ej : j = i
      · subst ej
        rw [put_at]
        omega
      · rw [put_ne ej]
        exact qh j
    exact hQ _ _ _ _ (hkk' _ _ st1 env ⟨by simp only; omega, a, b, hput, ⟨by simp only; omega, by simp only; omega⟩, qe⟩ (by simp only; omega) e)
  rcases hW with ⟨rfl, rfl, rfl⟩ | ⟨rfl, rfl, rfl⟩
  all_goals
    simp only [lb89_0, loopN, loops, hdP, hd89_0, p, Try.f89, go_sem, Nat.reduceAdd, Nat.reduceSub, Nat.reduceMul, Nat.reduceEqDiff, Nat.reduceBEq, Nat.reduceLT, Nat.reduceLeDiff, Nat.reducePow, Int.reduceToNat, Int.reduceLT, Int.reduceLE, Int.reduceGT, Int.reduceGE, Int.reduceEq, Int.reduceNeg, Int.reduceAdd, Int.reduceSub, ↓reduceIte, reduceCtorEq, look90, look92, hlt, g0, ht, hi0, hit, hil, hc, hcl, hn, hrl, hset, q25, q4, r60, htk, w1, w2, w3, w4, e9a, e9b, r2, r3, r10, Nat.zero_add, hw1]
    refine fin _ _ (by simp only [go_sem, Nat.reduceAdd, Nat.reduceSub, Nat.reduceMul, Nat.reduceEqDiff, Nat.reduceBEq, Nat.reduceLT, Nat.reduceLeDiff, Nat.reducePow, Int.reduceToNat, Int.reduceLT, Int.reduceLE, Int.reduceGT, Int.reduceGE, Int.reduceEq, Int.reduceNeg, Int.reduceAdd, Int.reduceSub, ↓reduceIte, reduceCtorEq]) ⟨fun d hd => ?_, by simp only [go_sem, Nat.reduceAdd, Nat.reduceSub, Nat.reduceMul, Nat.reduceEqDiff, Nat.reduceBEq, Nat.reduceLT, Nat.reduceLeDiff, Nat.reducePow, Int.reduceToNat, Int.reduceLT, Int.reduceLE, Int.reduceGT, Int.reduceGE, Int.reduceEq, Int.reduceNeg, Int.reduceAdd, Int.reduceSub, ↓reduceIte, reduceCtorEq, q4, hD]⟩ (by simp only [hdP, hd89_0, p, go_sem, Nat.reduceAdd, Nat.reduceSub, Nat.reduceMul, Nat.reduceEqDiff, Nat.reduceBEq, Nat.reduceLT, Nat.reduceLeDiff, Nat.reducePow, Int.reduceToNat, Int.reduceLT, Int.reduceLE, Int.reduceGT, Int.reduceGE, Int.reduceEq, Int.reduceNeg, Int.reduceAdd, Int.reduceSub, ↓reduceIte, reduceCtorEq, hw1])
    have hd' : (d == 25) = false := beq_eq_false_iff_ne.2 hd
    simp only [go_sem, Nat.reduceAdd, Nat.reduceSub, Nat.reduceMul, Nat.reduceEqDiff, Nat.reduceBEq, Nat.reduceLT, Nat.reduceLeDiff, Nat.reducePow, Int.reduceToNat, Int.reduceLT, Int.reduceLE, Int.reduceGT, Int.reduceGE, Int.reduceEq, Int.reduceNeg, Int.reduceAdd, Int.reduceSub, ↓reduceIte, reduceCtorEq, hd', qF d hd]
def Ans (st : Store) (n : Nat) (r : Held × Int) (z : Option (V × Store)) : Prop := ∃ st', z = some (.d (.int .i64 r.2), st') ∧ st' (0, 25) = ⟨1, 27, row n r.1, true⟩ ∧ ∀ d, d ≠ 25 → st' (0, d) = st (0, d)
theorem ex_then {R : Out → Prop} {o : Out} {P : Program} {rs : List ResultVar} {id : Nat} {k : Run} {C : Option (V × Store) → Prop} (hR : R o) (h : ∀ o, R o → C (outR P rs (seqR (blkR id o) k))) : C (outR P rs (seqR (blkR id o) k)) := h o hR
theorem ePour (L c : Nat) (s : Sen) (q : List Int) (lv F : Nat) (ex : Nat → Int) (hW : Which s q lv F ex) (vc : Nat) (ord : List Nat) (h : Held) (st : Store) (h2 : st (0, 2) = bS s) (h3 : st (0, 3) = bQ q) (h10 : st (0, 10) = bO) (h60 : st (0, 60) = ⟨vc, 3, cel ord, true⟩) (h25 : st (0, 25) = ⟨1, 27, row q.length h, true⟩)
    (hq : outside q 4294967296 = false) (hf : 1 ≤ s.full ∧ s.full ≤ 1048576) (hl : q.length ≤ 1024) (ho : ord.length ≤ 1024) (hL : ord.length < L) (hi : ∀ i ∈ ord, i < q.length) (hh : ∀ i, 0 ≤ h i ∧ h i ≤ s.full) :
    Ans st q.length (pour s.full ex ord 0 h) (evF Try.prog G T L (c + 3) 89 [.d s.D, .rs 27 (0, 25) 1 0 q.length true, .rs 3 (0, 60) vc 0 ord.length true, .fn F [p 10]] lv st) := by
  have hD : s.D = .agg 56 [.int .i64 s.w, .int .i64 s.h, .sl 3 (s.b.map (.int .i64)), .sl 47 (s.d.map (.int .i64)), .sl 3 (s.f.map (.int .i64)), .int .i64 s.full, .int .i64 s.gain, .int .i64 s.noise] := rfl
  have hcl : (cel ord).length = ord.length := by simp [cel]
  have hWi := hW
  have hrl := row_len q.length h
  rcases hW with ⟨rfl, rfl, rfl⟩ | ⟨rfl, rfl, rfl⟩
  all_goals
    rw [evF_s (fn := Try.f89) (msk := en89.ms) (hT := by rfl) (hb := by rfl)]
    simp only [Try.f89, p, go_sem, Nat.reduceAdd, Nat.reduceSub, Nat.reduceMul, Nat.reduceEqDiff, Nat.reduceBEq, Nat.reduceLT, Nat.reduceLeDiff, Nat.reducePow, Int.reduceToNat, Int.reduceLT, Int.reduceLE, Int.reduceGT, Int.reduceGE, Int.reduceEq, Int.reduceNeg, Int.reduceAdd, Int.reduceSub, ↓reduceIte, reduceCtorEq, hD, h60, h25, hcl, hrl]
    first
      | refine ex_then (C := Ans st q.length (pour s.full (exD s.full (qf q)) ord 0 h)) (R := QP s q.length (exD s.full (qf q)) ord h 68 st (0, 0, h, _)) (loopP L c s q 68 90 _ hWi vc ord h st h2 h3 h10 h60 hq hf hl ho hi _ (0, 0, h, _) _ ⟨by simp only; omega, by simp only [go_sem, Nat.reduceAdd, Nat.reduceSub, Nat.reduceMul, Nat.reduceEqDiff, Nat.reduceBEq, Nat.reduceLT, Nat.reduceLeDiff, Nat.reducePow, Int.reduceToNat, Int.reduceLT, Int.reduceLE, Int.reduceGT, Int.reduceGE, Int.reduceEq, Int.reduceNeg, Int.reduceAdd, Int.reduceSub, ↓reduceIte, reduceCtorEq, h25], ⟨fun d hd => by simp only [go_sem, Nat.reduceAdd, Nat.reduceSub, Nat.reduceMul, Nat.reduceEqDiff, Nat.reduceBEq, Nat.reduceLT, Nat.reduceLeDiff, Nat.reducePow, Int.reduceToNat, Int.reduceLT, Int.reduceLE, Int.reduceGT, Int.reduceGE, Int.reduceEq, Int.reduceNeg, Int.reduceAdd, Int.reduceSub, ↓reduceIte, reduceCtorEq], by simp only [go_sem, Nat.reduceAdd, Nat.reduceSub, Nat.reduceMul, Nat.reduceEqDiff, Nat.reduceBEq, Nat.reduceLT, Nat.reduceLeDiff, Nat.reducePow, Int.reduceToNat, Int.reduceLT, Int.reduceLE, Int.reduceGT, Int.reduceGE, Int.reduceEq, Int.reduceNeg, Int.reduceAdd, Int.reduceSub, ↓reduceIte, reduceCtorEq, hD]⟩, hh, ⟨by simp only; omega, by simp only; omega⟩, rfl⟩ (by simp only; omega) (by simp only [hdP, hd89_0, p, go_sem, Nat.reduceAdd, Nat.reduceSub, Nat.reduceMul, Nat.reduceEqDiff, Nat.reduceBEq, Nat.reduceLT, Nat.reduceLeDiff, Nat.reducePow, Int.reduceToNat, Int.reduceLT, Int.reduceLE, Int.reduceGT, Int.reduceGE, Int.reduceEq, Int.reduceNeg, Int.reduceAdd, Int.reduceSub, ↓reduceIte, reduceCtorEq])) ?_
      | refine ex_then (C := Ans st q.length (pour s.full (exU s.full (qf q)) ord 0 h)) (R := QP s q.length (exU s.full (qf q)) ord h 77 st (0, 0, h, _)) (loopP L c s q 77 92 _ hWi vc ord h st h2 h3 h10 h60 hq hf hl ho hi _ (0, 0, h, _) _ ⟨by simp only; omega, by simp only [go_sem, Nat.reduceAdd, Nat.reduceSub, Nat.reduceMul, Nat.reduceEqDiff, Nat.reduceBEq, Nat.reduceLT, Nat.reduceLeDiff, Nat.reducePow, Int.reduceToNat, Int.reduceLT, Int.reduceLE, Int.reduceGT, Int.reduceGE, Int.reduceEq, Int.reduceNeg, Int.reduceAdd, Int.reduceSub, ↓reduceIte, reduceCtorEq, h25], ⟨fun d hd => by simp only [go_sem, Nat.reduceAdd, Nat.reduceSub, Nat.reduceMul, Nat.reduceEqDiff, Nat.reduceBEq, Nat.reduceLT, Nat.reduceLeDiff, Nat.reducePow, Int.reduceToNat, Int.reduceLT, Int.reduceLE, Int.reduceGT, Int.reduceGE, Int.reduceEq, Int.reduceNeg, Int.reduceAdd, Int.reduceSub, ↓reduceIte, reduceCtorEq], by simp only [go_sem, Nat.reduceAdd, Nat.reduceSub, Nat.reduceMul, Nat.reduceEqDiff, Nat.reduceBEq, Nat.reduceLT, Nat.reduceLeDiff, Nat.reducePow, Int.reduceToNat, Int.reduceLT, Int.reduceLE, Int.reduceGT, Int.reduceGE, Int.reduceEq, Int.reduceNeg, Int.reduceAdd, Int.reduceSub, ↓reduceIte, reduceCtorEq, hD]⟩, hh, ⟨by simp only; omega, by simp only; omega⟩, rfl⟩ (by simp only; omega) (by simp only [hdP, hd89_0, p, go_sem, Nat.reduceAdd, Nat.reduceSub, Nat.reduceMul, Nat.reduceEqDiff, Nat.reduceBEq, Nat.reduceLT, Nat.reduceLeDiff, Nat.reducePow, Int.reduceToNat, Int.reduceLT, Int.reduceLE, Int.reduceGT, Int.reduceGE, Int.reduceEq, Int.reduceNeg, Int.reduceAdd, Int.reduceSub, ↓reduceIte, reduceCtorEq])) ?_
    rintro o ⟨st', rfl, q25, ⟨qF, q4⟩, _⟩
    simp only [hx89_0, Try.f89, go_sem, Nat.reduceAdd, Nat.reduceSub, Nat.reduceMul, Nat.reduceEqDiff, Nat.reduceBEq, Nat.reduceLT, Nat.reduceLeDiff, Nat.reducePow, Int.reduceToNat, Int.reduceLT, Int.reduceLE, Int.reduceGT, Int.reduceGE, Int.reduceEq, Int.reduceNeg, Int.reduceAdd, Int.reduceSub, ↓reduceIte, reduceCtorEq]
    exact ⟨_, rfl, q25, qF⟩
end Go.Proofs.Ytjplkbeolakbjaa.Bleed1Sens
end
section
set_option linter.unusedVariables false
set_option linter.unusedSimpArgs false
set_option maxRecDepth 100000
namespace Go.Proofs.Ytjplkbeolakbjaa.RevSens
open Go.Ev Go.Proofs.Ytjplkbeolakbjaa.FxSens Go.Proofs.Ytjplkbeolakbjaa.Bleed1Sens
attribute [local go_sem] Ev.putR_s Ev.putR_0 Ev.thenO_s Ev.thenO_0 Ev.seqR_n Ev.seqR_e Ev.seqR_r Ev.seqR_0 Ev.blkR_e Ev.blkR_n Ev.blkR_r Ev.blkR_0 Ev.normR_s Ev.normR_0 Ev.outR_r Ev.outR_n Ev.outR_0 Ev.retS_s Ev.retS_0 Ev.pureO_s Ev.pureO_0 Ev.topR_0 Ev.topR_t Ev.topR_t0 Ev.oneL_0 Ev.oneL_s Ev.topR_d Ev.topR_nils Ev.topR_agg Ev.topR_rs Ev.evOp_move Ev.evOp_assign Ev.evOp_pick Ev.evOp_alloc Ev.evOp_box Ev.evOp_build Ev.evOp_buildSlice Ev.evOp_load Ev.evOp_store Ev.evOp_makeMap Ev.evOp_lookup Ev.evOp_mapUpdate Ev.evOp_insert Ev.evOp_nilCheck Ev.evOp_binOp Ev.evOp_unOp Ev.evOp_convert Ev.evOp_makeFunc Ev.evOp_makeSlice Ev.evOp_slice Ev.evOp_fieldAddr Ev.evOp_field Ev.evOp_indexAddr Ev.evOp_index Ev.evOp_extract Ev.evOp_call Ev.evOp_append Ev.evOp_len Ev.evOp_min Ev.evOp_max Ev.condR_b Ev.condR_t Ev.evOps_nil Ev.evOps_plain Ev.evOps_guard Ev.runG_eq Ev.skipG_eq Ev.condL_tt Ev.condL_ff Ev.condL_tf Ev.condL_ft Ev.condL_u Ev.condC_t Ev.condC_f Ev.evC_skip Ev.evC_ret Ev.evC_exit Ev.evC_label Ev.evC_region Ev.evC_draw Ev.evC_seq Ev.evC_cond Ev.evC_block Ev.evC_loop Ev.fin_d Ev.fin_nils Ev.fin_agg_ Ev.fin_rs Ev.finS_s Ev.mapO_fin Ev.upd_upd Ev.argv_d Ev.argv_nils Ev.argv_agg Ev.argv_rs Ev.argv_p Ev.appendTo_nils Ev.appendTo_rs Ev.consV_d Ev.consV_agg Ev.consV_p Ev.consV_rs Ev.consV_nils Ev.consV_fn Ev.consV_und Ev.consV_jk Ev.consV_grown Ev.topR_grown Ev.len_grown Ev.consV_mp Ev.sameK_i Ev.sameK_s Ev.mget_0 Ev.mget_hit Ev.mget_miss Ev.mput_0 Ev.mput_hit Ev.mput_miss Ev.apartAll Ev.apartL Ev.apartV Ev.freeAll Ev.sel Ev.keyOfV Ev.evLookup Ev.evPut Ev.hintOk Ev.keyOk Ev.consP Ev.lookV Ev.guardV Ev.dstAt Ev.evPure Ev.evStore Ev.evPureB Ev.evBin Ev.evBinO Ev.evNil Ev.isNilC Ev.evUn Ev.evConv Ev.evSlice Ev.optI Ev.lenV Ev.elemT Ev.foldI Ev.capsOk Ev.noTup Ev.nth Ev.setN Ev.pad Ev.V.get Ev.V.put Ev.putD Ev.hasT Ev.newBlk Ev.upd Ev.keq Ev.empty Ev.evCall Ev.V.args Ev.argP Ev.callOf Ev.evNilP Ev.isNilP Ev.look Ev.V.view.views Ev.V.view Ev.V.toD Ev.V.toD.V.toDs Ev.V.pure.pures Ev.V.pure Ev.D.flat.flats Ev.D.flat Ev.mkAgg Ev.allD Ev.aggParts Ev.setParts Ev.setElems Ev.getPath Ev.setPath Ev.subL Ev.eqD Ev.eqD.eqDs Ev.and2 Ev.strCut Ev.evalT Ev.constT Ev.evArgs Ev.mask Ev.maskOf Ev.tableOf Ev.compT Ev.resV Ev.retV Ev.mapO Ev.elemsOf Int.cast_ofNat_Int IntWalk.i64_in IntWalk.u64_in IntWalk.u8_in beq_self_eq_true Bool.true_beq Bool.false_beq Bool.and_true Bool.true_and Bool.false_and Bool.and_false Bool.and_self Bool.not_true Bool.not_false Bool.not_eq_true cond_true cond_false if_true if_false and_true true_and and_self decide_true decide_false Bool.or_true Bool.true_or Bool.or_false Bool.false_or List.isEmpty List.isEmpty_nil List.size_toArray List.map List.length_map List.length_cons List.length_nil Option.map Option.bind Option.getD Option.isSome List.replicate Bool.false_eq_true implies_true forall_const Array.toList Array.isEmpty List.append List.nil_append List.cons_append List.drop_zero List.take_length List.take_succ_cons List.take_zero List.take_nil List.getElem?_map List.getElem?_cons_zero List.getElem?_cons_succ List.getElem?_nil List.append_nil
attribute [local go_sem] FxSens.tk2 FxSens.ik2 FxSens.zv2 FxSens.tk3 FxSens.ik3 FxSens.zv3 FxSens.by3 FxSens.so3 FxSens.tk4 FxSens.ub4 FxSens.zv4 FxSens.tk22 FxSens.ik22 FxSens.zv22 FxSens.tk27 FxSens.ik27 FxSens.zv27 FxSens.by27 FxSens.so27 FxSens.tk32 FxSens.zv32 FxSens.tk36 FxSens.ik36 FxSens.zv36 FxSens.tk47 FxSens.ik47 FxSens.zv47 FxSens.by47 FxSens.so47 FxSens.tk54 FxSens.zv54 FxSens.tk56 FxSens.ct56 FxSens.zv56 FxSens.tk73 FxSens.zv73 FxSens.tk96 FxSens.ik96 FxSens.zv96 FxSens.tk97 FxSens.ct97 FxSens.zv97 FxSens.by97 FxSens.so97 FxSens.tk98 FxSens.zv98 FxSens.tk107 FxSens.zv107 FxSens.tk120 FxSens.zv120 FxSens.tk124 FxSens.zv124 FxSens.tk152 FxSens.zv152 FxSens.tk155 FxSens.zv155 FxSens.mk10_1000000 FxSens.mk15_1000000 FxSens.dw17_6 FxSens.nc17_6 FxSens.mk17_0 FxSens.mk17_1000001 FxSens.mk17_1000002 FxSens.mk17_1000000 FxSens.mk18_1000000 FxSens.mk19_1000000 FxSens.dw39_6 FxSens.nc39_6 FxSens.mk39_0 FxSens.mk39_1000001 FxSens.mk39_1000002 FxSens.mk39_1000000 FxSens.mk42_1000000 FxSens.mk43_1000001 FxSens.mk43_1000000 FxSens.mk44_0 FxSens.mk44_2 FxSens.mk44_1000001 FxSens.mk44_1000002 FxSens.mk44_1000003 FxSens.mk44_1000004 FxSens.mk44_1000000 FxSens.mk45_0 FxSens.mk45_2 FxSens.mk45_4 FxSens.mk45_1000001 FxSens.mk45_1000002 FxSens.mk45_1000003 FxSens.mk45_1000004 FxSens.mk45_1000005 FxSens.mk45_1000006 FxSens.mk45_1000000 FxSens.dw46_28 FxSens.nc46_28 FxSens.mk46_0 FxSens.mk46_2 FxSens.mk46_4 FxSens.mk46_1000001 FxSens.mk46_1000002 FxSens.mk46_1000003 FxSens.mk46_1000004 FxSens.mk46_1000005 FxSens.mk46_1000006 FxSens.mk46_1000000 FxSens.dw47_6 FxSens.nc47_6 FxSens.mk47_0 FxSens.mk47_1000001 FxSens.mk47_1000002 FxSens.mk47_1000000 FxSens.dw48_10 FxSens.nc48_10 FxSens.dw48_11 FxSens.nc48_11 FxSens.mk48_0 FxSens.mk48_1000001 FxSens.mk48_1000002 FxSens.mk48_1000000 FxSens.mk61_1000000 FxSens.mk83_1000000 FxSens.mk84_1000000 FxSens.mk85_1000000 FxSens.mk86_1000000 FxSens.mk87_1000000 FxSens.dw88_1 FxSens.nc88_1 FxSens.mk88_1000000 FxSens.dw89_5 FxSens.nc89_5 FxSens.mk89_0 FxSens.mk89_1000001 FxSens.mk89_1000002 FxSens.mk89_1000000 FxSens.mk90_1000000 FxSens.dw91_3 FxSens.nc91_3 FxSens.mk91_0 FxSens.mk91_1000001 FxSens.mk91_1000002 FxSens.mk91_1000000 FxSens.mk92_1000000 FxSens.mk93_1000000 FxSens.mk94_0 FxSens.mk94_1000001 FxSens.mk94_1000002 FxSens.mk94_1000000 FxSens.dw95_3 FxSens.nc95_3 FxSens.dw95_6 FxSens.nc95_6 FxSens.mk95_0 FxSens.mk95_1000001 FxSens.mk95_1000002 FxSens.mk95_1000000 FxSens.mk114_1000000 FxSens.mk115_1000000 FxSens.mk116_1000000 FxSens.mk117_1000000 FxSens.mk118_1000000 FxSens.mk119_1000000 FxSens.mk128_0 FxSens.mk128_1000001 FxSens.mk128_1000002 FxSens.mk128_1000000 FxSens.mk129_0 FxSens.mk129_1000001 FxSens.mk129_1000002 FxSens.mk129_1000000 FxSens.mk130_0 FxSens.mk130_1000001 FxSens.mk130_1000002 FxSens.mk130_1000000
def rvf (l : List Nat) (i k : Nat) : Nat := if k < i ∨ l.length ≤ k + i then l.getD (l.length - 1 - k) 0 else l.getD k 0
def rv (l : List Nat) (i : Nat) : List Nat := (List.range l.length).map (rvf l i)
theorem rv_len (l : List Nat) (i : Nat) : (rv l i).length = l.length := by simp [rv]
theorem rv_0 (l : List Nat) : rv l 0 = l := by
  refine List.ext_getElem (by simp [rv]) fun k h1 h2 => ?_
  simp only [rv, List.getElem_map, List.getElem_range, rvf]
  rw [if_neg (by omega)]
  simp [h2]
theorem rv_end {l : List Nat} {i : Nat} (h : l.length ≤ 2 * i + 1) : rv l i = l.reverse := by
  refine List.ext_getElem (by simp [rv]) fun k h1 h2 => ?_
  have hk : k < l.length := by simpa [rv] using h1
  simp only [rv, List.getElem_map, List.getElem_range, List.getElem_reverse, rvf]
  by_cases e : k < i ∨ l.length ≤ k + i
  · rw [if_pos e]; simp [show l.length - 1 - k < l.length by omega]
  · rw [if_neg e]
    have : k = l.length - 1 - k := by omega
    have h3 : l.getD k 0 = l.getD (l.length - 1 - k) 0 := by rw [← this]
    rw [h3]
    simp [show l.length - 1 - k < l.length by omega]
theorem nth_rv {l : List Nat} {i k : Nat} (hk : k < l.length) : nth (cel (rv l i)) k = some (.d (.int .i64 (rvf l i k : Nat))) := by
  rw [cel_nth (by rw [rv_len]; exact hk)]
  simp [rv]
theorem set_rv {l : List Nat} {i j : Nat} (h : i + j + 1 = l.length) (hij : i < j) : setN (setN (cel (rv l i)) i (.d (.int .i64 (rvf l i j : Nat)))) j (.d (.int .i64 (rvf l i i : Nat))) = cel (rv l (i + 1)) := by
  rw [setN_eq, setN_eq]
  refine List.ext_getElem (by simp [cel, rv]) fun k h1 h2 => ?_
  have hk : k < l.length := by simpa [cel, rv] using h2
  simp only [cel, List.getElem_set, List.getElem_map, rv, List.getElem_range]
  have e1 : rvf l i j = l.getD j 0 := by unfold rvf; rw [if_neg (by omega)]
  have e2 : rvf l i i = l.getD i 0 := by unfold rvf; rw [if_neg (by omega)]
  rw [e1, e2]
  unfold rvf
  by_cases c1 : j = k
  · subst c1
    rw [if_pos rfl, if_pos (by omega)]
    have : l.length - 1 - j = i := by omega
    rw [this]
  rw [if_neg c1]
  by_cases c2 : i = k
  · subst c2
    rw [if_pos rfl, if_pos (by omega)]
    have : l.length - 1 - i = j := by omega
    rw [this]
  rw [if_neg c2]
  by_cases c3 : k < i ∨ l.length ≤ k + i
  · rw [if_pos c3, if_pos (by omega)]
  · rw [if_neg c3, if_neg (by omega)]
def hd (n vc i : Nat) : List V := hd91_0 (.rs 3 (0, 60) vc 0 n true) (.d (.int .i64 i)) (.d (.int .i64 ((n : Int) - 1 - i)))
def J (l : List Nat) (vc : Nat) (st0 : Store) (x : Nat × Store) : Prop := x.1 ≤ l.length ∧ x.2 (0, 60) = ⟨vc, 3, cel (rv l x.1), true⟩ ∧ ∀ d, d ≠ 60 → x.2 (0, d) = st0 (0, d)
def Q (l : List Nat) (vc : Nat) (st0 : Store) (x : Nat × Store) (o : Out) : Prop := ∃ st', o = some (.exit 0, hx91_0, st') ∧ st' (0, 60) = ⟨vc, 3, cel l.reverse, true⟩ ∧ ∀ d, d ≠ 60 → st' (0, d) = st0 (0, d)
theorem loop (L lv : Nat) (call : Caller) (l : List Nat) (vc : Nat) (st0 : Store) (hl : l.length ≤ 1024) :
    ∀ (m : Nat) (x : Nat × Store) (env : List V), J l vc st0 x → l.length - x.1 < m → mask (maskOf en91.ms 0) env = hd l.length vc x.1 →
      Q l vc st0 x (iter (evC Try.prog G call L en91.ms lv 0 lb91_0) (maskOf en91.ms 0) m env x.2) := by
  refine iter_rel _ _ (J l vc st0) (fun x => hd l.length vc x.1) (fun x => x.2) (Q l vc st0) (fun x => l.length - x.1) ?_
  rintro ⟨i, st⟩ ⟨hi, q60, qF⟩ k hk
  simp only at hi q60 qF
  by_cases hin : (i : Int) < (l.length : Int) - 1 - i
  case neg =>
    rw [rv_end (by omega)] at q60
    refine ⟨st, ?_, q60, qF⟩
    simp only [lb91_0, loopN, loops, hd, hd91_0, hx91_0, Try.f91, go_sem, Nat.reduceAdd, Nat.reduceSub, Nat.reduceMul, Nat.reduceEqDiff, Nat.reduceBEq, Nat.reduceLT, Nat.reduceLeDiff, Nat.reducePow, Int.reduceToNat, Int.reduceLT, Int.reduceLE, Int.reduceGT, Int.reduceGE, Int.reduceEq, Int.reduceNeg, Int.reduceAdd, Int.reduceSub, ↓reduceIte, reduceCtorEq, hin]
  obtain ⟨j, hj⟩ : ∃ j : Nat, i + j + 1 = l.length := ⟨l.length - 1 - i, by omega⟩
  have ej : (l.length : Int) - 1 - i = j := by omega
  have hij : i < j := by omega
  have n1 := nth_rv (l := l) (i := i) (k := j) (by omega)
  have n2 := nth_rv (l := l) (i := i) (k := i) (by omega)
  have ns := set_rv hj hij
  have hcl : (cel (rv l i)).length = l.length := by simp [cel, rv]
  have hcs : ∀ v, (setN (cel (rv l i)) i v).length = l.length := fun v => by rw [setN_eq]; simp [cel, rv]
  have hns : ∀ v, nth (setN (cel (rv l i)) i v) j = some (.d (.int .i64 (rvf l i j : Nat))) := fun v => by
    rw [nth_eq, setN_eq, List.getElem?_set_ne (by omega), ← nth_eq]; exact n1
  have g0 : (0 : Int) ≤ (i : Int) := by omega
  have g1 : (i : Int) < l.length := by omega
  have g2 : (0 : Int) ≤ (j : Int) := by omega
  have g3 : (j : Int) < l.length := by omega
  have t0 : ((i : Int)).toNat = i := by omega
  have t1 : ((j : Int)).toNat = j := by omega
  have w1 : IntKind.i64.wrap ((i : Int) + 1) = ((i + 1 : Nat) : Int) := by rw [IntWalk.i64_in _ (by omega)]; rfl
  have w2 : IntKind.i64.wrap ((j : Int) - 1) = (j : Int) - 1 := IntWalk.i64_in _ (by omega)
  have hk' := fun st1 env a b c => (hk (i + 1, st1) env a b c : Q l vc st0 (i + 1, st1) _)
  have hQ : ∀ st1 o, Q l vc st0 (i + 1, st1) o → Q l vc st0 (i, st) o := fun _ _ h => h
  have hij' : (i : Int) < (j : Int) := by omega
  have e3 : (l.length : Int) - 1 - ((i + 1 : Nat) : Int) = (j : Int) - 1 := by omega
  unfold hd
  rw [ej]
  simp only [lb91_0, loopN, loops, hd91_0, Try.f91, go_sem, Nat.reduceAdd, Nat.reduceSub, Nat.reduceMul, Nat.reduceEqDiff, Nat.reduceBEq, Nat.reduceLT, Nat.reduceLeDiff, Nat.reducePow, Int.reduceToNat, Int.reduceLT, Int.reduceLE, Int.reduceGT, Int.reduceGE, Int.reduceEq, Int.reduceNeg, Int.reduceAdd, Int.reduceSub, ↓reduceIte, reduceCtorEq, hij', g0, g1, g2, g3, t0, t1, q60, hcl, hcs, n1, n2, ns, hns, w1, w2, Nat.zero_add]
  refine hQ _ _ (hk' _ _ ⟨by omega, by simp only [go_sem, Nat.reduceAdd, Nat.reduceSub, Nat.reduceMul, Nat.reduceEqDiff, Nat.reduceBEq, Nat.reduceLT, Nat.reduceLeDiff, Nat.reducePow, Int.reduceToNat, Int.reduceLT, Int.reduceLE, Int.reduceGT, Int.reduceGE, Int.reduceEq, Int.reduceNeg, Int.reduceAdd, Int.reduceSub, ↓reduceIte, reduceCtorEq], fun d hd => ?_⟩ (by omega) (by unfold hd; rw [e3]; simp only [hd91_0, go_sem, Nat.reduceAdd, Nat.reduceSub, Nat.reduceMul, Nat.reduceEqDiff, Nat.reduceBEq, Nat.reduceLT, Nat.reduceLeDiff, Nat.reducePow, Int.reduceToNat, Int.reduceLT, Int.reduceLE, Int.reduceGT, Int.reduceGE, Int.reduceEq, Int.reduceNeg, Int.reduceAdd, Int.reduceSub, ↓reduceIte, reduceCtorEq, w1, w2]))
  have hd' : (d == 60) = false := beq_eq_false_iff_ne.2 hd
  simp only [go_sem, Nat.reduceAdd, Nat.reduceSub, Nat.reduceMul, Nat.reduceEqDiff, Nat.reduceBEq, Nat.reduceLT, Nat.reduceLeDiff, Nat.reducePow, Int.reduceToNat, Int.reduceLT, Int.reduceLE, Int.reduceGT, Int.reduceGE, Int.reduceEq, Int.reduceNeg, Int.reduceAdd, Int.reduceSub, ↓reduceIte, reduceCtorEq, hd', qF d hd]
def Ans (st : Store) (l : List Nat) (vc : Nat) (z : Option (V × Store)) : Prop := ∃ st', z = some (.tup [], st') ∧ st' (0, 60) = ⟨vc, 3, cel l.reverse, true⟩ ∧ ∀ d, d ≠ 60 → st' (0, d) = st (0, d)
theorem ex_end {R : Out → Prop} {o : Out} {P : Program} {rs : List ResultVar} {id : Nat} {C : Option (V × Store) → Prop} (hR : R o) (h : ∀ o, R o → C (outR P rs (blkR id o))) : C (outR P rs (blkR id o)) := h o hR
theorem eRev (L c : Nat) (l : List Nat) (vc : Nat) (st : Store) (h60 : st (0, 60) = ⟨vc, 3, cel l, true⟩) (hl : l.length ≤ 1024) (hL : l.length < L) :
    Ans st l vc (evF Try.prog G T L (c + 1) 91 [.rs 3 (0, 60) vc 0 l.length true] 71 st) := by
  have hcl : (cel l).length = l.length := by simp [cel]
  have w1 : IntKind.i64.wrap ((l.length : Int) - 1) = (l.length : Int) - 1 := IntWalk.i64_in _ (by omega)
  have e3 : (l.length : Int) - 1 - ((0 : Nat) : Int) = (l.length : Int) - 1 := by omega
  rw [evF_s (fn := Try.f91) (msk := en91.ms) (hT := by rfl) (hb := by rfl)]
  simp only [Try.f91, go_sem, Nat.reduceAdd, Nat.reduceSub, Nat.reduceMul, Nat.reduceEqDiff, Nat.reduceBEq, Nat.reduceLT, Nat.reduceLeDiff, Nat.reducePow, Int.reduceToNat, Int.reduceLT, Int.reduceLE, Int.reduceGT, Int.reduceGE, Int.reduceEq, Int.reduceNeg, Int.reduceAdd, Int.reduceSub, ↓reduceIte, reduceCtorEq, h60, hcl, w1]
  refine ex_end (C := Ans st l vc) (R := Q l vc st (0, _)) (loop L 71 _ l vc st hl _ (0, _) _ ⟨by simp only; omega, by rw [rv_0]; exact h60, fun d hd => rfl⟩ (by simp only; omega) (by unfold hd; rw [e3]; simp only [hd91_0, go_sem, Nat.reduceAdd, Nat.reduceSub, Nat.reduceMul, Nat.reduceEqDiff, Nat.reduceBEq, Nat.reduceLT, Nat.reduceLeDiff, Nat.reducePow, Int.reduceToNat, Int.reduceLT, Int.reduceLE, Int.reduceGT, Int.reduceGE, Int.reduceEq, Int.reduceNeg, Int.reduceAdd, Int.reduceSub, ↓reduceIte, reduceCtorEq, w1])) ?_
  rintro o ⟨st', rfl, q60, qF⟩
  simp only [hx91_0, Try.f91, go_sem, Nat.reduceAdd, Nat.reduceSub, Nat.reduceMul, Nat.reduceEqDiff, Nat.reduceBEq, Nat.reduceLT, Nat.reduceLeDiff, Nat.reducePow, Int.reduceToNat, Int.reduceLT, Int.reduceLE, Int.reduceGT, Int.reduceGE, Int.reduceEq, Int.reduceNeg, Int.reduceAdd, Int.reduceSub, ↓reduceIte, reduceCtorEq]
  exact ⟨_, rfl, q60, qF⟩
end Go.Proofs.Ytjplkbeolakbjaa.RevSens
end
section
set_option linter.unusedVariables false
set_option linter.unusedSimpArgs false
set_option maxRecDepth 100000
namespace Go.Proofs.Ytjplkbeolakbjaa.Bleed2Sens
open Go.Ev Go.Proofs.Ytjplkbeolakbjaa.FxSens Go.Proofs.Ytjplkbeolakbjaa.Out84Sens Go.Proofs.Ytjplkbeolakbjaa.ChkSens Go.Proofs.Ytjplkbeolakbjaa.Bleed1Sens
open Go.Proofs.Ytjplkbeolakbjaa.SizSens (missized sz sz_run wrong_zero sized_zero)
open Go.Pour (put pour take Held zero put_at put_ne pour_le act St act_le)
open Go.Bleed (over exD exU over_nonneg exD_nonneg exU_nonneg bleed col mem_col)
attribute [local go_sem] Ev.putR_s Ev.putR_0 Ev.thenO_s Ev.thenO_0 Ev.seqR_n Ev.seqR_e Ev.seqR_r Ev.seqR_0 Ev.blkR_e Ev.blkR_n Ev.blkR_r Ev.blkR_0 Ev.normR_s Ev.normR_0 Ev.outR_r Ev.outR_n Ev.outR_0 Ev.retS_s Ev.retS_0 Ev.pureO_s Ev.pureO_0 Ev.topR_0 Ev.topR_t Ev.topR_t0 Ev.oneL_0 Ev.oneL_s Ev.topR_d Ev.topR_nils Ev.topR_agg Ev.topR_rs Ev.evOp_move Ev.evOp_assign Ev.evOp_pick Ev.evOp_alloc Ev.evOp_box Ev.evOp_build Ev.evOp_buildSlice Ev.evOp_load Ev.evOp_store Ev.evOp_makeMap Ev.evOp_lookup Ev.evOp_mapUpdate Ev.evOp_insert Ev.evOp_nilCheck Ev.evOp_binOp Ev.evOp_unOp Ev.evOp_convert Ev.evOp_makeFunc Ev.evOp_makeSlice Ev.evOp_slice Ev.evOp_fieldAddr Ev.evOp_field Ev.evOp_indexAddr Ev.evOp_index Ev.evOp_extract Ev.evOp_call Ev.evOp_append Ev.evOp_len Ev.evOp_min Ev.evOp_max Ev.condR_b Ev.condR_t Ev.evOps_nil Ev.evOps_plain Ev.evOps_guard Ev.runG_eq Ev.skipG_eq Ev.condL_tt Ev.condL_ff Ev.condL_tf Ev.condL_ft Ev.condL_u Ev.condC_t Ev.condC_f Ev.evC_skip Ev.evC_ret Ev.evC_exit Ev.evC_label Ev.evC_region Ev.evC_draw Ev.evC_seq Ev.evC_cond Ev.evC_block Ev.evC_loop Ev.fin_d Ev.fin_nils Ev.fin_agg_ Ev.fin_rs Ev.finS_s Ev.mapO_fin Ev.upd_upd Ev.argv_d Ev.argv_nils Ev.argv_agg Ev.argv_rs Ev.argv_p Ev.appendTo_nils Ev.appendTo_rs Ev.consV_d Ev.consV_agg Ev.consV_p Ev.consV_rs Ev.consV_nils Ev.consV_fn Ev.consV_und Ev.consV_jk Ev.consV_grown Ev.topR_grown Ev.len_grown Ev.consV_mp Ev.sameK_i Ev.sameK_s Ev.mget_0 Ev.mget_hit Ev.mget_miss Ev.mput_0 Ev.mput_hit Ev.mput_miss Ev.apartAll Ev.apartL Ev.apartV Ev.freeAll Ev.sel Ev.keyOfV Ev.evLookup Ev.evPut Ev.hintOk Ev.keyOk Ev.consP Ev.lookV Ev.guardV Ev.dstAt Ev.evPure Ev.evStore Ev.evPureB Ev.evBin Ev.evBinO Ev.evNil Ev.isNilC Ev.evUn Ev.evConv Ev.evSlice Ev.optI Ev.lenV Ev.elemT Ev.foldI Ev.capsOk Ev.noTup Ev.nth Ev.setN Ev.pad Ev.V.get Ev.V.put Ev.putD Ev.hasT Ev.newBlk Ev.upd Ev.keq Ev.empty Ev.evCall Ev.V.args Ev.argP Ev.callOf Ev.evNilP Ev.isNilP Ev.look Ev.V.view.views Ev.V.view Ev.V.toD Ev.V.toD.V.toDs Ev.V.pure.pures Ev.V.pure Ev.D.flat.flats Ev.D.flat Ev.mkAgg Ev.allD Ev.aggParts Ev.setParts Ev.setElems Ev.getPath Ev.setPath Ev.subL Ev.eqD Ev.eqD.eqDs Ev.and2 Ev.strCut Ev.evalT Ev.constT Ev.evArgs Ev.mask Ev.maskOf Ev.tableOf Ev.compT Ev.resV Ev.retV Ev.mapO Ev.elemsOf Int.cast_ofNat_Int IntWalk.i64_in IntWalk.u64_in IntWalk.u8_in beq_self_eq_true Bool.true_beq Bool.false_beq Bool.and_true Bool.true_and Bool.false_and Bool.and_false Bool.and_self Bool.not_true Bool.not_false Bool.not_eq_true cond_true cond_false if_true if_false and_true true_and and_self decide_true decide_false Bool.or_true Bool.true_or Bool.or_false Bool.false_or List.isEmpty List.isEmpty_nil List.size_toArray List.map List.length_map List.length_cons List.length_nil Option.map Option.bind Option.getD Option.isSome List.replicate Bool.false_eq_true implies_true forall_const Array.toList Array.isEmpty List.append List.nil_append List.cons_append List.drop_zero List.take_length List.take_succ_cons List.take_zero List.take_nil List.getElem?_map List.getElem?_cons_zero List.getElem?_cons_succ List.getElem?_nil List.append_nil
attribute [local go_sem] FxSens.tk2 FxSens.ik2 FxSens.zv2 FxSens.tk3 FxSens.ik3 FxSens.zv3 FxSens.by3 FxSens.so3 FxSens.tk4 FxSens.ub4 FxSens.zv4 FxSens.tk22 FxSens.ik22 FxSens.zv22 FxSens.tk27 FxSens.ik27 FxSens.zv27 FxSens.by27 FxSens.so27 FxSens.tk32 FxSens.zv32 FxSens.tk36 FxSens.ik36 FxSens.zv36 FxSens.tk47 FxSens.ik47 FxSens.zv47 FxSens.by47 FxSens.so47 FxSens.tk54 FxSens.zv54 FxSens.tk56 FxSens.ct56 FxSens.zv56 FxSens.tk73 FxSens.zv73 FxSens.tk96 FxSens.ik96 FxSens.zv96 FxSens.tk97 FxSens.ct97 FxSens.zv97 FxSens.by97 FxSens.so97 FxSens.tk98 FxSens.zv98 FxSens.tk107 FxSens.zv107 FxSens.tk120 FxSens.zv120 FxSens.tk124 FxSens.zv124 FxSens.tk152 FxSens.zv152 FxSens.tk155 FxSens.zv155 FxSens.mk10_1000000 FxSens.mk15_1000000 FxSens.dw17_6 FxSens.nc17_6 FxSens.mk17_0 FxSens.mk17_1000001 FxSens.mk17_1000002 FxSens.mk17_1000000 FxSens.mk18_1000000 FxSens.mk19_1000000 FxSens.dw39_6 FxSens.nc39_6 FxSens.mk39_0 FxSens.mk39_1000001 FxSens.mk39_1000002 FxSens.mk39_1000000 FxSens.mk42_1000000 FxSens.mk43_1000001 FxSens.mk43_1000000 FxSens.mk44_0 FxSens.mk44_2 FxSens.mk44_1000001 FxSens.mk44_1000002 FxSens.mk44_1000003 FxSens.mk44_1000004 FxSens.mk44_1000000 FxSens.mk45_0 FxSens.mk45_2 FxSens.mk45_4 FxSens.mk45_1000001 FxSens.mk45_1000002 FxSens.mk45_1000003 FxSens.mk45_1000004 FxSens.mk45_1000005 FxSens.mk45_1000006 FxSens.mk45_1000000 FxSens.dw46_28 FxSens.nc46_28 FxSens.mk46_0 FxSens.mk46_2 FxSens.mk46_4 FxSens.mk46_1000001 FxSens.mk46_1000002 FxSens.mk46_1000003 FxSens.mk46_1000004 FxSens.mk46_1000005 FxSens.mk46_1000006 FxSens.mk46_1000000 FxSens.dw47_6 FxSens.nc47_6 FxSens.mk47_0 FxSens.mk47_1000001 FxSens.mk47_1000002 FxSens.mk47_1000000 FxSens.dw48_10 FxSens.nc48_10 FxSens.dw48_11 FxSens.nc48_11 FxSens.mk48_0 FxSens.mk48_1000001 FxSens.mk48_1000002 FxSens.mk48_1000000 FxSens.mk61_1000000 FxSens.mk83_1000000 FxSens.mk84_1000000 FxSens.mk85_1000000 FxSens.mk86_1000000 FxSens.mk87_1000000 FxSens.dw88_1 FxSens.nc88_1 FxSens.mk88_1000000 FxSens.dw89_5 FxSens.nc89_5 FxSens.mk89_0 FxSens.mk89_1000001 FxSens.mk89_1000002 FxSens.mk89_1000000 FxSens.mk90_1000000 FxSens.dw91_3 FxSens.nc91_3 FxSens.mk91_0 FxSens.mk91_1000001 FxSens.mk91_1000002 FxSens.mk91_1000000 FxSens.mk92_1000000 FxSens.mk93_1000000 FxSens.mk94_0 FxSens.mk94_1000001 FxSens.mk94_1000002 FxSens.mk94_1000000 FxSens.dw95_3 FxSens.nc95_3 FxSens.dw95_6 FxSens.nc95_6 FxSens.mk95_0 FxSens.mk95_1000001 FxSens.mk95_1000002 FxSens.mk95_1000000 FxSens.mk114_1000000 FxSens.mk115_1000000 FxSens.mk116_1000000 FxSens.mk117_1000000 FxSens.mk118_1000000 FxSens.mk119_1000000 FxSens.mk128_0 FxSens.mk128_1000001 FxSens.mk128_1000002 FxSens.mk128_1000000 FxSens.mk129_0 FxSens.mk129_1000001 FxSens.mk129_1000002 FxSens.mk129_1000000 FxSens.mk130_0 FxSens.mk130_1000001 FxSens.mk130_1000002 FxSens.mk130_1000000
def cap (full : Int) (q : List Int) (i : Nat) : Int := minI (qf q i) full
theorem cap_bd {full : Int} {q : List Int} (h : outside q 4294967296 = false) (hf : 1 ≤ full) (i : Nat) : 0 ≤ cap full q i ∧ cap full q i ≤ full := by
  have := qf_bd h i
  unfold cap minI
  split <;> omega
def fil (full : Int) (q : List Int) (k i : Nat) : Int := if i < k then cap full q i else 0
theorem fil_0 (full : Int) (q : List Int) (n : Nat) : row n (fil full q 0) = List.replicate n (.d (.int .i64 0)) := by
  unfold row
  rw [List.eq_replicate_iff]
  refine ⟨by simp, fun v hv => ?_⟩
  obtain ⟨i, _, rfl⟩ := List.mem_map.1 hv
  simp [fil]
theorem fil_n (full : Int) (q : List Int) (n : Nat) : row n (fil full q n) = row n (cap full q) := row_congr fun i hi => by simp [fil, hi]
theorem fil_s {full : Int} {q : List Int} {n k : Nat} : row n (put (fil full q k) k (cap full q k)) = row n (fil full q (k + 1)) := row_congr fun i hi => by
  simp only [put, fil]
  by_cases e : i = k
  · subst e; simp
  · rw [if_neg e]
    by_cases e2 : i < k
    · rw [if_pos e2, if_pos (by omega)]
    · rw [if_neg e2, if_neg (by omega)]
/-! ### filling -/
def out (n : Nat) : V := .rs 27 (0, 25) 1 0 n true
def hd0 (q : List Int) (i : Nat) : List V := hd45_0 (p 2) (p 3) (out q.length) (.d (.int .i64 0)) (.d (.sl 27 (q.map (.int .i64)))) (.d (.int .i64 q.length)) (.d (.int .i64 i))
def J0 (full : Int) (q : List Int) (st0 : Store) (x : Nat × Store) : Prop := x.1 ≤ q.length ∧ x.2 (0, 25) = ⟨1, 27, row q.length (fil full q x.1), true⟩ ∧ ∀ d, d ≠ 25 → x.2 (0, d) = st0 (0, d)
def Q0 (full : Int) (q : List Int) (st0 : Store) (x : Nat × Store) (o : Out) : Prop := ∃ st', o = some (.exit 0, hx45_0 (p 2) (p 3) (out q.length) (.d (.int .i64 0)), st') ∧ st' (0, 25) = ⟨1, 27, row q.length (cap full q), true⟩ ∧ ∀ d, d ≠ 25 → st' (0, d) = st0 (0, d)
theorem loop0 (L : Nat) (call : Caller) (s : Sen) (q : List Int) (st0 : Store) (h2 : st0 (0, 2) = bS s) (hl : q.length ≤ 1024) :
    ∀ (m : Nat) (x : Nat × Store) (env : List V), J0 s.full q st0 x → q.length - x.1 < m → mask (maskOf en45.ms 0) env = hd0 q x.1 →
      Q0 s.full q st0 x (iter (evC Try.prog G call L en45.ms 0 0 lb45_0) (maskOf en45.ms 0) m env x.2) := by
  refine iter_rel _ _ (J0 s.full q st0) (fun x => hd0 q x.1) (fun x => x.2) (Q0 s.full q st0) (fun x => q.length - x.1) ?_
  rintro ⟨i, st⟩ ⟨hi, q25, qF⟩ k hk
  simp only at hi q25 qF
  by_cases hin : i < q.length
  case neg =>
    obtain rfl : i = q.length := by omega
    have hlt : ¬ (q.length : Int) < q.length := by omega
    rw [fil_n] at q25
    refine ⟨st, ?_, q25, qF⟩
    simp only [lb45_0, loopN, loops, hd0, out, p, hd45_0, hx45_0, Try.f45, go_sem, Nat.reduceAdd, Nat.reduceSub, Nat.reduceMul, Nat.reduceEqDiff, Nat.reduceBEq, Nat.reduceLT, Nat.reduceLeDiff, Nat.reducePow, Int.reduceToNat, Int.reduceLT, Int.reduceLE, Int.reduceGT, Int.reduceGE, Int.reduceEq, Int.reduceNeg, Int.reduceAdd, Int.reduceSub, ↓reduceIte, reduceCtorEq, hlt]
  have hlt : (i : Int) < q.length := by omega
  have g0 : (0 : Int) ≤ (i : Int) := by omega
  have ht : ((i : Int)).toNat = i := by omega
  have hw1 : IntKind.i64.wrap ((i : Int) + 1) = ((i + 1 : Nat) : Int) := by rw [IntWalk.i64_in _ (by omega)]; rfl
  have hx := qf_get hin
  have hn := row_nth (fil s.full q i) hin
  have hs := row_set (fil s.full q i) (cap s.full q i) hin
  have hrl := row_len q.length (fil s.full q i)
  rw [fil_s] at hs
  have hc : minI (qf q i) s.full = cap s.full q i := rfl
  have hD : s.D = .agg 56 [.int .i64 s.w, .int .i64 s.h, .sl 3 (s.b.map (.int .i64)), .sl 47 (s.d.map (.int .i64)), .sl 3 (s.f.map (.int .i64)), .int .i64 s.full, .int .i64 s.gain, .int .i64 s.noise] := rfl
  have r2 : st (0, 2) = bS s := by rw [qF 2 (by decide)]; exact h2
  have hk' := fun st1 env a b c => (hk (i + 1, st1) env a b c : Q0 s.full q st0 (i + 1, st1) _)
  have hQ : ∀ st1 o, Q0 s.full q st0 (i + 1, st1) o → Q0 s.full q st0 (i, st) o := fun _ _ h => h
  simp only [lb45_0, loopN, loops, hd0, out, p, hd45_0, Try.f45, G, go_sem, Nat.reduceAdd, Nat.reduceSub, Nat.reduceMul, Nat.reduceEqDiff, Nat.reduceBEq, Nat.reduceLT, Nat.reduceLeDiff, Nat.reducePow, Int.reduceToNat, Int.reduceLT, Int.reduceLE, Int.reduceGT, Int.reduceGE, Int.reduceEq, Int.reduceNeg, Int.reduceAdd, Int.reduceSub, ↓reduceIte, reduceCtorEq, hlt, g0, ht, hx, hn, hrl, r2, bS, hD, q25, hc, hs, Nat.zero_add, hw1]
  refine hQ _ _ (hk' _ _ ⟨by omega, by simp only [go_sem, Nat.reduceAdd, Nat.reduceSub, Nat.reduceMul, Nat.reduceEqDiff, Nat.reduceBEq, Nat.reduceLT, Nat.reduceLeDiff, Nat.reducePow, Int.reduceToNat, Int.reduceLT, Int.reduceLE, Int.reduceGT, Int.reduceGE, Int.reduceEq, Int.reduceNeg, Int.reduceAdd, Int.reduceSub, ↓reduceIte, reduceCtorEq], fun d hd => ?_⟩ (by omega) (by simp only [hd0, out, p, hd45_0, go_sem, Nat.reduceAdd, Nat.reduceSub, Nat.reduceMul, Nat.reduceEqDiff, Nat.reduceBEq, Nat.reduceLT, Nat.reduceLeDiff, Nat.reducePow, Int.reduceToNat, Int.reduceLT, Int.reduceLE, Int.reduceGT, Int.reduceGE, Int.reduceEq, Int.reduceNeg, Int.reduceAdd, Int.reduceSub, ↓reduceIte, reduceCtorEq, hw1]))
  have hd' : (d == 25) = false := beq_eq_false_iff_ne.2 hd
  simp only [go_sem, Nat.reduceAdd, Nat.reduceSub, Nat.reduceMul, Nat.reduceEqDiff, Nat.reduceBEq, Nat.reduceLT, Nat.reduceLeDiff, Nat.reducePow, Int.reduceToNat, Int.reduceLT, Int.reduceLE, Int.reduceGT, Int.reduceGE, Int.reduceEq, Int.reduceNeg, Int.reduceAdd, Int.reduceSub, ↓reduceIte, reduceCtorEq, hd', qF d hd]
/-! ### a column -/
def colV (v : Nat) : Nat → V
  | 0 => .nils 3
  | y + 1 => .rs 3 (0, 60) (v + (y + 1)) 0 (y + 1) true
theorem consV_colV (v n : Nat) (vs : List V) : consV (colV v n) vs = some (colV v n :: vs) := by cases n <;> rfl
def colL (w x y : Nat) : List Nat := (List.range y).map fun y => y * w + x
theorem colL_len (w x y : Nat) : (colL w x y).length = y := by simp [colL]
theorem colL_s (w x y : Nat) : cel (colL w x (y + 1)) = cel (colL w x y) ++ [.d (.int .i64 ((y * w + x : Nat) : Int))] := by
  unfold colL cel
  rw [List.range_succ, List.map_append, List.map_append]; rfl
def hd4 (n w h x v : Nat) (lost : Int) (y : Nat) : List V := hd45_4 (p 2) (out n) (.d (.int .i64 lost)) (p 10) (.d (.int .i64 x)) (colV v y) (.d (.int .i64 w)) (.d (.int .i64 x)) (.d (.int .i64 h)) (.d (.int .i64 y))
def J4 (w h x v : Nat) (st0 : Store) (z : Nat × Store) : Prop := z.1 ≤ h ∧ ((z.2 (0, 60)).ver = v + z.1 ∧ (0 < z.1 → z.2 (0, 60) = ⟨v + z.1, 3, cel (colL w x z.1), true⟩)) ∧ ∀ d, d ≠ 60 → d ≠ 59 → z.2 (0, d) = st0 (0, d)
def Q4 (n w h x v : Nat) (lost : Int) (st0 : Store) (z : Nat × Store) (o : Out) : Prop := ∃ st', o = some (.exit 4, hx45_4 (p 2) (out n) (.d (.int .i64 lost)) (p 10) (colV v h) (.d (.int .i64 w)) (.d (.int .i64 x)), st') ∧ st' (0, 60) = ⟨v + h, 3, cel (col w h x), true⟩ ∧ ∀ d, d ≠ 60 → d ≠ 59 → st' (0, d) = st0 (0, d)
theorem loop4 (L : Nat) (call : Caller) (s : Sen) (n w h x v : Nat) (lost : Int) (st0 : Store) (h2 : st0 (0, 2) = bS s) (hw : s.w = w) (hh : 1 ≤ h ∧ h ≤ 32) (hw2 : w ≤ 32) (hx : x < w) :
    ∀ (m : Nat) (z : Nat × Store) (env : List V), J4 w h x v st0 z → h - z.1 < m → mask (maskOf en45.ms 4) env = hd4 n w h x v lost z.1 →
      Q4 n w h x v lost st0 z (iter (evC Try.prog G call L en45.ms 0 0 lb45_4) (maskOf en45.ms 4) m env z.2) := by
  refine iter_rel _ _ (J4 w h x v st0) (fun z => hd4 n w h x v lost z.1) (fun z => z.2) (Q4 n w h x v lost st0) (fun z => h - z.1) ?_
  rintro ⟨y, st⟩ ⟨hi, ⟨qv, q60⟩, qF⟩ k hk
  simp only at hi qv q60 qF
  by_cases hin : y < h
  case neg =>
    obtain rfl : y = h := by omega
    have hlt : ¬ (y : Int) < y := by omega
    refine ⟨st, ?_, q60 (by omega), qF⟩
    simp only [lb45_4, loopN, loops, hd4, out, p, hd45_4, hx45_4, Try.f45, go_sem, Nat.reduceAdd, Nat.reduceSub, Nat.reduceMul, Nat.reduceEqDiff, Nat.reduceBEq, Nat.reduceLT, Nat.reduceLeDiff, Nat.reducePow, Int.reduceToNat, Int.reduceLT, Int.reduceLE, Int.reduceGT, Int.reduceGE, Int.reduceEq, Int.reduceNeg, Int.reduceAdd, Int.reduceSub, ↓reduceIte, reduceCtorEq, hlt]
  have hlt : (y : Int) < h := by omega
  have hw1 : IntKind.i64.wrap ((y : Int) + 1) = ((y + 1 : Nat) : Int) := by rw [IntWalk.i64_in _ (by omega)]; rfl
  have hD : s.D = .agg 56 [.int .i64 w, .int .i64 s.h, .sl 3 (s.b.map (.int .i64)), .sl 47 (s.d.map (.int .i64)), .sl 3 (s.f.map (.int .i64)), .int .i64 s.full, .int .i64 s.gain, .int .i64 s.noise] := by rw [← hw]; rfl
  have r2 : st (0, 2) = bS s := by rw [qF 2 (by decide) (by decide)]; exact h2
  have hm : y * w ≤ 31 * 32 := Nat.mul_le_mul (by omega) hw2
  have w1 : IntKind.i64.wrap ((y : Int) * w) = ((y * w : Nat) : Int) := by rw [← Int.natCast_mul, IntWalk.i64_in _ (by omega)]
  have w2 : IntKind.i64.wrap (((y * w : Nat) : Int) + x) = ((y * w + x : Nat) : Int) := by rw [← Int.natCast_add, IntWalk.i64_in _ (by omega)]
  have hk' := fun st1 env a b c => (hk (y + 1, st1) env a b c : Q4 n w h x v lost st0 (y + 1, st1) _)
  have hQ : ∀ st1 o, Q4 n w h x v lost st0 (y + 1, st1) o → Q4 n w h x v lost st0 (y, st) o := fun _ _ h => h
  have hs := colL_s w x y
  have hcl : (cel (colL w x y)).length = y := by simp [cel, colL]
  have hm8 : (y + 1) * 8 ≤ maxRow := by unfold maxRow; omega
  have hm1 : y + 1 ≤ maxRow := by unfold maxRow; omega
  have hm0 : 1 ≤ maxRow := by unfold maxRow; omega
  by_cases y0 : y = 0
  · have hc : colV v y = .nils 3 := by rw [y0]; rfl
    have hv : V.rs 3 (0, 60) (v + y + 1) 0 1 true = colV v (y + 1) := by rw [y0]; rfl
    have e0 : cel (colL w x y) = [] := by rw [y0]; rfl
    rw [e0, List.nil_append] at hs
    have hm9 : 1 * 8 ≤ maxRow := by unfold maxRow; omega
    simp only [lb45_4, loopN, loops, hd4, hc, appendTo_nils, out, p, hd45_4, Try.f45, G, go_sem, Nat.reduceAdd, Nat.reduceSub, Nat.reduceMul, Nat.reduceEqDiff, Nat.reduceBEq, Nat.reduceLT, Nat.reduceLeDiff, Nat.reducePow, Int.reduceToNat, Int.reduceLT, Int.reduceLE, Int.reduceGT, Int.reduceGE, Int.reduceEq, Int.reduceNeg, Int.reduceAdd, Int.reduceSub, ↓reduceIte, reduceCtorEq, hlt, r2, bS, hD, w1, w2, hw1, hm9, hm0, qv, hv, consV_colV]
    refine hQ _ _ (hk' _ _ ⟨by omega, ⟨by simp only [go_sem, Nat.reduceAdd, Nat.reduceSub, Nat.reduceMul, Nat.reduceEqDiff, Nat.reduceBEq, Nat.reduceLT, Nat.reduceLeDiff, Nat.reducePow, Int.reduceToNat, Int.reduceLT, Int.reduceLE, Int.reduceGT, Int.reduceGE, Int.reduceEq, Int.reduceNeg, Int.reduceAdd, Int.reduceSub, ↓reduceIte, reduceCtorEq]; omega, fun _ => by simp only [go_sem, Nat.reduceAdd, Nat.reduceSub, Nat.reduceMul, Nat.reduceEqDiff, Nat.reduceBEq, Nat.reduceLT, Nat.reduceLeDiff, Nat.reducePow, Int.reduceToNat, Int.reduceLT, Int.reduceLE, Int.reduceGT, Int.reduceGE, Int.reduceEq, Int.reduceNeg, Int.reduceAdd, Int.reduceSub, ↓reduceIte, reduceCtorEq, hs, Nat.add_assoc]⟩, fun d hd1 hd2 => ?_⟩ (by omega) (by simp only [hd4, out, p, hd45_4, go_sem, Nat.reduceAdd, Nat.reduceSub, Nat.reduceMul, Nat.reduceEqDiff, Nat.reduceBEq, Nat.reduceLT, Nat.reduceLeDiff, Nat.reducePow, Int.reduceToNat, Int.reduceLT, Int.reduceLE, Int.reduceGT, Int.reduceGE, Int.reduceEq, Int.reduceNeg, Int.reduceAdd, Int.reduceSub, ↓reduceIte, reduceCtorEq, hw1]))
    have hd1' : (d == 60) = false := beq_eq_false_iff_ne.2 hd1
    have hd2' : (d == 59) = false := beq_eq_false_iff_ne.2 hd2
    simp only [go_sem, Nat.reduceAdd, Nat.reduceSub, Nat.reduceMul, Nat.reduceEqDiff, Nat.reduceBEq, Nat.reduceLT, Nat.reduceLeDiff, Nat.reducePow, Int.reduceToNat, Int.reduceLT, Int.reduceLE, Int.reduceGT, Int.reduceGE, Int.reduceEq, Int.reduceNeg, Int.reduceAdd, Int.reduceSub, ↓reduceIte, reduceCtorEq, hd1', hd2', qF d hd1 hd2]
  · have hc : colV v y = .rs 3 (0, 60) (v + y) 0 y true := by
      cases y with
      | zero => exact absurd rfl y0
      | succ y => rfl
    have hv : V.rs 3 (0, 60) (v + y + 1) 0 (y + 1) true = colV v (y + 1) := rfl
    have hq6 := q60 (by omega)
    simp only [lb45_4, loopN, loops, hd4, hc, appendTo_rs, out, p, hd45_4, Try.f45, G, go_sem, Nat.reduceAdd, Nat.reduceSub, Nat.reduceMul, Nat.reduceEqDiff, Nat.reduceBEq, Nat.reduceLT, Nat.reduceLeDiff, Nat.reducePow, Int.reduceToNat, Int.reduceLT, Int.reduceLE, Int.reduceGT, Int.reduceGE, Int.reduceEq, Int.reduceNeg, Int.reduceAdd, Int.reduceSub, ↓reduceIte, reduceCtorEq, hlt, r2, bS, hD, w1, w2, hw1, hq6, hcl, hm1, hm8, hm0, hv, consV_colV]
    refine hQ _ _ (hk' _ _ ⟨by omega, ⟨by simp only [go_sem, Nat.reduceAdd, Nat.reduceSub, Nat.reduceMul, Nat.reduceEqDiff, Nat.reduceBEq, Nat.reduceLT, Nat.reduceLeDiff, Nat.reducePow, Int.reduceToNat, Int.reduceLT, Int.reduceLE, Int.reduceGT, Int.reduceGE, Int.reduceEq, Int.reduceNeg, Int.reduceAdd, Int.reduceSub, ↓reduceIte, reduceCtorEq]; omega, fun _ => by simp only [go_sem, Nat.reduceAdd, Nat.reduceSub, Nat.reduceMul, Nat.reduceEqDiff, Nat.reduceBEq, Nat.reduceLT, Nat.reduceLeDiff, Nat.reducePow, Int.reduceToNat, Int.reduceLT, Int.reduceLE, Int.reduceGT, Int.reduceGE, Int.reduceEq, Int.reduceNeg, Int.reduceAdd, Int.reduceSub, ↓reduceIte, reduceCtorEq, hs, Nat.add_assoc]⟩, fun d hd1 hd2 => ?_⟩ (by omega) (by simp only [hd4, out, p, hd45_4, go_sem, Nat.reduceAdd, Nat.reduceSub, Nat.reduceMul, Nat.reduceEqDiff, Nat.reduceBEq, Nat.reduceLT, Nat.reduceLeDiff, Nat.reducePow, Int.reduceToNat, Int.reduceLT, Int.reduceLE, Int.reduceGT, Int.reduceGE, Int.reduceEq, Int.reduceNeg, Int.reduceAdd, Int.reduceSub, ↓reduceIte, reduceCtorEq, hw1]))
    have hd1' : (d == 60) = false := beq_eq_false_iff_ne.2 hd1
    have hd2' : (d == 59) = false := beq_eq_false_iff_ne.2 hd2
    simp only [go_sem, Nat.reduceAdd, Nat.reduceSub, Nat.reduceMul, Nat.reduceEqDiff, Nat.reduceBEq, Nat.reduceLT, Nat.reduceLeDiff, Nat.reducePow, Int.reduceToNat, Int.reduceLT, Int.reduceLE, Int.reduceGT, Int.reduceGE, Int.reduceEq, Int.reduceNeg, Int.reduceAdd, Int.reduceSub, ↓reduceIte, reduceCtorEq, hd1', hd2', qF d hd1 hd2]
/-! ### all columns -/
theorem look89 : Ev.look G 89 = none := nr rfl
theorem look91 : Ev.look G 91 = none := nr rfl
theorem bleed_s (full : Int) (q : Nat → Int) (w h x : Nat) (s : St) : bleed full q w h (x + 1) s = act full (exU full q) (col w h x).reverse 0 (act full (exD full q) (col w h x) 0 (bleed full q w h x s)) := by
  unfold bleed
  rw [List.range_succ, List.foldl_append]; rfl
def hd2 (n w : Nat) (x : Nat) (lost : Int) : List V := hd45_2 (p 2) (out n) (.d (.int .i64 lost)) (p 10) (.d (.int .i64 w)) (.d (.int .i64 x))
abbrev X := Nat × St × Store
def Base (s : Sen) (q : List Int) (st : Store) : Prop := st (0, 2) = bS s ∧ st (0, 3) = bQ q ∧ st (0, 10) = bO
def Bd (full : Int) (x : Nat) (t : St) : Prop := (∀ i, 0 ≤ t.1 i ∧ t.1 i ≤ full) ∧ 0 ≤ t.2 ∧ t.2 ≤ x * 8796093022208
def J2 (s : Sen) (q : List Int) (w h : Nat) (x : X) : Prop := x.1 ≤ w ∧ x.2.2 (0, 25) = ⟨1, 27, row q.length x.2.1.1, true⟩ ∧ Base s q x.2.2 ∧ Bd s.full x.1 x.2.1 ∧ x.2.1 = bleed s.full (qf q) w h x.1 (cap s.full q, 0)
def Q2 (s : Sen) (q : List Int) (w h : Nat) (x : X) (o : Out) : Prop := ∃ st', o = some (.exit 2, hx45_2 (out q.length) (.d (.int .i64 (bleed s.full (qf q) w h w (cap s.full q, 0)).2)), st') ∧ st' (0, 25) = ⟨1, 27, row q.length (bleed s.full (qf q) w h w (cap s.full q, 0)).1, true⟩
theorem pour_bd {full B : Int} {ex : Nat → Int} (hB : ∀ i, 0 ≤ ex i ∧ ex i ≤ B) : ∀ (l : List Nat) (f : Int) (h : Held), 0 ≤ f → (∀ i, 0 ≤ h i ∧ h i ≤ full) → (∀ i, 0 ≤ (pour full ex l f h).1 i ∧ (pour full ex l f h).1 i ≤ full) ∧ 0 ≤ (pour full ex l f h).2 ∧ (pour full ex l f h).2 ≤ f + l.length * B
  | [], f, h, hf, hh => ⟨hh, hf, by simp [pour]⟩
  | i :: r, f, h, hf, hh => by
    obtain ⟨x0, x1⟩ := hh i
    obtain ⟨e0, e1⟩ := hB i
    have ht : 0 ≤ take full f (h i) ∧ take full f (h i) ≤ f ∧ h i + take full f (h i) ≤ full := by unfold take; split <;> omega
    have hput : ∀ j, 0 ≤ put h i (h i + take full f (h i)) j ∧ put h i (h i + take full f (h i)) j ≤ full := by
      intro j
      by_cases ej : j = i
      · subst ej
        rw [put_at]
        omega
      · rw [put_ne ej]
        exact hh j
    obtain ⟨a1, a2, a3⟩ := pour_bd hB r (f + (ex i - take full f (h i))) (put h i (h i + take full f (h i))) (by omega) hput
    rw [pour]
    refine ⟨a1, a2, ?_⟩
    rw [List.length_cons, Int.natCast_add, Int.add_mul]
    omega
theorem loop2 (L c : Nat) (hL : 1024 < L) (s : Sen) (q : List Int) (w h : Nat) (hq : outside q 4294967296 = false) (hf : 1 ≤ s.full ∧ s.full ≤ 1048576) (hl : q.length = w * h) (hl2 : q.length ≤ 1024) (hw : s.w = w) (hh : s.h = h) (hw2 : 1 ≤ w ∧ w ≤ 32) (hh2 : 1 ≤ h ∧ h ≤ 32) :
    ∀ (m : Nat) (x : X) (env : List V), J2 s q w h x → w - x.1 < m → mask (maskOf en45.ms 2) env = hd2 q.length w x.1 x.2.1.2 →
      Q2 s q w h x (iter (evC Try.prog G (evF Try.prog G T L (c + 3)) L en45.ms 0 0 lb45_2) (maskOf en45.ms 2) m env x.2.2) := by
  refine iter_rel _ _ (J2 s q w h) (fun x => hd2 q.length w x.1 x.2.1.2) (fun x => x.2.2) (Q2 s q w h) (fun x => w - x.1) ?_
  rintro ⟨x, ⟨held, lost⟩, st⟩ ⟨hx, q25, ⟨q2, q3, q10⟩, ⟨hb, b0, b1⟩, qe⟩ k hk
  simp only at hx q25 q2 q3 q10 hb b0 b1 qe
  by_cases hin : x < w
  case neg =>
    obtain rfl : x = w := by omega
    have hlt : ¬ (x : Int) < x := by omega
    unfold Q2
    rw [← qe]
    refine ⟨st, ?_, q25⟩
    simp only [lb45_2, loopN, loops, hd2, out, p, hd45_2, hx45_2, Try.f45, go_sem, Nat.reduceAdd, Nat.reduceSub, Nat.reduceMul, Nat.reduceEqDiff, Nat.reduceBEq, Nat.reduceLT, Nat.reduceLeDiff, Nat.reducePow, Int.reduceToNat, Int.reduceLT, Int.reduceLE, Int.reduceGT, Int.reduceGE, Int.reduceEq, Int.reduceNeg, Int.reduceAdd, Int.reduceSub, ↓reduceIte, reduceCtorEq, hlt]
  have hlt : (x : Int) < w := by omega
  have hw1 : IntKind.i64.wrap ((x : Int) + 1) = ((x + 1 : Nat) : Int) := by rw [IntWalk.i64_in _ (by omega)]; rfl
  have hD : s.D = .agg 56 [.int .i64 w, .int .i64 h, .sl 3 (s.b.map (.int .i64)), .sl 47 (s.d.map (.int .i64)), .sl 3 (s.f.map (.int .i64)), .int .i64 s.full, .int .i64 s.gain, .int .i64 s.noise] := by rw [← hw, ← hh]; rfl
  have hk' := fun t st1 env a b c => (hk (x + 1, t, st1) env a b c : Q2 s q w h (x + 1, t, st1) _)
  have hQ : ∀ t st1 o, Q2 s q w h (x + 1, t, st1) o → Q2 s q w h (x, (held, lost), st) o := fun _ _ _ h => h
  have hbs := bleed_s s.full (qf q) w h x (cap s.full q, 0)
  rw [← qe] at hbs
  have hcm : ∀ i ∈ col w h x, i < q.length := fun i hi => by rw [hl]; exact ((mem_col hin).1 hi).1
  have hcl : (col w h x).length = h := by simp [col]
  obtain ⟨p1, p2, p3⟩ := pour_bd (exD_bd hq hf.1) (col w h x) 0 held (Int.le_refl 0) hb
  obtain ⟨u1, u2, u3⟩ := pour_bd (exU_bd hq hf.1) (col w h x).reverse 0 (pour s.full (exD s.full (qf q)) (col w h x) 0 held).1 (Int.le_refl 0) p1
  rw [List.length_reverse] at u3
  rw [hcl] at p3 u3
  simp only [lb45_2, loopN, loops, hd2, out, p, hd45_2, Try.f45, go_sem, Nat.reduceAdd, Nat.reduceSub, Nat.reduceMul, Nat.reduceEqDiff, Nat.reduceBEq, Nat.reduceLT, Nat.reduceLeDiff, Nat.reducePow, Int.reduceToNat, Int.reduceLT, Int.reduceLE, Int.reduceGT, Int.reduceGE, Int.reduceEq, Int.reduceNeg, Int.reduceAdd, Int.reduceSub, ↓reduceIte, reduceCtorEq, hlt, q2, bS, hD]
  generalize ho : iter _ _ _ _ _ = o
  have hq4 : Q4 q.length w h x (st (0, 60)).ver lost st (0, st) o := by
    rw [← ho]
    exact loop4 L _ s q.length w h x _ lost st q2 hw hh2 hw2.2 hin _ (0, _) _ ⟨by simp only; omega, ⟨by simp only; omega, fun h => by simp only at h; omega⟩, fun d _ _ => rfl⟩ (by simp only; omega) (by simp only [hd4, colV, out, p, hd45_4, go_sem, Nat.reduceAdd, Nat.reduceSub, Nat.reduceMul, Nat.reduceEqDiff, Nat.reduceBEq, Nat.reduceLT, Nat.reduceLeDiff, Nat.reducePow, Int.reduceToNat, Int.reduceLT, Int.reduceLE, Int.reduceGT, Int.reduceGE, Int.reduceEq, Int.reduceNeg, Int.reduceAdd, Int.reduceSub, ↓reduceIte, reduceCtorEq])
  obtain ⟨st1, rfl, r60, rF⟩ := hq4
  have hcv : colV (st (0, 60)).ver h = .rs 3 (0, 60) ((st (0, 60)).ver + h) 0 h true := by
    cases h with
    | zero => omega
    | succ h => rfl
  generalize (st (0, 60)).ver = v at *
  have s2 : st1 (0, 2) = bS s := by rw [rF 2 (by decide) (by decide)]; exact q2
  have s3 : st1 (0, 3) = bQ q := by rw [rF 3 (by decide) (by decide)]; exact q3
  have s10 : st1 (0, 10) = bO := by rw [rF 10 (by decide) (by decide)]; exact q10
  have s25 : st1 (0, 25) = ⟨1, 27, row q.length held, true⟩ := by rw [rF 25 (by decide) (by decide)]; exact q25
  obtain ⟨st2, e2, t25, tF⟩ := ePour L c s q 68 90 _ (.inl ⟨rfl, rfl, rfl⟩) (v + h) (col w h x) held st1 s2 s3 s10 r60 s25 hq hf hl2 (by omega) (by omega) hcm hb
  have t2 : st2 (0, 2) = bS s := by rw [tF 2 (by decide)]; exact s2
  have t3 : st2 (0, 3) = bQ q := by rw [tF 3 (by decide)]; exact s3
  have t10 : st2 (0, 10) = bO := by rw [tF 10 (by decide)]; exact s10
  have t60 : st2 (0, 60) = ⟨v + h, 3, cel (col w h x), true⟩ := by rw [tF 60 (by decide)]; exact r60
  obtain ⟨st3, e3, v60, vF⟩ := RevSens.eRev L (c + 2) (col w h x) (v + h) st2 t60 (by omega) (by omega)
  have v2 : st3 (0, 2) = bS s := by rw [vF 2 (by decide)]; exact t2
  have v3 : st3 (0, 3) = bQ q := by rw [vF 3 (by decide)]; exact t3
  have v10 : st3 (0, 10) = bO := by rw [vF 10 (by decide)]; exact t10
  have v25 := (vF 25 (by decide)).trans t25
  obtain ⟨st4, e4, w25, wF⟩ := ePour L c s q 77 92 _ (.inr ⟨rfl, rfl, rfl⟩) (v + h) (col w h x).reverse _ st3 v2 v3 v10 v60 v25 hq hf hl2 (by rw [List.length_reverse]; omega) (by rw [List.length_reverse]; omega) (fun i hi => hcm i (List.mem_reverse.1 hi)) p1
  have w2 : st4 (0, 2) = bS s := by rw [wF 2 (by decide)]; exact v2
  have w3 : st4 (0, 3) = bQ q := by rw [wF 3 (by decide)]; exact v3
  have w10 : st4 (0, 10) = bO := by rw [wF 10 (by decide)]; exact v10
  rw [List.length_reverse] at e4
  rw [hcl, hD] at e2
  rw [hcl] at e3
  rw [hcl, hD] at e4
  have s2' := s2
  have v2' := v2
  have hfin : ∀ st5 env, st5 (0, 25) = st4 (0, 25) → Base s q st5 → mask (maskOf en45.ms 2) env = hd2 q.length w (x + 1) (bleed s.full (qf q) w h (x + 1) (cap s.full q, 0)).2 → Q2 s q w h (x, (held, lost), st) (k env st5) := by
    intro st5 env a b cc
    refine hQ _ _ _ (hk' (bleed s.full (qf q) w h (x + 1) (cap s.full q, 0)) st5 env ⟨by simp only; omega, ?_, b, ?_, rfl⟩ (by simp only; omega) cc)
    · simp only
      rw [a, w25, hbs]; rfl
    · rw [hbs]
      unfold Bd act
      simp only
      exact ⟨u1, by omega, by omega⟩
  rw [hbs] at hfin
  unfold act at hfin
  simp only at hfin
  generalize (pour s.full (exU s.full (qf q)) (col w h x).reverse 0 (pour s.full (exD s.full (qf q)) (col w h x) 0 held).1) = PU at *
  generalize pour s.full (exD s.full (qf q)) (col w h x) 0 held = PD at *
  have y1 : IntKind.i64.wrap (lost + PD.2) = lost + PD.2 := IntWalk.i64_in _ (by omega)
  have y2 : IntKind.i64.wrap (lost + PD.2 + PU.2) = lost + PD.2 + PU.2 := IntWalk.i64_in _ (by omega)
  unfold p at e2 e4
  simp only [hx45_4, out, p, hcv, Try.f45, go_sem, Nat.reduceAdd, Nat.reduceSub, Nat.reduceMul, Nat.reduceEqDiff, Nat.reduceBEq, Nat.reduceLT, Nat.reduceLeDiff, Nat.reducePow, Int.reduceToNat, Int.reduceLT, Int.reduceLE, Int.reduceGT, Int.reduceGE, Int.reduceEq, Int.reduceNeg, Int.reduceAdd, Int.reduceSub, ↓reduceIte, reduceCtorEq, look89, s2, bS, hD, e2, y1]
  simp only [go_sem, Nat.reduceAdd, Nat.reduceSub, Nat.reduceMul, Nat.reduceEqDiff, Nat.reduceBEq, Nat.reduceLT, Nat.reduceLeDiff, Nat.reducePow, Int.reduceToNat, Int.reduceLT, Int.reduceLE, Int.reduceGT, Int.reduceGE, Int.reduceEq, Int.reduceNeg, Int.reduceAdd, Int.reduceSub, ↓reduceIte, reduceCtorEq, look91, e3]
  simp only [go_sem, Nat.reduceAdd, Nat.reduceSub, Nat.reduceMul, Nat.reduceEqDiff, Nat.reduceBEq, Nat.reduceLT, Nat.reduceLeDiff, Nat.reducePow, Int.reduceToNat, Int.reduceLT, Int.reduceLE, Int.reduceGT, Int.reduceGE, Int.reduceEq, Int.reduceNeg, Int.reduceAdd, Int.reduceSub, ↓reduceIte, reduceCtorEq, look89, v2, bS, hD, e4, y2, hw1]
  exact hfin _ _ rfl ⟨w2, w3, w10⟩ (by simp only [hd2, out, p, hd45_2, go_sem, Nat.reduceAdd, Nat.reduceSub, Nat.reduceMul, Nat.reduceEqDiff, Nat.reduceBEq, Nat.reduceLT, Nat.reduceLeDiff, Nat.reducePow, Int.reduceToNat, Int.reduceLT, Int.reduceLE, Int.reduceGT, Int.reduceGE, Int.reduceEq, Int.reduceNeg, Int.reduceAdd, Int.reduceSub, ↓reduceIte, reduceCtorEq, hw1])
end Go.Proofs.Ytjplkbeolakbjaa.Bleed2Sens
end
