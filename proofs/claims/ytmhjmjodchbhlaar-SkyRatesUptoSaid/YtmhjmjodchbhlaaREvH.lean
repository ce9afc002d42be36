/- The evaluator's soundness, seventh part: zeros, structs and rows that are made. -/
import Derived.Test.YtmhjmjodchbhlaaREvG
set_option linter.unusedVariables false
set_option linter.unusedSimpArgs false
set_option linter.unusedSectionVars false
namespace Go.Ev
open Go.RowKit

section
variable {P : Program} {S : Nat → Prop} {σ : Sig} {st : Store} {w : World}

/-- A zero stands for its cells, whatever memory holds. -/
def ZOk (P : Program) (S : Nat → Prop) (σ : Sig) (st : Store) (w : World) (t : TypeId) (cs : List Value) (v : V) : Prop := RelC P S σ st w v cs ∧ hasT P t v = true ∧ cs.length = szOf P t
theorem zeroOne_rel {x : Value} {v : V} (h : zeroOne x = some v) : RelC P S σ st w v [x] ∧ v.isAgg = false ∧ (∃ d, v = .d d ∧ ∀ t ds, d ≠ .agg t ds) := by
  cases x <;> first
    | (simp [zeroOne] at h; subst h; exact ⟨rfl, rfl, _, rfl, fun _ _ h => by cases h⟩)
    | (rename_i A; cases A <;> simp [zeroOne] at h; subst h; exact ⟨rfl, rfl, _, rfl, fun _ _ h => by cases h⟩)
    | simp [zeroOne] at h
theorem zeroGo_sound {z : TypeId → List Value → Option V} (hz : ∀ e cs v, z e cs = some v → ZOk P S σ st w e cs v) {t : TypeId} : ∀ {sz : List Nat} {i : Nat} {cs : List Value} {vs : List V}, zeroGo P z t i sz cs = some vs →
    ∃ css, css.flatten = cs ∧ css.map List.length = sz ∧ RelC.rels P S σ st w vs css
  | [], i, [], vs, h => by simp [zeroGo] at h; subst h; exact ⟨[], rfl, rfl, rfl⟩
  | [], i, _ :: _, vs, h => by simp [zeroGo] at h
  | s :: sz, i, cs, vs, h => by
    unfold zeroGo at h
    split at h
    · rename_i hs
      split at h
      · rename_i e he
        split at h
        · rename_i v r h1 h2
          split at h
          · rename_i hse
            cases h
            obtain ⟨css, g1, g2, g3⟩ := zeroGo_sound hz h2
            refine ⟨cs.take s :: css, by simp [g1], by simp [g2]; omega, ⟨_, _, rfl, (hz _ _ _ h1).1, g3⟩⟩
          · cases h
        · cases h
      · cases h
    · cases h
theorem hasT_mkAgg {t : TypeId} {vs : List V} {n : Nat} {r : Bool} (h : tk P t = .agg n r) : hasT P t (mkAgg t vs) = true := by
  unfold mkAgg
  split <;> simp [hasT, h]
theorem zeroAt_sound : ∀ (n : Nat) (t : TypeId) (cs : List Value) (v : V), zeroAt P n t cs = some v → ZOk P S σ st w t cs v
  | 0, t, cs, v, h => by simp [zeroAt] at h
  | n + 1, t, cs, v, h => by
    unfold zeroAt at h
    split at h
    · rename_i e hk
      split at h
      · cases h
        exact ⟨⟨none, rfl⟩, by simp [hasT, hk], by simp [(tk_sl hk).2.1]⟩
      · cases h
    · rename_i hk
      split at h
      · rename_i x
        split at h
        · rename_i z hz
          cases h
          obtain ⟨h1, h2, d, rfl, h3⟩ := zeroOne_rel (P := P) (S := S) (σ := σ) (st := st) (w := w) hz
          refine ⟨h1, ?_, by simp [(tk_one hk).1]⟩
          cases d <;> first
            | exact absurd rfl (h3 _ _)
            | simp [hasT, hk]
        · split at h
          · rename_i hx
            cases h
            exact ⟨⟨x, rfl, hx⟩, by simp [hasT, hk], by simp [(tk_one hk).1]⟩
          · cases h
      · cases h
    · rename_i m r hk
      split at h
      · rename_i sz hsz
        simp only [Option.map_eq_some_iff] at h
        obtain ⟨vs, h1, rfl⟩ := h
        obtain ⟨css, rfl, g2, g3⟩ := zeroGo_sound (zeroAt_sound n) h1
        refine ⟨mkAgg_rel (by rw [g2]; exact hsz) g3, hasT_mkAgg hk, ?_⟩
        rw [length_flatten', g2, comps_sum hsz]
      · cases h
    · cases h
theorem zeroV_sound {t : TypeId} {v : V} (h : zeroV P t = some v) : ∃ i z, P.info? t = some i ∧ i.zero = some z ∧ ZOk P S σ st w t z.cells.toList v := by
  unfold zeroV at h
  split at h
  · rename_i z hz
    simp only [Option.bind_eq_some_iff] at hz
    obtain ⟨i, hi, hz⟩ := hz
    exact ⟨i, z, hi, hz, zeroAt_sound 9 t _ v h⟩
  · cases h

/-! ### parts put into cells -/
theorem fold_set_list (off : Nat) : ∀ (vs : List Value) (k : Nat) (cells : Array Value), off + k + vs.length ≤ cells.size →
    ((vs.zipIdx k).foldl (fun (cs : Array Value) (x : Value × Nat) => cs.setIfInBounds (off + x.2) x.1) cells).toList = cells.toList.take (off + k) ++ vs ++ cells.toList.drop (off + k + vs.length)
  | [], k, cells, h => by simp
  | v :: vs, k, cells, h => by
    simp only [List.zipIdx_cons, List.foldl_cons]
    have hlt : off + k < cells.size := by simp at h; omega
    rw [fold_set_list off vs (k + 1) _ (by simp at h ⊢; omega)]
    rw [Array.toList_setIfInBounds]
    have e1 : (cells.toList.set (off + k) v).take (off + (k + 1)) = cells.toList.take (off + k) ++ [v] := by
      apply List.ext_getElem?
      intro j
      by_cases hj : j < off + (k + 1)
      · rw [List.getElem?_take_of_lt hj]
        by_cases hj' : j < off + k
        · rw [List.getElem?_append_left (by simp; omega), List.getElem?_take_of_lt hj', List.getElem?_set_ne (by omega)]
        · have : j = off + k := by omega
          subst this
          rw [List.getElem?_append_right (by simp; omega), List.getElem?_set_self (by simpa using hlt)]
          simp [Nat.min_eq_left (Nat.le_of_lt hlt)]
      · rw [List.getElem?_eq_none (by simp; omega), List.getElem?_eq_none (by simp; omega)]
    have e2 : (cells.toList.set (off + k) v).drop (off + (k + 1) + vs.length) = cells.toList.drop (off + k + (v :: vs).length) := by
      rw [List.drop_set_of_lt (by omega)]
      congr 1; simp; omega
    rw [e1, e2]; simp
theorem fold_set (off : Nat) (vs cells : Array Value) (h : off + vs.size ≤ cells.size) :
    (vs.zipIdx.foldl (fun (cs : Array Value) (x : Value × Nat) => cs.setIfInBounds (off + x.2) x.1) cells).toList = cells.toList.take off ++ vs.toList ++ cells.toList.drop (off + vs.size) := by
  rw [← Array.foldl_toList, Array.toList_zipIdx]
  have := fold_set_list off vs.toList 0 cells (by simpa using h)
  simpa using this

theorem fill_cons (place : Nat → Option (Nat × Nat)) (cells : Array Value) (i off size : Nat) (v : Value) (rest : List (Nat × Value)) (hp : place i = some (off, size)) (hs : v.cells.size = size) (hl : off + v.cells.size ≤ cells.size) :
    Instr.fill place cells ((i, v) :: rest) = Instr.fill place (v.cells.zipIdx.foldl (fun cs (c, j) => cs.setIfInBounds (off + j) c) cells) rest := by
  simp only [Instr.fill, hp]
  rw [if_neg (by simp only [Bool.or_eq_true, decide_eq_true_eq, not_or]; exact ⟨fun h => h hs, by omega⟩)]

theorem fill_step {place : Nat → Option (Nat × Nat)} {l : List Nat} {css : List (List Value)} {cells : Array Value} {vs : List V} {i : Nat} {v : V} {val : Value} {e : TypeId} {rest : List (Nat × Value)}
    (hcells : cells.toList = css.flatten) (hmap : css.map List.length = l) (hrel : RelC.rels P S σ st w vs css) (hp : place i = some ((l.take i).sum, szOf P e)) (hi : i < vs.length) (hls : l[i]? = some (szOf P e))
    (ht : hasT P e v = true) (hv : RelV P S σ st w v val) :
    ∃ cells' css', Instr.fill place cells ((i, val) :: rest) = Instr.fill place cells' rest ∧ cells'.toList = css'.flatten ∧ css'.map List.length = l ∧ RelC.rels P S σ st w (setN vs i v) css' := by
  obtain ⟨hc, _⟩ := (hv.n (hasT_tup ht)).cells (hasT_und ht)
  have hlen := hasT_length ht hc
  have hcss := rels_length hrel
  have hil : i < css.length := by omega
  have hci : css[i]? = some css[i] := List.getElem?_eq_getElem hil
  have hcl : css[i].length = szOf P e := by
    rw [← hmap] at hls
    simp only [List.getElem?_map, hci, Option.map_some, Option.some.injEq] at hls
    exact hls
  obtain ⟨g1, g2⟩ := flatten_at hci
  rw [hmap] at g1 g2
  have hsz : cells.size = css.flatten.length := by rw [← hcells]; simp
  have hl1 : val.cells.size = szOf P e := by simpa using hlen
  refine ⟨_, css.set i val.cells.toList, fill_cons place cells i _ _ val rest hp hl1 (by omega), ?_, ?_, ?_⟩
  · have := fold_set (l.take i).sum val.cells cells (by omega)
    rw [this, hcells, flatten_set hci (by omega), hmap]
    congr 3; omega
  · rw [map_length_set hci (by omega)]; exact hmap
  · rw [setN_eq]; exact rels_set hrel hc

theorem setParts_sound {ρ : TypeId → Operand → V} {t : TypeId} {l : List Nat} {place : Nat → Option (Nat × Nat)} {a : Act} (hρ : ∀ t o, RelV P S σ st w (ρ t o) (a.eval o)) (hcomp : comps P t = some l)
    (hp : ∀ i e, compT P t i = some e → i < l.length → place i = some ((l.take i).sum, szOf P e)) : ∀ {parts : List (Nat × Operand)} {vs vs' : List V} {css : List (List Value)} {cells : Array Value}, setParts P ρ t vs parts = some vs' →
    cells.toList = css.flatten → css.map List.length = l → RelC.rels P S σ st w vs css →
    ∃ cells' css', Instr.fill place cells (parts.map fun x => (x.1, a.eval x.2)) = some cells' ∧ cells'.toList = css'.flatten ∧ css'.map List.length = l ∧ RelC.rels P S σ st w vs' css'
  | [], vs, vs', css, cells, h, h1, h2, h3 => by
    simp only [setParts, Option.some.injEq] at h; subst h
    exact ⟨cells, css, rfl, h1, h2, h3⟩
  | (i, o) :: r, vs, vs', css, cells, h, h1, h2, h3 => by
    unfold setParts at h
    split at h
    · rename_i e he
      split at h
      · rename_i hc
        have hlen := rels_length h3
        have hil : i < l.length := by rw [← h2]; simp; omega
        obtain ⟨cells1, css1, g1, g2, g3, g4⟩ := fill_step (rest := r.map fun x => (x.1, a.eval x.2)) h1 h2 h3 (hp i e he hil) hc.1 (comps_at hcomp he hil) hc.2 (hρ e o)
        obtain ⟨cells2, css2, f1, f2, f3, f4⟩ := setParts_sound hρ hcomp hp h g2 g3 g4
        exact ⟨cells2, css2, by simp only [List.map_cons]; rw [g1]; exact f1, f2, f3, f4⟩
      · cases h
    · cases h
theorem setElems_sound {ρ : TypeId → Operand → V} {e : TypeId} {n : Nat} {a : Act} (hρ : ∀ t o, RelV P S σ st w (ρ t o) (a.eval o)) : ∀ {parts : List (Nat × Operand)} {vs vs' : List V} {css : List (List Value)} {cells : Array Value}, setElems P ρ e vs parts = some vs' →
    cells.toList = css.flatten → css.map List.length = List.replicate n (szOf P e) → RelC.rels P S σ st w vs css →
    ∃ cells' css', Instr.fill (fun i => some (i * szOf P e, szOf P e)) cells (parts.map fun x => (x.1, a.eval x.2)) = some cells' ∧ cells'.toList = css'.flatten ∧ css'.map List.length = List.replicate n (szOf P e) ∧ RelC.rels P S σ st w vs' css'
  | [], vs, vs', css, cells, h, h1, h2, h3 => by
    simp only [setElems, Option.some.injEq] at h; subst h
    exact ⟨cells, css, rfl, h1, h2, h3⟩
  | (i, o) :: r, vs, vs', css, cells, h, h1, h2, h3 => by
    unfold setElems at h
    split at h
    · rename_i hc
      have hlen := rels_length h3
      have hn : css.length = n := by have := congrArg List.length h2; simpa using this
      have hil : i < n := by omega
      obtain ⟨cells1, css1, g1, g2, g3, g4⟩ := fill_step (place := fun i => some (i * szOf P e, szOf P e)) (rest := r.map fun x => (x.1, a.eval x.2)) h1 h2 h3
        (by simp only [List.take_replicate, sum_replicate', Nat.min_eq_left (Nat.le_of_lt hil)]) hc.1 (by simp [hil]) hc.2 (hρ e o)
      obtain ⟨cells2, css2, f1, f2, f3, f4⟩ := setElems_sound hρ h g2 g3 g4
      exact ⟨cells2, css2, by simp only [List.map_cons]; rw [g1]; exact f1, f2, f3, f4⟩
    · cases h

/-! ### rows of zeros -/
theorem zeros_list (z : List Value) (n : Nat) (h : 0 < z.length) : ((List.range (n * z.length)).map fun i => z.toArray[i % z.toArray.size]!) = (List.replicate n z).flatten := by
  have hl : ((List.replicate n z).flatten).length = n * z.length := by simp [length_flatten_eq (css := List.replicate n z) (s := z.length) (fun c hc => by rw [List.eq_of_mem_replicate hc])]
  apply List.ext_getElem?
  intro j
  by_cases hj : j < n * z.length
  · have hq : j / z.length < n := Nat.div_lt_of_lt_mul (by rw [Nat.mul_comm]; exact hj)
    have hci : (List.replicate n z)[j / z.length]? = some z := by simp [hq]
    obtain ⟨g1, g2⟩ := flatten_at hci
    have hr := Nat.mod_lt j h
    have := g2 (j % z.length) hr
    rw [take_sum_const (s := z.length) (fun c hc => by rw [List.eq_of_mem_replicate hc]) (by simp; omega)] at this
    rw [Nat.mul_comm, Nat.div_add_mod] at this
    rw [this]
    simp only [List.getElem?_map, List.getElem?_range hj, Option.map_some, List.size_toArray]
    rw [List.getElem?_eq_getElem hr]
    simp [hr]
  · rw [List.getElem?_eq_none (by simp; omega), List.getElem?_eq_none (by rw [hl]; omega)]
theorem zeros_arr (z : Array Value) (n : Nat) (h : 0 < z.size) : ((Array.range (n * z.size)).map (fun i => z[i % z.size]!)).toList = (List.replicate n z.toList).flatten := by
  have := zeros_list z.toList n (by simpa using h)
  simpa using this
theorem rels_replicate {v : V} {c : List Value} (h : RelC P S σ st w v c) : ∀ n, RelC.rels P S σ st w (List.replicate n v) (List.replicate n c)
  | 0 => rfl
  | n + 1 => ⟨c, List.replicate n c, rfl, h, rels_replicate h n⟩
end
end Go.Ev
